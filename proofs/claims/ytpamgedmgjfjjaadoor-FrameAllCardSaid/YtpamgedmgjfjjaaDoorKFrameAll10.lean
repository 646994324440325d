/-
Lemmas for FrameAll, for every input they speak of: XFRead, XFTry, XFGet, XFGet1, XFGetP.
-/
import Derived.Test.YtpamgedmgjfjjaaDoorKFrameAll09
import Derived.Defers
import Derived.Recover
section
namespace Go.Proofs.YtpamgedmgjfjjaaDoor.M
open Go.RowKit Go.Proofs.YtpamgedmgjfjjaaDoorW.PrintWords Go.Proofs.YtpamgedmgjfjjaaDoorW.PrintLast Go.Proofs.YtpamgedmgjfjjaaDoorW.PrintMore
set_option linter.unusedVariables false
set_option linter.unusedSimpArgs false
structure RdAt (w0 w : World) (g : Nat) (l : List Int) : Prop where
  hg : w0.heap.size ≤ g
  hb : Below w0.heap.size w0 w
  ex : ∃ A c, w.heap[g]? = some (.cells #[.slice A l.length c] 85 (0, 0)) ∧ l.length ≤ c ∧ (Kd.int .u8).C w0 A l.length l
structure OnlyG (g : Nat) (w w' : World) : Prop where
  low : Below g w w'
  keep : KeepBut w w' g none
theorem OnlyG.refl (g : Nat) (w : World) : OnlyG g w w := ⟨Below.refl g w, KeepBut.refl w g none⟩
theorem OnlyG.trans {g : Nat} {a b c : World} (h : OnlyG g a b) (k : OnlyG g b c) : OnlyG g a c := ⟨h.low.trans k.low, h.keep.trans k.keep (.inl rfl)⟩
theorem OnlyG.set {g : Nat} {w w' : World} (h : OnlyG g w w') (i : Nat) (v : Value) : OnlyG g w (w'.setCell ⟨g, i, none⟩ v) := ⟨h.low.setCell (p := ⟨g, i, none⟩) (Nat.le_refl _) _, h.keep.set_ _ _⟩
theorem OnlyG.drew {g : Nat} {w w' : World} (h : OnlyG g w w') : OnlyG g w w'.drew := ⟨Below.drew h.low, h.keep⟩
theorem OnlyG.below {w0 w w' : World} {g : Nat} (hg : w0.heap.size ≤ g) (hb : Below w0.heap.size w0 w) (h : OnlyG g w w') : Below w0.heap.size w0 w' := hb.trans (h.low.mono hg)
@[reducible] def Thrown (k : Int) : List PanicEntry := [{ v := .iface 30 (.int .i64 k), recovered := false }]
set_option maxHeartbeats 2000000 in
set_option maxRecDepth 100000 in
theorem take_ok (w0 w : World) (g : Nat) (l : List Int) (n : Int) (h0 : 0 ≤ n) (hn : n ≤ l.length) (hl : l.length ≤ 1000000) (h : RdAt w0 w g l) :
    Calls Tryd.prog 73 #[.pointer (some ⟨g, 0, none⟩), .int .i64 n] w fun e w' => ∃ A c, e = .returned (.slice A n.toNat c) ∧ n.toNat ≤ c ∧ (Kd.int .u8).C w0 A n.toNat (l.take n.toNat) ∧ RdAt w0 w' g (l.drop n.toNat) ∧ OnlyG g w w' := by
  obtain ⟨i, hi, hsz⟩ := Option.map_eq_some_iff.1 size33
  obtain ⟨hg, hb, A, c, hblk, hc, hC⟩ := h
  have HT := Aside0.mk (Kd.C_mid (lo := 0) (hi := n.toNat) (c := c) hC (by omega) (by omega) hc)
  have HD := Aside0.mk (Kd.C_drop (m := n.toNat) (c := c) hC (by omega) hc)
  have s1 := cut_to (P := Tryd.prog) 33 5 .i64 Tryd.underlying33 hi A l.length c n h0 hn hc
  have s2 := cut_from (P := Tryd.prog) 33 5 .i64 Tryd.underlying33 hi 1 hsz A l.length c n h0 hn
  have c1 := blk_cell hblk 0
  have f1 := blk_frozen hblk 0
  have n1 : decide (n > (l.length : Int)) = false := decide_eq_false (by omega)
  have n2 : decide ((l.length : Int) < n) = false := decide_eq_false (by omega)
  have HBL := Aside0.mk hblk
  have HB := Aside0.mk hb
  have HG := Aside0.mk hg
  have HC := Aside0.mk hc
  have HN := Aside0.mk hn
  have H0 := Aside0.mk h0
  obtain ⟨A2, hA2⟩ : ∃ A2, (if c = n.toNat then A else A.map (·.add (n.toNat * 1))) = A2 := ⟨_, rfl⟩
  rw [hA2] at s2
  have HA2 := Aside0.mk hA2
  clear hg hb hC hc hA2 hn h0
  simp only [List.getElem?_toArray, List.getElem?_cons_zero] at c1
  go_enter Tryd.func73, Tryd.ntmps73
  go_wp2
  go_ret
  have hl' : (l.drop n.toNat).length = l.length - n.toNat := List.length_drop
  refine ⟨A, c, rfl, by have := HC.out; have := HN.out; have := H0.out; omega, ?_, ⟨HG.out, OnlyG.below HG.out HB.out ((OnlyG.refl g w).set _ _), A2, c - n.toNat, ?_, by have := HC.out; omega, ?_⟩, (OnlyG.refl g w).set _ _⟩
  · have := HT.out
    simp only [List.drop_zero] at this
    rw [List.length_take, Nat.min_eq_left (by have := HN.out; omega)] at this
    by_cases hc0 : c = 0
    · rw [if_pos hc0] at this; exact this
    · rw [if_neg hc0] at this; simpa [Addr.add] using this
  · rw [hl']
    exact blk_put HBL.out 0 _ rfl
  · have := HD.out
    rw [← HA2.out]
    exact this
set_option maxHeartbeats 2000000 in
set_option maxRecDepth 100000 in
theorem take_bad (w0 w : World) (g : Nat) (l : List Int) (n : Int) (hn : (l.length : Int) < n) (h : RdAt w0 w g l) :
    Calls Tryd.prog 73 #[.pointer (some ⟨g, 0, none⟩), .int .i64 n] w fun e w' => e = .panicked (Thrown 2) ∧ OnlyG g w w' := by
  obtain ⟨hg, hb, A, c, hblk, hc, hC⟩ := h
  have c1 := blk_cell hblk 0
  have n1 : decide (n > (l.length : Int)) = true := decide_eq_true (by omega)
  have n2 : decide ((l.length : Int) < n) = true := decide_eq_true (by omega)
  simp only [List.getElem?_toArray, List.getElem?_cons_zero] at c1
  clear hC
  go_enter Tryd.func73, Tryd.ntmps73
  go_wp2
  exact ⟨rfl, rfl, OnlyG.refl g w⟩
set_option maxHeartbeats 2000000 in
set_option maxRecDepth 100000 in
theorem end_ok (w0 w : World) (g : Nat) (h : RdAt w0 w g []) : Calls Tryd.prog 58 #[.pointer (some ⟨g, 0, none⟩)] w fun e w' => e = .returned (.tuple #[]) ∧ w' = w := by
  obtain ⟨hg, hb, A, c, hblk, hc, hC⟩ := h
  have c1 := blk_cell hblk 0
  simp only [List.getElem?_toArray, List.getElem?_cons_zero, List.length_nil] at c1
  clear hC
  go_enter Tryd.func58, Tryd.ntmps58
  go_wp2
  go_end0
  exact ⟨rfl, rfl⟩
set_option maxHeartbeats 2000000 in
set_option maxRecDepth 100000 in
theorem end_bad (w0 w : World) (g : Nat) (l : List Int) (hl : l ≠ []) (h : RdAt w0 w g l) : Calls Tryd.prog 58 #[.pointer (some ⟨g, 0, none⟩)] w fun e w' => e = .panicked (Thrown 2) ∧ w' = w := by
  obtain ⟨hg, hb, A, c, hblk, hc, hC⟩ := h
  have c1 := blk_cell hblk 0
  have h1 : 0 < l.length := List.length_pos_iff.2 hl
  have n1 : decide ((l.length : Int) > 0) = true := decide_eq_true (by omega)
  have n2 : decide (0 < (l.length : Int)) = true := decide_eq_true (by omega)
  have n3 : decide (0 < l.length) = true := decide_eq_true (by omega)
  simp only [List.getElem?_toArray, List.getElem?_cons_zero] at c1
  clear hC hl
  go_enter Tryd.func58, Tryd.ntmps58
  go_wp2
  exact ⟨rfl, rfl, rfl⟩
theorem must_ok (w : World) : Calls Tryd.prog 59 #[.bool true] w fun e w' => e = .returned (.tuple #[]) ∧ w' = w := by
  go_enter Tryd.func59, Tryd.ntmps59
  go_wp2
  go_end0
  exact ⟨rfl, rfl⟩
theorem must_bad (w : World) : Calls Tryd.prog 59 #[.bool false] w fun e w' => e = .panicked (Thrown 1) ∧ w' = w := by
  go_enter Tryd.func59, Tryd.ntmps59
  go_wp2
  exact ⟨rfl, rfl, rfl⟩
def numL (l : List Int) : Int := l.foldl (fun v x => v * 256 + x) 0
theorem numL_step (l : List Int) (k : Nat) (x : Int) (h : l[k]? = some x) : numL (l.take (k + 1)) = numL (l.take k) * 256 + x := by
  rw [List.take_add_one, h]
  simp [numL]
def Bytes (l : List Int) : Prop := ∀ x ∈ l, 0 ≤ x ∧ x ≤ 255
theorem numL_bound0 (l : List Int) : ∀ acc : Int, 0 ≤ acc → Bytes l → 0 ≤ l.foldl (fun v x => v * 256 + x) acc ∧ l.foldl (fun v x => v * 256 + x) acc + 1 ≤ (acc + 1) * 256 ^ l.length := by
  induction l with
  | nil => intro acc h0 _; simp; exact h0
  | cons x t ih =>
    intro acc h0 hl
    have hx := hl x (by simp)
    have h := ih (acc * 256 + x) (by omega) (fun y hy => hl y (by simp [hy]))
    refine ⟨h.1, Int.le_trans h.2 ?_⟩
    rw [List.length_cons, Int.pow_succ, Int.mul_comm (256 ^ t.length) 256, ← Int.mul_assoc]
    exact Int.mul_le_mul_of_nonneg_right (by omega) (Int.pow_nonneg (by decide))
theorem wraps_i64 (n : Int) (h₀ : 0 ≤ n) (h₁ : n < 2 ^ 63) : IntKind.i64.wrap n = n := by rw [IntKind.wrap_i64]; omega
theorem or8 (v x : Int) (h0 : 0 ≤ v) (h1 : v < 16777216) (h2 : 0 ≤ x) (h3 : x ≤ 255) : bits BinOp.or IntKind.i64 (wrap64 (v * 256)) (wrap64 x) = v * 256 + x := by
  rw [show wrap64 (v * 256) = v * 256 by unfold wrap64; omega, show wrap64 x = x by unfold wrap64; omega]
  exact bits_join .i64 63 (by decide) wraps_i64 8 (v * 256) x (by omega) (by omega) (by omega) h2 (by omega) (by omega)
theorem pow256 (k : Nat) (hk : k ≤ 3) : (256 : Int) ^ k ≤ 16777216 := by
  match k, hk with
  | 0, _ => decide
  | 1, _ => decide
  | 2, _ => decide
  | 3, _ => decide
theorem numL_bound (l : List Int) (hl : Bytes l) : 0 ≤ numL l ∧ numL l + 1 ≤ 256 ^ l.length := by
  have h := numL_bound0 l 0 (by decide) hl
  simpa [numL] using h
set_option maxHeartbeats 2000000 in
set_option maxRecDepth 100000 in
theorem number_ok (w0 w : World) (g : Nat) (l : List Int) (n : Nat) (h0 : n ≤ 4) (hn : n ≤ l.length) (hl : l.length ≤ 1000000) (hby : Bytes l) (h : RdAt w0 w g l) :
    Calls Tryd.prog 56 #[.pointer (some ⟨g, 0, none⟩), .int .i64 n] w fun e w' => e = .returned (.int .i64 (numL (l.take n))) ∧ RdAt w0 w' g (l.drop n) ∧ OnlyG g w w' := by
  have HC := Aside0.mk (take_ok w0 w g l n (by omega) (by omega) hl h)
  rw [Int.toNat_natCast] at HC
  obtain ⟨xs, hxs⟩ : ∃ xs, l.take n = xs := ⟨_, rfl⟩
  have hlen : xs.length = n := by rw [← hxs, List.length_take]; omega
  have hbx : Bytes xs := fun x hx => hby x (List.mem_of_mem_take (by rw [hxs]; exact hx))
  obtain ⟨ys, hys⟩ : ∃ ys, l.drop n = ys := ⟨_, rfl⟩
  rw [hxs, hys] at HC
  rw [hxs, hys]
  clear hxs hys hby h hn hl l
  go_enter Tryd.func56, Tryd.ntmps56
  go_wp2_with (go_at_call 73; refine HC.out.mono ?_; rintro e w1 ⟨A, c, rfl, hc, hC, hR, hO⟩; have HR := Aside0.mk hR; have HO := Aside0.mk hO; have HX := Aside0.mk (Kd.C_below hC hR.hb); clear hc hC hR hO)
  subst hlen
  go_loopw [5, 12] (fun v5 v12 wr => ∃ k : Nat, v12 = .int .i64 k ∧ v5 = .int .i64 (numL (xs.take k)) ∧ Aside0 (k ≤ xs.length) ∧ wr = w1) (fun v5 v12 wr => xs.length - (RowKit.intOf v12).toNat)
  case atStart => exact ⟨0, rfl, by simp [numL], ⟨by omega⟩, rfl⟩
  case round =>
    obtain ⟨k, rfl, rfl, HK, rfl⟩ := hrel
    by_cases hk : k < xs.length
    · have n1 : decide ((k : Int) < xs.length) = true := decide_eq_true (by omega)
      obtain ⟨ad, ea, hc⟩ := Kd.at_int HX.out (k : Int) (by omega) (by omega)
      rw [Int.toNat_natCast] at hc
      have HB := Aside0.mk (show 0 ≤ numL (xs.take k) ∧ numL (xs.take k) < 16777216 from by
        have h := numL_bound (xs.take k) (fun x hx => hbx x (List.mem_of_mem_take hx))
        have h2 := pow256 (xs.take k).length (by rw [List.length_take]; omega)
        omega)
      have HST := Aside0.mk (numL_step xs k (rd xs k) (by simp [rd, hk]))
      generalize numL (xs.take k) = v at *
      have HXB := Aside0.mk (hbx (rd xs k) (by simp [rd, hk]))
      generalize rd xs k = x at *
      subst ea
      go_wp2
      rw [or8 v x HB.out.1 HB.out.2 HXB.out.1 HXB.out.2]
      refine ⟨⟨k + 1, rfl, by rw [HST.out], ⟨by omega⟩, trivial⟩, ?_⟩
      show xs.length - ((k : Int) + 1).toNat < xs.length - (k : Int).toNat
      omega
    · have n1 : decide ((k : Int) < xs.length) = false := decide_eq_false (by omega)
      have hkk : k = xs.length := by have := HK.out; omega
      subst hkk
      rw [List.take_length]
      go_wp2
      go_ret
      exact ⟨rfl, HR.out, HO.out⟩
set_option maxHeartbeats 2000000 in
set_option maxRecDepth 100000 in
theorem number_bad (w0 w : World) (g : Nat) (l : List Int) (n : Nat) (hn : l.length < n) (h : RdAt w0 w g l) :
    Calls Tryd.prog 56 #[.pointer (some ⟨g, 0, none⟩), .int .i64 n] w fun e w' => e = .panicked (Thrown 2) ∧ OnlyG g w w' := by
  have HC := Aside0.mk (take_bad w0 w g l n (by omega) h)
  clear h
  go_enter Tryd.func56, Tryd.ntmps56
  go_wp2_with (go_at_call 73; refine HC.out.mono ?_; rintro e w1 ⟨rfl, hO⟩)
  exact ⟨rfl, rfl, hO⟩
theorem read_str {w0 w : World} {A : Option Addr} {n c : Nat} {zs : List Int} (hl : zs.length = n) (hC : (Kd.int .u8).C w0 A n zs) (hb : Below w0.heap.size w0 w) : (convert 33 9 (.slice A n c)).run Tryd.prog w = .ok (.string (strOfNums zs)) w := by
  subst hl
  exact Kd.C_string (c := c) Tryd.underlying33 Tryd.underlying5 Tryd.underlying9 (Kd.C_below hC hb)
set_option maxHeartbeats 2000000 in
set_option maxRecDepth 100000 in
theorem text_ok (w0 w : World) (g : Nat) (l : List Int) (n : Nat) (h0 : n ≤ 4) (hn : n ≤ l.length) (hm : numL (l.take n) ≤ (l.drop n).length) (hl : l.length ≤ 1000000) (hby : Bytes l) (h : RdAt w0 w g l) :
    Calls Tryd.prog 57 #[.pointer (some ⟨g, 0, none⟩), .int .i64 n] w fun e w' => e = .returned (.string (strOfNums ((l.drop n).take (numL (l.take n)).toNat))) ∧ RdAt w0 w' g ((l.drop n).drop (numL (l.take n)).toNat) ∧ OnlyG g w w' := by
  have HN := Aside0.mk (number_ok w0 w g l n h0 hn hl hby h)
  have hnn := (numL_bound (l.take n) (fun x hx => hby x (List.mem_of_mem_take hx))).1
  have HT := Aside0.mk (fun w1 (h1 : RdAt w0 w1 g (l.drop n)) => take_ok w0 w1 g (l.drop n) (numL (l.take n)) hnn hm (by rw [List.length_drop]; omega) h1)
  generalize numL (l.take n) = m at *
  generalize hys : l.drop n = ys at *
  have hlen : (ys.take m.toNat).length = m.toNat := by rw [List.length_take]; omega
  generalize ys.take m.toNat = zs at *
  generalize ys.drop m.toNat = rs at *
  clear hm hby h hnn hn hl hys
  go_enter Tryd.func57, Tryd.ntmps57
  go_wp2_with (first
    | (go_at_call 56; refine HN.out.mono ?_; rintro e w1 ⟨rfl, hR, hO⟩; have HR := Aside0.mk hR; have HO := Aside0.mk hO; clear hR hO)
    | (go_at_call 73; refine (HT.out _ HR.out).mono ?_; rintro e w2 ⟨A, c, rfl, hc, hC, hR, hO⟩; have HR2 := Aside0.mk hR; have HO2 := Aside0.mk (HO.out.trans hO); have hcv := read_str (c := c) hlen hC hR.hb; clear hc hC hR hO))
  go_ret
  exact ⟨rfl, HR2.out, HO2.out⟩
set_option maxHeartbeats 2000000 in
set_option maxRecDepth 100000 in
theorem text_bad1 (w0 w : World) (g : Nat) (l : List Int) (n : Nat) (hn : l.length < n) (h : RdAt w0 w g l) :
    Calls Tryd.prog 57 #[.pointer (some ⟨g, 0, none⟩), .int .i64 n] w fun e w' => e = .panicked (Thrown 2) ∧ OnlyG g w w' := by
  have HC := Aside0.mk (number_bad w0 w g l n hn h)
  clear h
  go_enter Tryd.func57, Tryd.ntmps57
  go_wp2_with (go_at_call 56; refine HC.out.mono ?_; rintro e w1 ⟨rfl, hO⟩)
  exact ⟨rfl, rfl, hO⟩
set_option maxHeartbeats 2000000 in
set_option maxRecDepth 100000 in
theorem text_bad2 (w0 w : World) (g : Nat) (l : List Int) (n : Nat) (h0 : n ≤ 4) (hn : n ≤ l.length) (hm : ((l.drop n).length : Int) < numL (l.take n)) (hl : l.length ≤ 1000000) (hby : Bytes l) (h : RdAt w0 w g l) :
    Calls Tryd.prog 57 #[.pointer (some ⟨g, 0, none⟩), .int .i64 n] w fun e w' => e = .panicked (Thrown 2) ∧ OnlyG g w w' := by
  have HN := Aside0.mk (number_ok w0 w g l n h0 hn hl hby h)
  have HT := Aside0.mk (fun w1 (h1 : RdAt w0 w1 g (l.drop n)) => take_bad w0 w1 g (l.drop n) (numL (l.take n)) hm h1)
  generalize numL (l.take n) = m at *
  generalize hys : l.drop n = ys at *
  clear hm hby h hn hl hys
  go_enter Tryd.func57, Tryd.ntmps57
  go_wp2_with (first
    | (go_at_call 56; refine HN.out.mono ?_; rintro e w1 ⟨rfl, hR, hO⟩; have HR := Aside0.mk hR; have HO := Aside0.mk hO; clear hR hO)
    | (go_at_call 73; refine (HT.out _ HR.out).mono ?_; rintro e w2 ⟨rfl, hO⟩; have HO2 := Aside0.mk (HO.out.trans hO)))
  exact ⟨rfl, rfl, HO2.out⟩
end Go.Proofs.YtpamgedmgjfjjaaDoor.M
end
section
namespace Go.Proofs.YtpamgedmgjfjjaaDoor.M
open Go.RowKit Go.Proofs.YtpamgedmgjfjjaaDoorW.PrintWords Go.Proofs.YtpamgedmgjfjjaaDoorW.PrintLast Go.Proofs.YtpamgedmgjfjjaaDoorW.PrintMore
set_option linter.unusedVariables false
set_option linter.unusedSimpArgs false
set_option maxHeartbeats 2000000 in
set_option maxRecDepth 100000 in
theorem tryd_idle (p : Addr) (w : World) :
    CallsD Tryd.prog 72 #[.pointer (some p)] .returning w fun e u' w' => e = .returned (.tuple #[]) ∧ u' = .returning ∧ w' = w := by
  have hn : ∀ w : World, (binOp BinOp.neq 20 .nilIface .nilIface).run Tryd.prog w = .ok (.bool false) w := fun _ => by kernel_rfl
  refine callsD_of_wpS Tryd.func72 rfl fun c₀ cs hu => ?_
  apply wpS_seq
  apply wpS_region
  simp [wpOpsS, go_sem, recoverD, hu, Tryd.ntmps72, Exit.thenS]
  refine wpS_of_wp ?_
  go_wp2
  cases c₀
  simp_all [bodyPostS, results, Tryd.results72]
set_option maxHeartbeats 2000000 in
set_option maxRecDepth 100000 in
theorem tryd_thrown (g : Nat) (k : Int) (w : World) (hc : w.heap[g]? = some (.cells #[.int .i64 0] 30 (0, 0))) :
    CallsD Tryd.prog 72 #[.pointer (some ⟨g, 0, none⟩)] (.panicking (Thrown k)) w fun e u' w' =>
      e = .returned (.tuple #[]) ∧ u' = .panicking [{ v := .iface 30 (.int .i64 k), recovered := true }] ∧ w' = w.setCell ⟨g, 0, none⟩ (.int .i64 k) := by
  have hn : ∀ w : World, (binOp BinOp.neq 20 (.iface 30 (.int .i64 k)) .nilIface).run Tryd.prog w = .ok (.bool true) w := fun _ => rfl
  have ht : ∀ w : World, (Instr.typeAssert (.iface 30 (.int .i64 k)) 20 30 true).run Tryd.prog w = .ok (.tuple #[.int .i64 k, .bool true]) w := fun _ => rfl
  have c1 := blk_cell hc 0
  have f1 := blk_frozen hc 0
  simp only [List.getElem?_toArray, List.getElem?_cons_zero] at c1
  refine callsD_of_wpS Tryd.func72 rfl fun c₀ cs hu => ?_
  apply wpS_seq
  apply wpS_region
  simp [wpOpsS, go_sem, recoverD, hu, Tryd.ntmps72, Exit.thenS]
  refine wpS_of_wp ?_
  simp only [Array.replicate_succ, Array.replicate_zero, List.push_toArray, List.append_toArray, List.nil_append, List.cons_append, List.setIfInBounds_toArray, List.set_cons_succ, List.set_cons_zero]
  clear hu hc
  go_wp2
  exact ⟨rfl, _, rfl, _, results_none rfl _ _ _, rfl, rfl, rfl⟩
set_option maxHeartbeats 2000000 in
set_option maxRecDepth 100000 in
theorem try_ok55 (caps : Array Value) (w : World) (Post : World → Prop)
    (hC : Calls Tryd.prog 55 caps (w.alloc (.cells #[.int .i64 0] 30)) fun e w' => e = .returned (.tuple #[]) ∧ w'.heap[w.heap.size]? = some (.cells #[.int .i64 0] 30 (0, 0)) ∧ Post w') :
    Calls Tryd.prog 54 #[.func (.func 55) #[] caps] w fun e w' => e = .returned (.int .i64 0) ∧ ∃ w1, Post w1 ∧ w' = w1.setCell ⟨w.heap.size, 0, none⟩ (.int .i64 0) := by
  have hmf : ∀ (fn : Fn) (first cap : Array Value) (w : World), (Instr.makeFunc fn first cap).run Tryd.prog w = .ok (.func fn first cap) w := fun _ _ _ _ => rfl
  go_enter_defers Tryd.func54, Tryd.ntmps54
  go_wp2_with fail
  refine hC.mono ?_
  rintro e w1 ⟨rfl, hb, hp⟩
  have c1 := blk_cell hb 0
  have f1 := blk_frozen hb 0
  simp only [List.getElem?_toArray, List.getElem?_cons_zero] at c1
  go_wp2
  refine leaves_cons (f := 72) (args := #[.pointer (some ⟨w.heap.size, 0, none⟩)]) (by simp) (by simp [go_sem]) ?_
  refine (tryd_idle ⟨w.heap.size, 0, none⟩ _).mono ?_
  rintro e u' w'' ⟨rfl, rfl, rfl⟩
  have hb2 : (w1.setCell ⟨w.heap.size, 0, none⟩ (.int .i64 0)).heap[w.heap.size]? = some (.cells #[.int .i64 0] 30 (0, 0)) := blk_put hb 0 (.int .i64 0) rfl
  have c2 := blk_cell hb2 0
  simp only [List.getElem?_toArray, List.getElem?_cons_zero] at c2
  simp [Leaves, settle, results, Tryd.results54, go_sem, c2]
  exact ⟨w1, hp, rfl⟩
set_option maxHeartbeats 2000000 in
set_option maxRecDepth 100000 in
theorem try_bad55 (caps : Array Value) (w : World) (k : Int) (Post : World → Prop)
    (hC : Calls Tryd.prog 55 caps (w.alloc (.cells #[.int .i64 0] 30)) fun e w' => e = .panicked (Thrown k) ∧ w'.heap[w.heap.size]? = some (.cells #[.int .i64 0] 30 (0, 0)) ∧ Post w') :
    Calls Tryd.prog 54 #[.func (.func 55) #[] caps] w fun e w' => e = .returned (.int .i64 k) ∧ ∃ w1, Post w1 ∧ w' = w1.setCell ⟨w.heap.size, 0, none⟩ (.int .i64 k) := by
  have hmf : ∀ (fn : Fn) (first cap : Array Value) (w : World), (Instr.makeFunc fn first cap).run Tryd.prog w = .ok (.func fn first cap) w := fun _ _ _ _ => rfl
  go_enter_defers Tryd.func54, Tryd.ntmps54
  go_wp2_with fail
  refine hC.mono ?_
  rintro e w1 ⟨rfl, hb, hp⟩
  refine leaves_cons (f := 72) (args := #[.pointer (some ⟨w.heap.size, 0, none⟩)]) (by simp) (by simp [go_sem]) ?_
  refine (tryd_thrown w.heap.size k _ hb).mono ?_
  rintro e u' w'' ⟨rfl, rfl, rfl⟩
  have hb2 : (w1.setCell ⟨w.heap.size, 0, none⟩ (.int .i64 k)).heap[w.heap.size]? = some (.cells #[.int .i64 k] 30 (0, 0)) := blk_put hb 0 (.int .i64 k) rfl
  have c2 := blk_cell hb2 0
  simp only [List.getElem?_toArray, List.getElem?_cons_zero] at c2
  simp [Leaves, settle, results, Tryd.results54, go_sem, c2]
  exact ⟨w1, hp, rfl⟩
set_option maxHeartbeats 2000000 in
set_option maxRecDepth 100000 in
theorem try_ok64 (caps : Array Value) (w : World) (Post : World → Prop)
    (hC : Calls Tryd.prog 64 caps (w.alloc (.cells #[.int .i64 0] 30)) fun e w' => e = .returned (.tuple #[]) ∧ w'.heap[w.heap.size]? = some (.cells #[.int .i64 0] 30 (0, 0)) ∧ Post w') :
    Calls Tryd.prog 54 #[.func (.func 64) #[] caps] w fun e w' => e = .returned (.int .i64 0) ∧ ∃ w1, Post w1 ∧ w' = w1.setCell ⟨w.heap.size, 0, none⟩ (.int .i64 0) := by
  have hmf : ∀ (fn : Fn) (first cap : Array Value) (w : World), (Instr.makeFunc fn first cap).run Tryd.prog w = .ok (.func fn first cap) w := fun _ _ _ _ => rfl
  go_enter_defers Tryd.func54, Tryd.ntmps54
  go_wp2_with fail
  refine hC.mono ?_
  rintro e w1 ⟨rfl, hb, hp⟩
  have c1 := blk_cell hb 0
  have f1 := blk_frozen hb 0
  simp only [List.getElem?_toArray, List.getElem?_cons_zero] at c1
  go_wp2
  refine leaves_cons (f := 72) (args := #[.pointer (some ⟨w.heap.size, 0, none⟩)]) (by simp) (by simp [go_sem]) ?_
  refine (tryd_idle ⟨w.heap.size, 0, none⟩ _).mono ?_
  rintro e u' w'' ⟨rfl, rfl, rfl⟩
  have hb2 : (w1.setCell ⟨w.heap.size, 0, none⟩ (.int .i64 0)).heap[w.heap.size]? = some (.cells #[.int .i64 0] 30 (0, 0)) := blk_put hb 0 (.int .i64 0) rfl
  have c2 := blk_cell hb2 0
  simp only [List.getElem?_toArray, List.getElem?_cons_zero] at c2
  simp [Leaves, settle, results, Tryd.results54, go_sem, c2]
  exact ⟨w1, hp, rfl⟩
set_option maxHeartbeats 2000000 in
set_option maxRecDepth 100000 in
theorem try_bad64 (caps : Array Value) (w : World) (k : Int) (Post : World → Prop)
    (hC : Calls Tryd.prog 64 caps (w.alloc (.cells #[.int .i64 0] 30)) fun e w' => e = .panicked (Thrown k) ∧ w'.heap[w.heap.size]? = some (.cells #[.int .i64 0] 30 (0, 0)) ∧ Post w') :
    Calls Tryd.prog 54 #[.func (.func 64) #[] caps] w fun e w' => e = .returned (.int .i64 k) ∧ ∃ w1, Post w1 ∧ w' = w1.setCell ⟨w.heap.size, 0, none⟩ (.int .i64 k) := by
  have hmf : ∀ (fn : Fn) (first cap : Array Value) (w : World), (Instr.makeFunc fn first cap).run Tryd.prog w = .ok (.func fn first cap) w := fun _ _ _ _ => rfl
  go_enter_defers Tryd.func54, Tryd.ntmps54
  go_wp2_with fail
  refine hC.mono ?_
  rintro e w1 ⟨rfl, hb, hp⟩
  refine leaves_cons (f := 72) (args := #[.pointer (some ⟨w.heap.size, 0, none⟩)]) (by simp) (by simp [go_sem]) ?_
  refine (tryd_thrown w.heap.size k _ hb).mono ?_
  rintro e u' w'' ⟨rfl, rfl, rfl⟩
  have hb2 : (w1.setCell ⟨w.heap.size, 0, none⟩ (.int .i64 k)).heap[w.heap.size]? = some (.cells #[.int .i64 k] 30 (0, 0)) := blk_put hb 0 (.int .i64 k) rfl
  have c2 := blk_cell hb2 0
  simp only [List.getElem?_toArray, List.getElem?_cons_zero] at c2
  simp [Leaves, settle, results, Tryd.results54, go_sem, c2]
  exact ⟨w1, hp, rfl⟩
end Go.Proofs.YtpamgedmgjfjjaaDoor.M
end
section
namespace Go.Proofs.YtpamgedmgjfjjaaDoor.M
open Go.RowKit Go.Proofs.YtpamgedmgjfjjaaDoorW.PrintWords Go.Proofs.YtpamgedmgjfjjaaDoorW.PrintLast Go.Proofs.YtpamgedmgjfjjaaDoorW.PrintMore
set_option linter.unusedVariables false
set_option linter.unusedSimpArgs false
structure St (T : TypeId) (w0 w wr : World) (a g : Nat) (cs : Array Value) (l : List Int) : Prop where
  ga : a < g
  gw : w.heap.size ≤ g
  wa : w0.heap.size ≤ a
  keep : KeepBut w wr a none
  low : Below w0.heap.size w0 wr
  blk : wr.heap[a]? = some (.cells cs T (0, 0))
  rd : RdAt w0 wr g l
theorem keep_step {w w1 w2 : World} {a : Nat} (h : KeepBut w w1 a none) (hb : Below w.heap.size w1 w2) : KeepBut w w2 a none :=
  ⟨Nat.le_trans h.1 hb.size, fun i hi hg hr => (hb.block i hi).trans (h.2 i hi hg hr)⟩
theorem St.read {T : TypeId} {w0 w wr w2 : World} {a g : Nat} {cs : Array Value} {l l2 : List Int} (h : St T w0 w wr a g cs l) (hO : OnlyG g wr w2) (hR : RdAt w0 w2 g l2) : St T w0 w w2 a g cs l2 :=
  ⟨h.ga, h.gw, h.wa, keep_step h.keep (hO.low.mono h.gw), hR.hb, (hO.low.block a h.ga).trans h.blk, hR⟩
theorem St.put {T : TypeId} {w0 w wr : World} {a g : Nat} {cs : Array Value} {l : List Int} (h : St T w0 w wr a g cs l) (i : Nat) (v : Value) : St T w0 w (wr.setCell ⟨a, i, none⟩ v) a g (cs.setIfInBounds i v) l := by
  obtain ⟨hg, hb, A, c, hblk, hc, hC⟩ := h.rd
  have hb' := h.low.setCell (p := ⟨a, i, none⟩) h.wa v
  have hne : g ≠ a := by have := h.ga; omega
  exact ⟨h.ga, h.gw, h.wa, h.keep.set_ i v, hb', blk_set h.blk i v, ⟨hg, hb', A, c, blk_far hblk (p := ⟨a, i, none⟩) hne v, hc, hC⟩⟩
theorem St.drew {T : TypeId} {w0 w wr : World} {a g : Nat} {cs : Array Value} {l : List Int} (h : St T w0 w wr a g cs l) : St T w0 w wr.drew a g cs l :=
  ⟨h.ga, h.gw, h.wa, h.keep, Below.drew h.low, h.blk, ⟨h.rd.hg, Below.drew h.rd.hb, h.rd.ex⟩⟩
theorem St.cell {T : TypeId} {w0 w wr : World} {a g : Nat} {cs : Array Value} {l : List Int} (h : St T w0 w wr a g cs l) (i : Nat) (v : Value) (hv : cs[i]? = some v) : wr.cell? ⟨a, i, none⟩ = some v ∧ wr.frozen? ⟨a, i, none⟩ = false :=
  ⟨(blk_cell h.blk i).trans hv, blk_frozen h.blk i⟩
theorem number1 (w0 w : World) (g : Nat) (x : Int) (l : List Int) (hl : (x :: l).length ≤ 1000000) (hby : Bytes (x :: l)) (h : RdAt w0 w g (x :: l)) :
    Calls Tryd.prog 56 #[.pointer (some ⟨g, 0, none⟩), .int .i64 1] w fun e w' => e = .returned (.int .i64 x) ∧ RdAt w0 w' g l ∧ OnlyG g w w' := by
  have := number_ok w0 w g (x :: l) 1 (by decide) (by simp) hl hby h
  simpa [numL] using this
theorem St.num1 {T : TypeId} {w0 w wr : World} {a g : Nat} {cs : Array Value} {x : Int} {l : List Int} (h : St T w0 w wr a g cs (x :: l)) (hl : (x :: l).length ≤ 1000000) (hby : Bytes (x :: l)) :
    Calls Tryd.prog 56 #[.pointer (some ⟨g, 0, none⟩), .int .i64 1] wr fun e w' => e = .returned (.int .i64 x) ∧ St T w0 w w' a g cs l ∧ OnlyG g wr w' :=
  (number1 w0 wr g x l hl hby h.rd).mono (by rintro e w' ⟨rfl, h1, h2⟩; exact ⟨rfl, h.read h2 h1, h2⟩)
theorem St.num4 {T : TypeId} {w0 w wr : World} {a g : Nat} {cs : Array Value} {l : List Int} (h : St T w0 w wr a g cs l) (h4 : 4 ≤ l.length) (hl : l.length ≤ 1000000) (hby : Bytes l) :
    Calls Tryd.prog 56 #[.pointer (some ⟨g, 0, none⟩), .int .i64 4] wr fun e w' => e = .returned (.int .i64 (numL (l.take 4))) ∧ St T w0 w w' a g cs (l.drop 4) :=
  (number_ok w0 wr g l 4 (by decide) h4 hl hby h.rd).mono (by rintro e w' ⟨rfl, h1, h2⟩; exact ⟨rfl, h.read h2 h1⟩)
theorem St.num_bad {T : TypeId} {w0 w wr : World} {a g : Nat} {cs : Array Value} {l : List Int} (h : St T w0 w wr a g cs l) (n : Nat) (h4 : l.length < n) :
    Calls Tryd.prog 56 #[.pointer (some ⟨g, 0, none⟩), .int .i64 n] wr fun e w' => e = .panicked (Thrown 2) ∧ KeepBut w w' a none ∧ Below w0.heap.size w0 w' :=
  (number_bad w0 wr g l n h4 h.rd).mono (by rintro e w' ⟨rfl, h2⟩; exact ⟨rfl, keep_step h.keep (h2.low.mono h.gw), h2.below (Nat.le_trans h.wa (Nat.le_of_lt h.ga)) h.low⟩)
theorem St.text {T : TypeId} {w0 w wr : World} {a g : Nat} {cs : Array Value} {l : List Int} (h : St T w0 w wr a g cs l) (n : Nat) (h0 : n ≤ 4) (hn : n ≤ l.length) (hm : numL (l.take n) ≤ (l.drop n).length) (hl : l.length ≤ 1000000) (hby : Bytes l) :
    Calls Tryd.prog 57 #[.pointer (some ⟨g, 0, none⟩), .int .i64 n] wr fun e w' => e = .returned (.string (strOfNums ((l.drop n).take (numL (l.take n)).toNat))) ∧ St T w0 w w' a g cs ((l.drop n).drop (numL (l.take n)).toNat) :=
  (text_ok w0 wr g l n h0 hn hm hl hby h.rd).mono (by rintro e w' ⟨rfl, h1, h2⟩; exact ⟨rfl, h.read h2 h1⟩)
theorem St.text_bad {T : TypeId} {w0 w wr : World} {a g : Nat} {cs : Array Value} {l : List Int} (h : St T w0 w wr a g cs l) (n : Nat) (h0 : n ≤ 4) (hb : l.length < n ∨ n ≤ l.length ∧ ((l.drop n).length : Int) < numL (l.take n)) (hl : l.length ≤ 1000000) (hby : Bytes l) :
    Calls Tryd.prog 57 #[.pointer (some ⟨g, 0, none⟩), .int .i64 n] wr fun e w' => e = .panicked (Thrown 2) ∧ KeepBut w w' a none ∧ Below w0.heap.size w0 w' := by
  have key : Calls Tryd.prog 57 #[.pointer (some ⟨g, 0, none⟩), .int .i64 n] wr fun e w' => e = .panicked (Thrown 2) ∧ OnlyG g wr w' := by
    rcases hb with hb | ⟨hb, hm⟩
    · exact text_bad1 w0 wr g l n hb h.rd
    · exact text_bad2 w0 wr g l n h0 hb hm hl hby h.rd
  exact key.mono (by rintro e w' ⟨rfl, h2⟩; exact ⟨rfl, keep_step h.keep (h2.low.mono h.gw), h2.below (Nat.le_trans h.wa (Nat.le_of_lt h.ga)) h.low⟩)
theorem St.fin {T : TypeId} {w0 w wr : World} {a g : Nat} {cs : Array Value} (h : St T w0 w wr a g cs []) :
    Calls Tryd.prog 58 #[.pointer (some ⟨g, 0, none⟩)] wr fun e w' => e = .returned (.tuple #[]) ∧ St T w0 w w' a g cs [] :=
  (end_ok w0 wr g h.rd).mono (by rintro e w' ⟨rfl, rfl⟩; exact ⟨rfl, h⟩)
theorem St.fin_bad {T : TypeId} {w0 w wr : World} {a g : Nat} {cs : Array Value} {l : List Int} (h : St T w0 w wr a g cs l) (hl : l ≠ []) :
    Calls Tryd.prog 58 #[.pointer (some ⟨g, 0, none⟩)] wr fun e w' => e = .panicked (Thrown 2) ∧ KeepBut w w' a none ∧ Below w0.heap.size w0 w' :=
  (end_bad w0 wr g l hl h.rd).mono (by rintro e w' ⟨rfl, rfl⟩; exact ⟨rfl, h.keep, h.low⟩)
end Go.Proofs.YtpamgedmgjfjjaaDoor.M
end
section
namespace Go.Proofs.YtpamgedmgjfjjaaDoor.M
open Go.RowKit Go.Proofs.YtpamgedmgjfjjaaDoorW.PrintWords Go.Proofs.YtpamgedmgjfjjaaDoorW.PrintLast Go.Proofs.YtpamgedmgjfjjaaDoorW.PrintMore
set_option linter.unusedVariables false
set_option linter.unusedSimpArgs false
def AskV.none : AskV := ⟨0, .empty, 0, 0, 0, 0, 0, .empty⟩
def textL (n : Nat) (l : List Int) : Option (ByteArray × List Int) :=
  if n ≤ l.length ∧ numL (l.take n) ≤ (l.drop n).length then some (strOfNums ((l.drop n).take (numL (l.take n)).toNat), (l.drop n).drop (numL (l.take n)).toNat) else .none
def get8 (q : AskV) (l : List Int) : Int × AskV := if l ≠ [] then (2, AskV.none) else if q.ok then (0, q) else (1, AskV.none)
def get7 (k : Int) (name : ByteArray) (f lang out dst mat : Int) (l : List Int) : Int × AskV :=
  match textL 4 l with
  | .none => (2, AskV.none)
  | some (body, l7) => get8 ⟨k, name, f, lang, out, dst, mat, body⟩ l7
def get6 (k : Int) (name : ByteArray) (f lang out dst : Int) (l : List Int) : Int × AskV := if l.length < 4 then (2, AskV.none) else get7 k name f lang out dst (numL (l.take 4)) (l.drop 4)
def get5 (k f lang out dst : Int) (l : List Int) : Int × AskV :=
  match textL 1 l with
  | .none => (2, AskV.none)
  | some (name, l6) => get6 k name f lang out dst l6
def getL : List Int → Int × AskV
  | k :: f :: lang :: out :: dst :: l5 => get5 k f lang out dst l5
  | _ => (2, AskV.none)
theorem five (l : List Int) (h : 5 ≤ l.length) : ∃ x0 x1 x2 x3 x4 l5, l = x0 :: x1 :: x2 :: x3 :: x4 :: l5 := by
  match l, h with
  | x0 :: x1 :: x2 :: x3 :: x4 :: l5, _ => exact ⟨x0, x1, x2, x3, x4, l5, rfl⟩
theorem St.eq {T : TypeId} {w0 w wr : World} {a g : Nat} {cs cs' : Array Value} {l : List Int} (h : St T w0 w wr a g cs l) (e : cs = cs') : St T w0 w wr a g cs' l := e ▸ h
theorem getL_short (l : List Int) (h : l.length < 5) : getL l = (2, AskV.none) := by
  match l, h with
  | [], _ => rfl
  | [_], _ => rfl
  | [_, _], _ => rfl
  | [_, _, _], _ => rfl
  | [_, _, _, _], _ => rfl
def offK (k : Nat) : Nat := if k = 0 then 0 else k + 1
def cellsK (l : List Int) (k : Nat) : Array Value :=
  #[.int .i64 (if 0 < k then l.getD 0 0 else 0), .string .empty, .int .i64 (if 1 < k then l.getD 1 0 else 0), .int .i64 (if 2 < k then l.getD 2 0 else 0), .int .i64 (if 3 < k then l.getD 3 0 else 0), .int .i64 (if 4 < k then l.getD 4 0 else 0), .int .i64 0, .string .empty]
theorem cellsK_set (l : List Int) (k : Nat) (hk : k < 5) : (cellsK l k).setIfInBounds (offK k) (.int .i64 (l.getD k 0)) = cellsK l (k + 1) := by
  match k, hk with
  | 0, _ => rfl
  | 1, _ => rfl
  | 2, _ => rfl
  | 3, _ => rfl
  | 4, _ => rfl
theorem cellsK_cell (l : List Int) (k : Nat) (hk : k < 5) : (cellsK l k)[offK k]? = some (.int .i64 0) := by
  match k, hk with
  | 0, _ => rfl
  | 1, _ => rfl
  | 2, _ => rfl
  | 3, _ => rfl
  | 4, _ => rfl
@[reducible] def ptrs (a : Nat) : Array Value := #[.pointer (some ⟨a, 0, none⟩), .pointer (some ⟨a, 2, none⟩), .pointer (some ⟨a, 3, none⟩), .pointer (some ⟨a, 4, none⟩), .pointer (some ⟨a, 5, none⟩)]
theorem ptrs_at (a k : Nat) (hk : k < 5) : (ptrs a)[k]? = some (.pointer (some ⟨a, offK k, none⟩)) := by
  match k, hk with
  | 0, _ => rfl
  | 1, _ => rfl
  | 2, _ => rfl
  | 3, _ => rfl
  | 4, _ => rfl
theorem drop_at (l : List Int) (k : Nat) (h : k < l.length) : l.drop k = l.getD k 0 :: l.drop (k + 1) := by
  rw [List.drop_eq_getElem_cons h]
  simp [List.getD_eq_getElem?_getD, h]
theorem strOfNums_size (l : List Int) : (strOfNums l).size = l.length := by
  show (strOfNums l).data.size = _
  rw [← Array.length_toList, strOfNums_data, List.length_map]
theorem textL_facts {n : Nat} {l l' : List Int} {s : ByteArray} (h : textL n l = some (s, l')) (hby : Bytes l) : s.size ≤ l.length ∧ l'.length ≤ l.length ∧ Bytes l' := by
  unfold textL at h
  split at h
  · simp only [Option.some.injEq, Prod.mk.injEq] at h
    obtain ⟨rfl, rfl⟩ := h
    refine ⟨?_, ?_, fun x hx => hby x (List.mem_of_mem_drop (List.mem_of_mem_drop hx))⟩
    · rw [strOfNums_size, List.length_take, List.length_drop]; omega
    · rw [List.length_drop, List.length_drop]; omega
  · cases h
theorem St.textS {T : TypeId} {w0 w wr : World} {a g : Nat} {cs : Array Value} {l l' : List Int} {s : ByteArray} (h : St T w0 w wr a g cs l) (n : Nat) (h0 : n ≤ 4) (ht : textL n l = some (s, l')) (hl : l.length ≤ 1000000) (hby : Bytes l) :
    Calls Tryd.prog 57 #[.pointer (some ⟨g, 0, none⟩), .int .i64 n] wr fun e w' => e = .returned (.string s) ∧ St T w0 w w' a g cs l' := by
  unfold textL at ht
  split at ht
  · rename_i hc
    simp only [Option.some.injEq, Prod.mk.injEq] at ht
    obtain ⟨rfl, rfl⟩ := ht
    exact h.text n h0 hc.1 hc.2 hl hby
  · cases ht
theorem St.textN {T : TypeId} {w0 w wr : World} {a g : Nat} {cs : Array Value} {l : List Int} (h : St T w0 w wr a g cs l) (n : Nat) (h0 : n ≤ 4) (ht : textL n l = .none) (hl : l.length ≤ 1000000) (hby : Bytes l) :
    Calls Tryd.prog 57 #[.pointer (some ⟨g, 0, none⟩), .int .i64 n] wr fun e w' => e = .panicked (Thrown 2) ∧ KeepBut w w' a none ∧ Below w0.heap.size w0 w' := by
  unfold textL at ht
  split at ht
  · cases ht
  · rename_i hc
    exact h.text_bad n h0 (by by_cases h1 : n ≤ l.length; exact .inr ⟨h1, by have := fun h2 => hc ⟨h1, h2⟩; omega⟩; exact .inl (by omega)) hl hby
theorem St.alloc {T : TypeId} {w0 w wr : World} {a g : Nat} {cs : Array Value} {l : List Int} (h : St T w0 w wr a g cs l) (o : Obj) : St T w0 w (wr.alloc o) a g cs l := by
  obtain ⟨hg, hb, A, c, hblk, hc, hC⟩ := h.rd
  exact ⟨h.ga, h.gw, h.wa, keep_step h.keep (below_alloc (Below.refl _ _) o |>.mono h.keep.1), below_alloc h.low o, blk_alloc h.blk o, ⟨hg, below_alloc hb o, A, c, blk_alloc hblk o, hc, hC⟩⟩
set_option maxHeartbeats 4000000 in
set_option maxRecDepth 100000 in
theorem get1_calls (w0 w : World) (b a : Nat) (l : List Int) (A : Option Addr) (c : Nat) (hb : w.heap[b]? = some (.cells #[.slice A l.length c] 33 (0, 0)))
    (ha : w.heap[a]? = some (.cells AskV.none.cells 29 (0, 0))) (hwa : w0.heap.size ≤ a) (hlow : Below w0.heap.size w0 w) (hc : l.length ≤ c) (hC : (Kd.int .u8).C w0 A l.length l) (hl : l.length ≤ 1000000) (hby : Bytes l) (hT : Tabs w0) :
    Calls Tryd.prog 55 #[.pointer (some ⟨b, 0, none⟩), .pointer (some ⟨a, 0, none⟩)] w fun e w' => KeepBut w w' a none ∧ Below w0.heap.size w0 w' ∧
      ((getL l).1 = 0 ∧ e = .returned (.tuple #[]) ∧ w'.heap[a]? = some (.cells (getL l).2.cells 29 (0, 0)) ∨ (getL l).1 ≠ 0 ∧ e = .panicked (Thrown (getL l).1)) := by
  obtain ⟨R, hR⟩ : ∃ R, getL l = R := ⟨_, rfl⟩
  rw [hR]
  have HG := Aside0.mk hR
  have c1 := blk_cell hb 0
  simp only [List.getElem?_toArray, List.getElem?_cons_zero] at c1
  have hlt := blk_lt ha
  have HS := Aside0.mk (show St 29 w0 w (w.alloc (.cells #[.slice A l.length c] 85)) a w.heap.size (cellsK l 0) (l.drop 0) from
    ⟨hlt, Nat.le_refl _, hwa, KeepBut.of_below (below_alloc (Below.refl _ _) _) a none, below_alloc hlow _, blk_alloc ha _, ⟨Nat.le_of_lt (Nat.lt_of_le_of_lt hwa hlt), below_alloc hlow _, A, c, blk_new _ _, hc, hC⟩⟩)
  have HT := Aside0.mk hT
  have HL := Aside0.mk hl
  have HBY := Aside0.mk hby
  have HLT := Aside0.mk hlt
  clear hR hb ha hwa hlow hc hC hl hby hlt hT
  go_enter Tryd.func55, Tryd.ntmps55
  go_wp2
  have HS1 := Aside0.mk (HS.out.alloc (.cells (ptrs a) 86))
  have HP1 := Aside0.mk (show ((w.alloc (.cells #[.slice A l.length c] 85)).alloc (.cells (ptrs a) 86)).heap[w.heap.size + 1]? = some (.cells (ptrs a) 86 (0, 0)) from heap_new1 w _ _)
  simp only [ptrs] at HS1 HP1
  generalize hw2 : (w.alloc (Obj.cells #[Value.slice A l.length c] 85)).alloc _ = w2 at HS1 HP1 ⊢
  clear hw2 HS
  go_loopw [15] (fun v15 wr => ∃ k : Nat, v15 = .int .i64 k ∧ Aside0 (k ≤ 5) ∧ Aside0 (k ≤ l.length) ∧ Aside0 (St 29 w0 w wr a w.heap.size (cellsK l k) (l.drop k)) ∧ Aside0 (wr.heap[w.heap.size + 1]? = some (.cells (ptrs a) 86 (0, 0)))) (fun v15 wr => 5 - (RowKit.intOf v15).toNat)
  case atStart => exact ⟨0, rfl, ⟨by omega⟩, ⟨by omega⟩, HS1, HP1⟩
  case round =>
    obtain ⟨k, rfl, HK, HKL, HS, HP⟩ := hrel
    by_cases hk : k < 5
    · have n1 : decide ((k : Int) < 5) = true := decide_eq_true (by omega)
      have p1 := (blk_cell HP.out k).trans (ptrs_at a k hk)
      by_cases hkl : k < l.length
      · have hs := HS.out
        rw [drop_at l k hkl] at hs
        have hby1 : Bytes (l.getD k 0 :: l.drop (k + 1)) := by rw [← drop_at l k hkl]; exact fun x hx => HBY.out x (List.mem_of_mem_drop hx)
        have hlen1 : (l.getD k 0 :: l.drop (k + 1)).length ≤ 1000000 := by rw [← drop_at l k hkl, List.length_drop]; have := HL.out; omega
        have hset := cellsK_set l k hk
        obtain ⟨x, hx⟩ : ∃ x, l.getD k 0 = x := ⟨_, rfl⟩
        rw [hx] at hs hby1 hlen1 hset
        clear hx
        go_wp2_with fail
        refine (hs.num1 hlen1 hby1).mono ?_
        rintro e w1 ⟨rfl, hs1, hO⟩
        obtain ⟨d1, f1⟩ := hs1.cell (offK k) _ (cellsK_cell l k hk)
        have HS2 := Aside0.mk ((hs1.put (offK k) (.int .i64 x)).eq hset)
        have HP2 := Aside0.mk (blk_far (p := ⟨a, offK k, none⟩) ((hO.keep.2 _ (blk_lt HP.out) (by omega) (by simp)).trans HP.out) (by have := HLT.out; show w.heap.size + 1 ≠ a; omega) (.int .i64 x))
        clear hs hby1 hlen1 hs1 hO HS HP hset
        go_wp2
        refine ⟨⟨k + 1, rfl, ⟨by omega⟩, ⟨by omega⟩, HS2, HP2⟩, ?_⟩
        show 5 - ((k : Int) + 1).toNat < 5 - (k : Int).toNat
        omega
      · have hg := HG.out
        rw [getL_short l (by omega)] at hg
        subst hg
        have hbad := Aside0.mk (HS.out.num_bad 1 (by rw [List.length_drop]; omega))
        go_wp2_with fail
        refine hbad.out.mono ?_
        rintro e w1 ⟨rfl, h1, h2⟩
        exact ⟨rfl, h1, h2, .inr ⟨by decide, rfl⟩⟩
    · have n1 : decide ((k : Int) < 5) = false := decide_eq_false (by omega)
      have hs5 : St 29 w0 w wr a w.heap.size (cellsK l 5) (l.drop 5) := by
        have hk5 : k = 5 := by have := HK.out; omega
        rw [← hk5]
        exact HS.out
      have h5 : 5 ≤ l.length := by have := HK.out; have := HKL.out; omega
      clear HK HKL HS HP hk
      obtain ⟨x0, x1, x2, x3, x4, l5, rfl⟩ := five l h5
      have HS5 := Aside0.mk (show St 29 w0 w wr a w.heap.size #[.int .i64 x0, .string .empty, .int .i64 x1, .int .i64 x2, .int .i64 x3, .int .i64 x4, .int .i64 0, .string .empty] l5 from hs5)
      have HG5 := Aside0.mk (show get5 x0 x1 x2 x3 x4 l5 = R from HG.out)
      have HB5 := Aside0.mk (show Bytes l5 from fun x hx => HBY.out x (by simp [hx]))
      have HL5 := Aside0.mk (show l5.length ≤ 1000000 by have := HL.out; simp only [List.length_cons] at this; omega)
      clear HG HBY HL HP1 HS1 c1 h5 hs5
      rcases ht : textL 1 l5 with _ | ⟨name, l6⟩
      · have hg := HG5.out
        simp only [get5, ht] at hg
        subst hg
        have hbad := Aside0.mk (HS5.out.textN 1 (by decide) ht HL5.out HB5.out)
        go_wp2_with fail
        refine hbad.out.mono ?_
        rintro e w1 ⟨rfl, h1, h2⟩
        exact ⟨rfl, h1, h2, .inr ⟨by decide, rfl⟩⟩
      have HG6 := Aside0.mk (show get6 x0 name x1 x2 x3 x4 l6 = R by have := HG5.out; simp only [get5, ht] at this; exact this)
      obtain ⟨hsz, hl6, hby6⟩ := textL_facts ht HB5.out
      have HL6 := Aside0.mk (show l6.length ≤ 1000000 by have := HL5.out; omega)
      have HN6 := Aside0.mk (show name.size ≤ 1000000 by have := HL5.out; omega)
      have HB6 := Aside0.mk hby6
      have hcal := Aside0.mk (HS5.out.textS 1 (by decide) ht HL5.out HB5.out)
      clear hsz hl6 hby6 ht HS5 HG5 HB5 HL5
      go_wp2_with fail
      refine hcal.out.mono ?_
      rintro e w1 ⟨rfl, hs1⟩
      obtain ⟨d1, f1⟩ := hs1.cell 1 (.string .empty) rfl
      have HS6 := Aside0.mk ((hs1.put 1 (.string name)).eq (show _ = #[.int .i64 x0, .string name, .int .i64 x1, .int .i64 x2, .int .i64 x3, .int .i64 x4, .int .i64 0, .string .empty] from rfl))
      clear hs1 hcal
      by_cases h4 : l6.length < 4
      · have hg := HG6.out
        rw [get6, if_pos h4] at hg
        subst hg
        have hbad := Aside0.mk (HS6.out.num_bad 4 h4)
        go_wp2_with fail
        refine hbad.out.mono ?_
        rintro e w2 ⟨rfl, h1, h2⟩
        exact ⟨rfl, h1, h2, .inr ⟨by decide, rfl⟩⟩
      have hcal := Aside0.mk (HS6.out.num4 (by omega) HL6.out HB6.out)
      have HG7 := Aside0.mk (show get7 x0 name x1 x2 x3 x4 (numL (l6.take 4)) (l6.drop 4) = R by have := HG6.out; rw [get6, if_neg h4] at this; exact this)
      generalize numL (l6.take 4) = mat at hcal HG7
      have HL7 := Aside0.mk (show (l6.drop 4).length ≤ 1000000 by rw [List.length_drop]; have := HL6.out; omega)
      have HB7 := Aside0.mk (show Bytes (l6.drop 4) from fun x hx => HB6.out x (List.mem_of_mem_drop hx))
      generalize l6.drop 4 = l7 at hcal HG7 HL7 HB7
      clear h4 HG6 HL6 HB6 HS6
      go_wp2_with fail
      refine hcal.out.mono ?_
      rintro e w2 ⟨rfl, hs1⟩
      obtain ⟨d2, f2⟩ := hs1.cell 6 (.int .i64 0) rfl
      have HS7 := Aside0.mk ((hs1.put 6 (.int .i64 mat)).eq (show _ = #[.int .i64 x0, .string name, .int .i64 x1, .int .i64 x2, .int .i64 x3, .int .i64 x4, .int .i64 mat, .string .empty] from rfl))
      clear hs1 hcal d1 f1
      rcases ht : textL 4 l7 with _ | ⟨body, l8⟩
      · have hg := HG7.out
        simp only [get7, ht] at hg
        subst hg
        have hbad := Aside0.mk (HS7.out.textN 4 (by decide) ht HL7.out HB7.out)
        go_wp2_with fail
        refine hbad.out.mono ?_
        rintro e w1 ⟨rfl, h1, h2⟩
        exact ⟨rfl, h1, h2, .inr ⟨by decide, rfl⟩⟩
      have HG8 := Aside0.mk (show get8 ⟨x0, name, x1, x2, x3, x4, mat, body⟩ l8 = R by have := HG7.out; simp only [get7, ht] at this; exact this)
      obtain ⟨hsz, hl8, hby8⟩ := textL_facts ht HB7.out
      have HN8 := Aside0.mk (show body.size ≤ 1000000 by have := HL7.out; omega)
      have hcal := Aside0.mk (HS7.out.textS 4 (by decide) ht HL7.out HB7.out)
      clear hsz hl8 hby8 ht HS7 HG7 HB7 HL7
      go_wp2_with fail
      refine hcal.out.mono ?_
      rintro e w1 ⟨rfl, hs1⟩
      obtain ⟨d1, f1⟩ := hs1.cell 7 (.string .empty) rfl
      have HS8 := Aside0.mk ((hs1.put 7 (.string body)).eq (show _ = #[.int .i64 x0, .string name, .int .i64 x1, .int .i64 x2, .int .i64 x3, .int .i64 x4, .int .i64 mat, .string body] from rfl))
      clear hs1 hcal d2 f2
      by_cases h8 : l8 ≠ []
      · have hg := HG8.out
        rw [get8, if_pos h8] at hg
        subst hg
        have hbad := Aside0.mk (HS8.out.fin_bad h8)
        go_wp2_with fail
        refine hbad.out.mono ?_
        rintro e w2 ⟨rfl, h1, h2⟩
        exact ⟨rfl, h1, h2, .inr ⟨by decide, rfl⟩⟩
      have h8' : l8 = [] := by simpa using h8
      subst h8'
      clear h8
      have hcal := Aside0.mk HS8.out.fin
      have HG9 := Aside0.mk (show (if (AskV.mk x0 name x1 x2 x3 x4 mat body).ok then (0, AskV.mk x0 name x1 x2 x3 x4 mat body) else (1, AskV.none)) = R from HG8.out)
      clear HG8 HS8
      go_wp2_with fail
      refine hcal.out.mono ?_
      rintro e w2 ⟨rfl, hs1⟩
      have HS9 := Aside0.mk hs1
      obtain ⟨c0, c1, c2, c3, c4, c5, c6, c7⟩ := box29 hs1.blk
      clear hs1 hcal d1 f1
      have HCH := Aside0.mk (check_calls ⟨x0, name, x1, x2, x3, x4, mat, body⟩ w2 (tabs_below HT.out HS9.out.low) (by have := HN6.out; show name.size ≤ _; omega) (by have := HN8.out; show body.size ≤ _; omega))
      simp only [AskV.cells] at HCH
      rcases hok : (AskV.mk x0 name x1 x2 x3 x4 mat body).ok
      · rw [hok] at HCH
        have hg := HG9.out
        rw [hok] at hg
        simp only [Bool.false_eq_true, if_false] at hg
        subst hg
        go_wp2_with fail
        refine HCH.out.mono ?_
        rintro e w3 ⟨rfl, hb⟩
        go_wp2_with fail
        refine (must_bad w3).mono ?_
        rintro e w4 ⟨rfl, rfl⟩
        exact ⟨rfl, keep_step HS9.out.keep (hb.mono HS9.out.keep.1), below_then HS9.out.low HS9.out.low.size hb, .inr ⟨by decide, rfl⟩⟩
      · rw [hok] at HCH
        have hg := HG9.out
        rw [hok] at hg
        simp only [if_true] at hg
        subst hg
        go_wp2_with fail
        refine HCH.out.mono ?_
        rintro e w3 ⟨rfl, hb⟩
        go_wp2_with fail
        refine (must_ok w3).mono ?_
        rintro e w4 ⟨rfl, rfl⟩
        have HF := Aside0.mk (show KeepBut w w4 a none ∧ Below w0.heap.size w0 w4 ∧ w4.heap[a]? = some (.cells #[.int .i64 x0, .string name, .int .i64 x1, .int .i64 x2, .int .i64 x3, .int .i64 x4, .int .i64 mat, .string body] 29 (0, 0)) from
          ⟨keep_step HS9.out.keep (hb.mono HS9.out.keep.1), below_then HS9.out.low HS9.out.low.size hb, blk_below HS9.out.blk hb⟩)
        clear hb
        go_wp2
        go_end0
        exact ⟨HF.out.1, HF.out.2.1, rfl, HF.out.2.2⟩
set_option maxRecDepth 100000 in
theorem res31 (w : World) (g : Nat) (t0 t1 t4 t5 t6 t7 t8 t9 t10 t11 t12 : Value) (k : Int) (name : ByteArray) (f lang out dst mat : Int) (body : ByteArray) (e : Int)
    (h : w.heap[g]? = some (.cells #[.int .i64 k, .string name, .int .i64 f, .int .i64 lang, .int .i64 out, .int .i64 dst, .int .i64 mat, .string body] 29 (0, 0))) :
    (results Tryd.f31 #[t0, t1, .pointer (some ⟨g, 0, none⟩), .int .i64 e, t4, t5, t6, t7, t8, t9, t10, t11, t12]).run Tryd.prog w = .ok (.tuple #[.agg #[.int .i64 k, .string name, .int .i64 f, .int .i64 lang, .int .i64 out, .int .i64 dst, .int .i64 mat, .string body], .int .i64 e]) w := by
  obtain ⟨c0, c1, c2, c3, c4, c5, c6, c7⟩ := box29 h
  simp [results, Tryd.results31, go_sem, c0, c1, c2, c3, c4, c5, c6, c7]
theorem box29f {w : World} {g : Nat} {cs : Array Value} (h : w.heap[g]? = some (.cells cs 29 (0, 0))) : w.frozen? ⟨g, 0, none⟩ = false ∧ w.frozen? ⟨g, 1, none⟩ = false ∧ w.frozen? ⟨g, 2, none⟩ = false ∧ w.frozen? ⟨g, 3, none⟩ = false ∧ w.frozen? ⟨g, 4, none⟩ = false ∧ w.frozen? ⟨g, 5, none⟩ = false ∧ w.frozen? ⟨g, 6, none⟩ = false ∧ w.frozen? ⟨g, 7, none⟩ = false :=
  ⟨blk_frozen h 0, blk_frozen h 1, blk_frozen h 2, blk_frozen h 3, blk_frozen h 4, blk_frozen h 5, blk_frozen h 6, blk_frozen h 7⟩
theorem three (w : World) (o1 o2 o3 : Obj) : (((w.alloc o1).alloc o2).alloc o3).heap.size = w.heap.size + 3 ∧ (((w.alloc o1).alloc o2).alloc o3).heap[w.heap.size]? = some o1 ∧ (((w.alloc o1).alloc o2).alloc o3).heap[w.heap.size + 1]? = some o2 ∧
    (((w.alloc o1).alloc o2).alloc o3).heap[w.heap.size + 1 + 1]? = some o3 ∧ Below w.heap.size w (((w.alloc o1).alloc o2).alloc o3) := by
  have s1 : (w.alloc o1).heap.size = w.heap.size + 1 := Array.size_push ..
  have s2 : ((w.alloc o1).alloc o2).heap.size = w.heap.size + 2 := (Array.size_push ..).trans (by rw [s1])
  have s3 : (((w.alloc o1).alloc o2).alloc o3).heap.size = w.heap.size + 3 := (Array.size_push ..).trans (by rw [s2])
  refine ⟨s3, blk_alloc (blk_alloc (blk_new w o1) o2) o3, blk_alloc (heap_new1 w o1 o2) o3, ?_, below_alloc (below_alloc (below_alloc (Below.refl _ _) _) _) _⟩
  have := blk_new ((w.alloc o1).alloc o2) o3
  rwa [s2] at this
set_option maxHeartbeats 4000000 in
set_option maxRecDepth 100000 in
theorem get_try (w : World) (l : List Int) (A : Option Addr) (c : Nat) (hc : l.length ≤ c) (hC : (Kd.int .u8).C w A l.length l) (hl : l.length ≤ 1000000) (hby : Bytes l) (hT : Tabs w) (w3 : World)
    (h0 : w3.heap.size = w.heap.size + 3) (h1 : w3.heap[w.heap.size]? = some (.cells #[.slice A l.length c] 33 (0, 0))) (h2 : w3.heap[w.heap.size + 1]? = some (.cells AskV.none.cells 29 (0, 0))) (h3 : w3.heap[w.heap.size + 1 + 1]? = some (.cells AskV.none.cells 29 (0, 0))) (hb : Below w.heap.size w w3) :
    Calls Tryd.prog 54 #[.func (.func 55) #[] #[.pointer (some ⟨w.heap.size, 0, none⟩), .pointer (some ⟨w.heap.size + 1 + 1, 0, none⟩)]] w3 fun e w' => e = .returned (.int .i64 (getL l).1) ∧ Below w.heap.size w w' ∧ w'.heap[w.heap.size + 1]? = some (.cells AskV.none.cells 29 (0, 0)) ∧
      ((getL l).1 = 0 → w'.heap[w.heap.size + 1 + 1]? = some (.cells (getL l).2.cells 29 (0, 0))) := by
  have hG := get1_calls w (w3.alloc (.cells #[.int .i64 0] 30)) w.heap.size (w.heap.size + 1 + 1) l A c (blk_alloc h1 _) (blk_alloc h3 _) (by omega) (below_alloc hb _) hc hC hl hby hT
  have hs4 : (w3.alloc (.cells #[.int .i64 0] 30)).heap.size = w.heap.size + 4 := (Array.size_push ..).trans (by rw [h0])
  have hfin : ∀ (w1 : World) (v : Value), KeepBut (w3.alloc (.cells #[.int .i64 0] 30)) w1 (w.heap.size + 1 + 1) none → Below w.heap.size w w1 → Below w.heap.size w (w1.setCell ⟨w3.heap.size, 0, none⟩ v) ∧ (w1.setCell ⟨w3.heap.size, 0, none⟩ v).heap[w.heap.size + 1]? = some (.cells AskV.none.cells 29 (0, 0)) ∧
      ∀ cs, w1.heap[w.heap.size + 1 + 1]? = some (.cells cs 29 (0, 0)) → (w1.setCell ⟨w3.heap.size, 0, none⟩ v).heap[w.heap.size + 1 + 1]? = some (.cells cs 29 (0, 0)) := by
    intro w1 v hk hb1
    refine ⟨hb1.setCell (p := ⟨w3.heap.size, 0, none⟩) (by show w.heap.size ≤ w3.heap.size; omega) v, blk_far (p := ⟨w3.heap.size, 0, none⟩) ((hk.2 _ (by omega) (by omega) (by simp)).trans (blk_alloc h2 _)) (by show w.heap.size + 1 ≠ w3.heap.size; omega) v, fun cs hcs => blk_far (p := ⟨w3.heap.size, 0, none⟩) hcs (by show w.heap.size + 1 + 1 ≠ w3.heap.size; omega) v⟩
  have hres : ∀ w1, KeepBut (w3.alloc (.cells #[.int .i64 0] 30)) w1 (w.heap.size + 1 + 1) none → w1.heap[w3.heap.size]? = some (.cells #[.int .i64 0] 30 (0, 0)) := fun w1 hk => (hk.2 _ (by omega) (by omega) (by simp)).trans (blk_new w3 _)
  by_cases hz : (getL l).1 = 0
  · rw [hz]
    refine (try_ok55 _ w3 (fun w1 => KeepBut (w3.alloc (.cells #[.int .i64 0] 30)) w1 (w.heap.size + 1 + 1) none ∧ Below w.heap.size w w1 ∧ w1.heap[w.heap.size + 1 + 1]? = some (.cells (getL l).2.cells 29 (0, 0))) (hG.mono ?_)).mono ?_
    · rintro e w1 ⟨hk, hb1, ⟨_, rfl, hq⟩ | ⟨hn, _⟩⟩
      · exact ⟨rfl, hres w1 hk, hk, hb1, hq⟩
      · exact absurd hz hn
    · rintro e w' ⟨rfl, w1, ⟨hk, hb1, hq⟩, rfl⟩
      obtain ⟨f1, f2, f3⟩ := hfin w1 (.int .i64 0) hk hb1
      exact ⟨rfl, f1, f2, fun _ => f3 _ hq⟩
  · refine (try_bad55 _ w3 (getL l).1 (fun w1 => KeepBut (w3.alloc (.cells #[.int .i64 0] 30)) w1 (w.heap.size + 1 + 1) none ∧ Below w.heap.size w w1) (hG.mono ?_)).mono ?_
    · rintro e w1 ⟨hk, hb1, ⟨hn, _⟩ | ⟨_, rfl⟩⟩
      · exact absurd hn hz
      · exact ⟨rfl, hres w1 hk, hk, hb1⟩
    · rintro e w' ⟨rfl, w1, ⟨hk, hb1⟩, rfl⟩
      obtain ⟨f1, f2, f3⟩ := hfin w1 (.int .i64 (getL l).1) hk hb1
      exact ⟨rfl, f1, f2, fun h => absurd h hz⟩
set_option maxHeartbeats 4000000 in
set_option maxRecDepth 100000 in
theorem get_good (w : World) (l : List Int) (A : Option Addr) (c : Nat) (q : AskV) (hq : getL l = (0, q)) (hc : l.length ≤ c) (hC : (Kd.int .u8).C w A l.length l) (hl : l.length ≤ 1000000) (hby : Bytes l) (hT : Tabs w) :
    Calls Tryd.prog 31 #[.slice A l.length c] w fun e w' => e = .returned (.tuple #[.agg q.cells, .int .i64 0]) ∧ Below w.heap.size w w' := by
  have hmf : ∀ (fn : Fn) (first cap : Array Value) (w : World), (Instr.makeFunc fn first cap).run Tryd.prog w = .ok (.func fn first cap) w := fun _ _ _ _ => rfl
  have HT := Aside0.mk (get_try w l A c hc hC hl hby hT)
  rw [hq] at HT
  clear hC hT hq hby hl hc
  obtain ⟨k, name, f, lang, out, dst, mat, body⟩ := q
  go_enter Tryd.func31, Tryd.ntmps31
  go_wp2_with fail
  obtain ⟨t0, t1, t2, t3, t4⟩ := three w (Obj.cells #[Value.slice A l.length c] 33) (Obj.cells #[.int .i64 0, .string { data := #[] }, .int .i64 0, .int .i64 0, .int .i64 0, .int .i64 0, .int .i64 0, .string { data := #[] }] 29) (Obj.cells #[.int .i64 0, .string { data := #[] }, .int .i64 0, .int .i64 0, .int .i64 0, .int .i64 0, .int .i64 0, .string { data := #[] }] 29)
  refine (HT.out _ t0 t1 t2 t3 t4).mono ?_
  rintro e w4 ⟨rfl, hb, b2, b3⟩
  have b4 := b3 trivial
  obtain ⟨c0, c1, c2, c3, c4, c5, c6, c7⟩ := box29 b4
  clear b3 t0 t1 t2 t3 t4 HT
  have HB := Aside0.mk hb
  have B2 := Aside0.mk b2
  obtain ⟨d0, d1, d2, d3, d4, d5, d6, d7⟩ := box29 (show w4.heap[w.heap.size + 1]? = some (.cells #[.int .i64 0, .string .empty, .int .i64 0, .int .i64 0, .int .i64 0, .int .i64 0, .int .i64 0, .string .empty] 29 (0, 0)) from b2)
  obtain ⟨f0, f1, f2, f3, f4, f5, f6, f7⟩ := box29f b2
  clear hb b2 b4
  go_wp2
  have bE := blk_set (blk_set (blk_set (blk_set (blk_set (blk_set (blk_set (blk_set B2.out 0 (.int .i64 k)) 1 (.string name)) 2 (.int .i64 f)) 3 (.int .i64 lang)) 4 (.int .i64 out)) 5 (.int .i64 dst)) 6 (.int .i64 mat)) 7 (.string body)
  refine bodyPost_ret (res31 _ (w.heap.size + 1) _ _ _ _ _ _ _ _ _ _ _ k name f lang out dst mat body 0 bE) rfl ⟨rfl, ?_⟩
  have hg : w.heap.size ≤ w.heap.size + 1 := by omega
  exact (((((((HB.out.setCell (p := ⟨_, 0, none⟩) hg _).setCell (p := ⟨_, 1, none⟩) hg _).setCell (p := ⟨_, 2, none⟩) hg _).setCell (p := ⟨_, 3, none⟩) hg _).setCell (p := ⟨_, 4, none⟩) hg _).setCell (p := ⟨_, 5, none⟩) hg _).setCell (p := ⟨_, 6, none⟩) hg _).setCell (p := ⟨_, 7, none⟩) hg _
set_option maxHeartbeats 4000000 in
set_option maxRecDepth 100000 in
theorem get_bad (w : World) (l : List Int) (A : Option Addr) (c : Nat) (e : Int) (he : (getL l).1 = e) (h0 : e ≠ 0) (hc : l.length ≤ c) (hC : (Kd.int .u8).C w A l.length l) (hl : l.length ≤ 1000000) (hby : Bytes l) (hT : Tabs w) :
    Calls Tryd.prog 31 #[.slice A l.length c] w fun r w' => r = .returned (.tuple #[.agg AskV.none.cells, .int .i64 e]) ∧ Below w.heap.size w w' := by
  have hmf : ∀ (fn : Fn) (first cap : Array Value) (w : World), (Instr.makeFunc fn first cap).run Tryd.prog w = .ok (.func fn first cap) w := fun _ _ _ _ => rfl
  have HT := Aside0.mk (get_try w l A c hc hC hl hby hT)
  rw [he] at HT
  have n1 : (e != 0) = true := bne_iff_ne.2 h0
  clear hC hT he hby hl hc h0
  go_enter Tryd.func31, Tryd.ntmps31
  go_wp2_with fail
  obtain ⟨t0, t1, t2, t3, t4⟩ := three w (Obj.cells #[Value.slice A l.length c] 33) (Obj.cells #[.int .i64 0, .string { data := #[] }, .int .i64 0, .int .i64 0, .int .i64 0, .int .i64 0, .int .i64 0, .string { data := #[] }] 29) (Obj.cells #[.int .i64 0, .string { data := #[] }, .int .i64 0, .int .i64 0, .int .i64 0, .int .i64 0, .int .i64 0, .string { data := #[] }] 29)
  refine (HT.out _ t0 t1 t2 t3 t4).mono ?_
  rintro r w4 ⟨rfl, hb, b2, b3⟩
  clear b3 t0 t1 t2 t3 t4 HT
  have HB := Aside0.mk hb
  have B2 := Aside0.mk b2
  obtain ⟨d0, d1, d2, d3, d4, d5, d6, d7⟩ := box29 (show w4.heap[w.heap.size + 1]? = some (.cells #[.int .i64 0, .string .empty, .int .i64 0, .int .i64 0, .int .i64 0, .int .i64 0, .int .i64 0, .string .empty] 29 (0, 0)) from b2)
  obtain ⟨f0, f1, f2, f3, f4, f5, f6, f7⟩ := box29f b2
  clear hb b2
  go_wp2
  have bE := blk_set (blk_set (blk_set (blk_set (blk_set (blk_set (blk_set (blk_set B2.out 0 (.int .i64 0)) 1 (.string .empty)) 2 (.int .i64 0)) 3 (.int .i64 0)) 4 (.int .i64 0)) 5 (.int .i64 0)) 6 (.int .i64 0)) 7 (.string .empty)
  refine bodyPost_ret (res31 _ (w.heap.size + 1) _ _ _ _ _ _ _ _ _ _ _ 0 .empty 0 0 0 0 0 .empty e bE) rfl ⟨rfl, ?_⟩
  have hg : w.heap.size ≤ w.heap.size + 1 := by omega
  exact (((((((HB.out.setCell (p := ⟨_, 0, none⟩) hg _).setCell (p := ⟨_, 1, none⟩) hg _).setCell (p := ⟨_, 2, none⟩) hg _).setCell (p := ⟨_, 3, none⟩) hg _).setCell (p := ⟨_, 4, none⟩) hg _).setCell (p := ⟨_, 5, none⟩) hg _).setCell (p := ⟨_, 6, none⟩) hg _).setCell (p := ⟨_, 7, none⟩) hg _
end Go.Proofs.YtpamgedmgjfjjaaDoor.M
end
section
namespace Go.Proofs.YtpamgedmgjfjjaaDoor.M
open Go.RowKit Go.Proofs.YtpamgedmgjfjjaaDoorW.PrintWords Go.Proofs.YtpamgedmgjfjjaaDoorW.PrintLast Go.Proofs.YtpamgedmgjfjjaaDoorW.PrintMore
set_option linter.unusedVariables false
set_option linter.unusedSimpArgs false
theorem bytes_bytesOf (s : ByteArray) : Bytes (bytesOf s) := by
  intro x hx
  simp only [bytesOf, List.mem_map] at hx
  obtain ⟨b, _, rfl⟩ := hx
  have := b.toNat_lt
  omega
end Go.Proofs.YtpamgedmgjfjjaaDoor.M
end
