/-
frame's reader: bytes under way.
-/
import Derived.Test.YtpamgedmgjfjjaaDoorXFSizes
namespace Go.Proofs.YtpamgedmgjfjjaaDoor.M
open Go.RowKit Go.Proofs.YtpamgedmgjfjjaaDoorW.PrintWords Go.Proofs.YtpamgedmgjfjjaaDoorW.PrintLast Go.Proofs.YtpamgedmgjfjjaaDoorW.PrintMore
set_option linter.unusedVariables false
set_option linter.unusedSimpArgs false
/-- The reader in block g: its bytes lie as they lay in w0. -/
structure RdAt (w0 w : World) (g : Nat) (l : List Int) : Prop where
  hg : w0.heap.size ≤ g
  hb : Below w0.heap.size w0 w
  ex : ∃ A c, w.heap[g]? = some (.cells #[.slice A l.length c] 85 (0, 0)) ∧ l.length ≤ c ∧ (Kd.int .u8).C w0 A l.length l
/-- Only block g was written. -/
structure OnlyG (g : Nat) (w w' : World) : Prop where
  low : Below g w w'
  keep : KeepBut w w' g none
theorem OnlyG.refl (g : Nat) (w : World) : OnlyG g w w := ⟨Below.refl g w, KeepBut.refl w g none⟩
theorem OnlyG.trans {g : Nat} {a b c : World} (h : OnlyG g a b) (k : OnlyG g b c) : OnlyG g a c := ⟨h.low.trans k.low, h.keep.trans k.keep (.inl rfl)⟩
theorem OnlyG.set {g : Nat} {w w' : World} (h : OnlyG g w w') (i : Nat) (v : Value) : OnlyG g w (w'.setCell ⟨g, i, none⟩ v) := ⟨h.low.setCell (p := ⟨g, i, none⟩) (Nat.le_refl _) _, h.keep.set_ _ _⟩
theorem OnlyG.drew {g : Nat} {w w' : World} (h : OnlyG g w w') : OnlyG g w w'.drew := ⟨Below.drew h.low, h.keep⟩
theorem OnlyG.below {w0 w w' : World} {g : Nat} (hg : w0.heap.size ≤ g) (hb : Below w0.heap.size w0 w) (h : OnlyG g w w') : Below w0.heap.size w0 w' := hb.trans (h.low.mono hg)
/-- What is thrown. -/
@[reducible] def Thrown (k : Int) : List PanicEntry := [{ v := .iface 30 (.int .i64 k), recovered := false }]
set_option maxHeartbeats 2000000 in
set_option maxRecDepth 100000 in
theorem take_ok (w0 w : World) (g : Nat) (l : List Int) (n : Int) (h0 : 0 ≤ n) (hn : n ≤ l.length) (hl : l.length ≤ 1000000) (h : RdAt w0 w g l) :
    Calls Tryd.prog 73 #[.pointer (some ⟨g, 0, none⟩), .int .i64 n] w fun e w' => ∃ A c, e = .returned (.slice A n.toNat c) ∧ n.toNat ≤ c ∧ (Kd.int .u8).C w0 A n.toNat (l.take n.toNat) ∧ RdAt w0 w' g (l.drop n.toNat) ∧ OnlyG g w w' := by
  obtain ⟨i, hi, hsz⟩ := Option.map_eq_some_iff.1 size33
  obtain ⟨hg, hb, A, c, hblk, hc, hC⟩ := h
  have HT := Aside0.mk (Kd.C_mid (lo := 0) (hi := n.toNat) (c := c) hC (by omega) (by omega) hc)
  have HD := Aside0.mk (Kd.C_drop (m := n.toNat) (c := c) hC (by omega) hc)
  have s1 := cut_to (P := Tryd.prog) 33 5 .i64 Tryd.underlying33 hi A l.length c n h0 hn hc
  have s2 := cut_from (P := Tryd.prog) 33 5 .i64 Tryd.underlying33 hi 1 hsz A l.length c n h0 hn
  have c1 := blk_cell hblk 0
  have f1 := blk_frozen hblk 0
  have n1 : decide (n > (l.length : Int)) = false := decide_eq_false (by omega)
  have n2 : decide ((l.length : Int) < n) = false := decide_eq_false (by omega)
  have HBL := Aside0.mk hblk
  have HB := Aside0.mk hb
  have HG := Aside0.mk hg
  have HC := Aside0.mk hc
  have HN := Aside0.mk hn
  have H0 := Aside0.mk h0
  obtain ⟨A2, hA2⟩ : ∃ A2, (if c = n.toNat then A else A.map (·.add (n.toNat * 1))) = A2 := ⟨_, rfl⟩
  rw [hA2] at s2
  have HA2 := Aside0.mk hA2
  clear hg hb hC hc hA2 hn h0
  simp only [List.getElem?_toArray, List.getElem?_cons_zero] at c1
  go_enter Tryd.func73, Tryd.ntmps73
  go_wp2
  go_ret
  have hl' : (l.drop n.toNat).length = l.length - n.toNat := List.length_drop
  refine ⟨A, c, rfl, by have := HC.out; have := HN.out; have := H0.out; omega, ?_, ⟨HG.out, OnlyG.below HG.out HB.out ((OnlyG.refl g w).set _ _), A2, c - n.toNat, ?_, by have := HC.out; omega, ?_⟩, (OnlyG.refl g w).set _ _⟩
  · have := HT.out
    simp only [List.drop_zero] at this
    rw [List.length_take, Nat.min_eq_left (by have := HN.out; omega)] at this
    by_cases hc0 : c = 0
    · rw [if_pos hc0] at this; exact this
    · rw [if_neg hc0] at this; simpa [Addr.add] using this
  · rw [hl']
    exact blk_put HBL.out 0 _ rfl
  · have := HD.out
    rw [← HA2.out]
    exact this
set_option maxHeartbeats 2000000 in
set_option maxRecDepth 100000 in
theorem take_bad (w0 w : World) (g : Nat) (l : List Int) (n : Int) (hn : (l.length : Int) < n) (h : RdAt w0 w g l) :
    Calls Tryd.prog 73 #[.pointer (some ⟨g, 0, none⟩), .int .i64 n] w fun e w' => e = .panicked (Thrown 2) ∧ OnlyG g w w' := by
  obtain ⟨hg, hb, A, c, hblk, hc, hC⟩ := h
  have c1 := blk_cell hblk 0
  have n1 : decide (n > (l.length : Int)) = true := decide_eq_true (by omega)
  have n2 : decide ((l.length : Int) < n) = true := decide_eq_true (by omega)
  simp only [List.getElem?_toArray, List.getElem?_cons_zero] at c1
  clear hC
  go_enter Tryd.func73, Tryd.ntmps73
  go_wp2
  exact ⟨rfl, rfl, OnlyG.refl g w⟩
set_option maxHeartbeats 2000000 in
set_option maxRecDepth 100000 in
theorem end_ok (w0 w : World) (g : Nat) (h : RdAt w0 w g []) : Calls Tryd.prog 58 #[.pointer (some ⟨g, 0, none⟩)] w fun e w' => e = .returned (.tuple #[]) ∧ w' = w := by
  obtain ⟨hg, hb, A, c, hblk, hc, hC⟩ := h
  have c1 := blk_cell hblk 0
  simp only [List.getElem?_toArray, List.getElem?_cons_zero, List.length_nil] at c1
  clear hC
  go_enter Tryd.func58, Tryd.ntmps58
  go_wp2
  go_end0
  exact ⟨rfl, rfl⟩
set_option maxHeartbeats 2000000 in
set_option maxRecDepth 100000 in
theorem end_bad (w0 w : World) (g : Nat) (l : List Int) (hl : l ≠ []) (h : RdAt w0 w g l) : Calls Tryd.prog 58 #[.pointer (some ⟨g, 0, none⟩)] w fun e w' => e = .panicked (Thrown 2) ∧ w' = w := by
  obtain ⟨hg, hb, A, c, hblk, hc, hC⟩ := h
  have c1 := blk_cell hblk 0
  have h1 : 0 < l.length := List.length_pos_iff.2 hl
  have n1 : decide ((l.length : Int) > 0) = true := decide_eq_true (by omega)
  have n2 : decide (0 < (l.length : Int)) = true := decide_eq_true (by omega)
  have n3 : decide (0 < l.length) = true := decide_eq_true (by omega)
  simp only [List.getElem?_toArray, List.getElem?_cons_zero] at c1
  clear hC hl
  go_enter Tryd.func58, Tryd.ntmps58
  go_wp2
  exact ⟨rfl, rfl, rfl⟩
theorem must_ok (w : World) : Calls Tryd.prog 59 #[.bool true] w fun e w' => e = .returned (.tuple #[]) ∧ w' = w := by
  go_enter Tryd.func59, Tryd.ntmps59
  go_wp2
  go_end0
  exact ⟨rfl, rfl⟩
theorem must_bad (w : World) : Calls Tryd.prog 59 #[.bool false] w fun e w' => e = .panicked (Thrown 1) ∧ w' = w := by
  go_enter Tryd.func59, Tryd.ntmps59
  go_wp2
  exact ⟨rfl, rfl, rfl⟩
/-- Bytes as a number. -/
def numL (l : List Int) : Int := l.foldl (fun v x => v * 256 + x) 0
theorem numL_step (l : List Int) (k : Nat) (x : Int) (h : l[k]? = some x) : numL (l.take (k + 1)) = numL (l.take k) * 256 + x := by
  rw [List.take_add_one, h]
  simp [numL]
def Bytes (l : List Int) : Prop := ∀ x ∈ l, 0 ≤ x ∧ x ≤ 255
theorem numL_bound0 (l : List Int) : ∀ acc : Int, 0 ≤ acc → Bytes l → 0 ≤ l.foldl (fun v x => v * 256 + x) acc ∧ l.foldl (fun v x => v * 256 + x) acc + 1 ≤ (acc + 1) * 256 ^ l.length := by
  induction l with
  | nil => intro acc h0 _; simp; exact h0
  | cons x t ih =>
    intro acc h0 hl
    have hx := hl x (by simp)
    have h := ih (acc * 256 + x) (by omega) (fun y hy => hl y (by simp [hy]))
    refine ⟨h.1, Int.le_trans h.2 ?_⟩
    rw [List.length_cons, Int.pow_succ, Int.mul_comm (256 ^ t.length) 256, ← Int.mul_assoc]
    exact Int.mul_le_mul_of_nonneg_right (by omega) (Int.pow_nonneg (by decide))
theorem wraps_i64 (n : Int) (h₀ : 0 ≤ n) (h₁ : n < 2 ^ 63) : IntKind.i64.wrap n = n := by rw [IntKind.wrap_i64]; omega
theorem or8 (v x : Int) (h0 : 0 ≤ v) (h1 : v < 16777216) (h2 : 0 ≤ x) (h3 : x ≤ 255) : bits BinOp.or IntKind.i64 (wrap64 (v * 256)) (wrap64 x) = v * 256 + x := by
  rw [show wrap64 (v * 256) = v * 256 by unfold wrap64; omega, show wrap64 x = x by unfold wrap64; omega]
  exact bits_join .i64 63 (by decide) wraps_i64 8 (v * 256) x (by omega) (by omega) (by omega) h2 (by omega) (by omega)
theorem pow256 (k : Nat) (hk : k ≤ 3) : (256 : Int) ^ k ≤ 16777216 := by
  match k, hk with
  | 0, _ => decide
  | 1, _ => decide
  | 2, _ => decide
  | 3, _ => decide
theorem numL_bound (l : List Int) (hl : Bytes l) : 0 ≤ numL l ∧ numL l + 1 ≤ 256 ^ l.length := by
  have h := numL_bound0 l 0 (by decide) hl
  simpa [numL] using h
set_option maxHeartbeats 2000000 in
set_option maxRecDepth 100000 in
theorem number_ok (w0 w : World) (g : Nat) (l : List Int) (n : Nat) (h0 : n ≤ 4) (hn : n ≤ l.length) (hl : l.length ≤ 1000000) (hby : Bytes l) (h : RdAt w0 w g l) :
    Calls Tryd.prog 56 #[.pointer (some ⟨g, 0, none⟩), .int .i64 n] w fun e w' => e = .returned (.int .i64 (numL (l.take n))) ∧ RdAt w0 w' g (l.drop n) ∧ OnlyG g w w' := by
  have HC := Aside0.mk (take_ok w0 w g l n (by omega) (by omega) hl h)
  rw [Int.toNat_natCast] at HC
  obtain ⟨xs, hxs⟩ : ∃ xs, l.take n = xs := ⟨_, rfl⟩
  have hlen : xs.length = n := by rw [← hxs, List.length_take]; omega
  have hbx : Bytes xs := fun x hx => hby x (List.mem_of_mem_take (by rw [hxs]; exact hx))
  obtain ⟨ys, hys⟩ : ∃ ys, l.drop n = ys := ⟨_, rfl⟩
  rw [hxs, hys] at HC
  rw [hxs, hys]
  clear hxs hys hby h hn hl l
  go_enter Tryd.func56, Tryd.ntmps56
  go_wp2_with (go_at_call 73; refine HC.out.mono ?_; rintro e w1 ⟨A, c, rfl, hc, hC, hR, hO⟩; have HR := Aside0.mk hR; have HO := Aside0.mk hO; have HX := Aside0.mk (Kd.C_below hC hR.hb); clear hc hC hR hO)
  subst hlen
  go_loopw [5, 12] (fun v5 v12 wr => ∃ k : Nat, v12 = .int .i64 k ∧ v5 = .int .i64 (numL (xs.take k)) ∧ Aside0 (k ≤ xs.length) ∧ wr = w1) (fun v5 v12 wr => xs.length - (RowKit.intOf v12).toNat)
  case atStart => exact ⟨0, rfl, by simp [numL], ⟨by omega⟩, rfl⟩
  case round =>
    obtain ⟨k, rfl, rfl, HK, rfl⟩ := hrel
    by_cases hk : k < xs.length
    · have n1 : decide ((k : Int) < xs.length) = true := decide_eq_true (by omega)
      obtain ⟨ad, ea, hc⟩ := Kd.at_int HX.out (k : Int) (by omega) (by omega)
      rw [Int.toNat_natCast] at hc
      have HB := Aside0.mk (show 0 ≤ numL (xs.take k) ∧ numL (xs.take k) < 16777216 from by
        have h := numL_bound (xs.take k) (fun x hx => hbx x (List.mem_of_mem_take hx))
        have h2 := pow256 (xs.take k).length (by rw [List.length_take]; omega)
        omega)
      have HST := Aside0.mk (numL_step xs k (rd xs k) (by simp [rd, hk]))
      generalize numL (xs.take k) = v at *
      have HXB := Aside0.mk (hbx (rd xs k) (by simp [rd, hk]))
      generalize rd xs k = x at *
      subst ea
      go_wp2
      rw [or8 v x HB.out.1 HB.out.2 HXB.out.1 HXB.out.2]
      refine ⟨⟨k + 1, rfl, by rw [HST.out], ⟨by omega⟩, trivial⟩, ?_⟩
      show xs.length - ((k : Int) + 1).toNat < xs.length - (k : Int).toNat
      omega
    · have n1 : decide ((k : Int) < xs.length) = false := decide_eq_false (by omega)
      have hkk : k = xs.length := by have := HK.out; omega
      subst hkk
      rw [List.take_length]
      go_wp2
      go_ret
      exact ⟨rfl, HR.out, HO.out⟩
set_option maxHeartbeats 2000000 in
set_option maxRecDepth 100000 in
theorem number_bad (w0 w : World) (g : Nat) (l : List Int) (n : Nat) (hn : l.length < n) (h : RdAt w0 w g l) :
    Calls Tryd.prog 56 #[.pointer (some ⟨g, 0, none⟩), .int .i64 n] w fun e w' => e = .panicked (Thrown 2) ∧ OnlyG g w w' := by
  have HC := Aside0.mk (take_bad w0 w g l n (by omega) h)
  clear h
  go_enter Tryd.func56, Tryd.ntmps56
  go_wp2_with (go_at_call 73; refine HC.out.mono ?_; rintro e w1 ⟨rfl, hO⟩)
  exact ⟨rfl, rfl, hO⟩
theorem read_str {w0 w : World} {A : Option Addr} {n c : Nat} {zs : List Int} (hl : zs.length = n) (hC : (Kd.int .u8).C w0 A n zs) (hb : Below w0.heap.size w0 w) : (convert 33 9 (.slice A n c)).run Tryd.prog w = .ok (.string (strOfNums zs)) w := by
  subst hl
  exact Kd.C_string (c := c) Tryd.underlying33 Tryd.underlying5 Tryd.underlying9 (Kd.C_below hC hb)
/-- Bytes as a text. -/
def strL (l : List Int) : ByteArray := strOfNums l
set_option maxHeartbeats 2000000 in
set_option maxRecDepth 100000 in
theorem text_ok (w0 w : World) (g : Nat) (l : List Int) (n : Nat) (h0 : n ≤ 4) (hn : n ≤ l.length) (hm : numL (l.take n) ≤ (l.drop n).length) (hl : l.length ≤ 1000000) (hby : Bytes l) (h : RdAt w0 w g l) :
    Calls Tryd.prog 57 #[.pointer (some ⟨g, 0, none⟩), .int .i64 n] w fun e w' => e = .returned (.string (strOfNums ((l.drop n).take (numL (l.take n)).toNat))) ∧ RdAt w0 w' g ((l.drop n).drop (numL (l.take n)).toNat) ∧ OnlyG g w w' := by
  have HN := Aside0.mk (number_ok w0 w g l n h0 hn hl hby h)
  have hnn := (numL_bound (l.take n) (fun x hx => hby x (List.mem_of_mem_take hx))).1
  have HT := Aside0.mk (fun w1 (h1 : RdAt w0 w1 g (l.drop n)) => take_ok w0 w1 g (l.drop n) (numL (l.take n)) hnn hm (by rw [List.length_drop]; omega) h1)
  generalize numL (l.take n) = m at *
  generalize hys : l.drop n = ys at *
  have hlen : (ys.take m.toNat).length = m.toNat := by rw [List.length_take]; omega
  generalize ys.take m.toNat = zs at *
  generalize ys.drop m.toNat = rs at *
  clear hm hby h hnn hn hl hys
  go_enter Tryd.func57, Tryd.ntmps57
  go_wp2_with (first
    | (go_at_call 56; refine HN.out.mono ?_; rintro e w1 ⟨rfl, hR, hO⟩; have HR := Aside0.mk hR; have HO := Aside0.mk hO; clear hR hO)
    | (go_at_call 73; refine (HT.out _ HR.out).mono ?_; rintro e w2 ⟨A, c, rfl, hc, hC, hR, hO⟩; have HR2 := Aside0.mk hR; have HO2 := Aside0.mk (HO.out.trans hO); have hcv := read_str (c := c) hlen hC hR.hb; clear hc hC hR hO))
  go_ret
  exact ⟨rfl, HR2.out, HO2.out⟩
set_option maxHeartbeats 2000000 in
set_option maxRecDepth 100000 in
theorem text_bad1 (w0 w : World) (g : Nat) (l : List Int) (n : Nat) (hn : l.length < n) (h : RdAt w0 w g l) :
    Calls Tryd.prog 57 #[.pointer (some ⟨g, 0, none⟩), .int .i64 n] w fun e w' => e = .panicked (Thrown 2) ∧ OnlyG g w w' := by
  have HC := Aside0.mk (number_bad w0 w g l n hn h)
  clear h
  go_enter Tryd.func57, Tryd.ntmps57
  go_wp2_with (go_at_call 56; refine HC.out.mono ?_; rintro e w1 ⟨rfl, hO⟩)
  exact ⟨rfl, rfl, hO⟩
set_option maxHeartbeats 2000000 in
set_option maxRecDepth 100000 in
theorem text_bad2 (w0 w : World) (g : Nat) (l : List Int) (n : Nat) (h0 : n ≤ 4) (hn : n ≤ l.length) (hm : ((l.drop n).length : Int) < numL (l.take n)) (hl : l.length ≤ 1000000) (hby : Bytes l) (h : RdAt w0 w g l) :
    Calls Tryd.prog 57 #[.pointer (some ⟨g, 0, none⟩), .int .i64 n] w fun e w' => e = .panicked (Thrown 2) ∧ OnlyG g w w' := by
  have HN := Aside0.mk (number_ok w0 w g l n h0 hn hl hby h)
  have HT := Aside0.mk (fun w1 (h1 : RdAt w0 w1 g (l.drop n)) => take_bad w0 w1 g (l.drop n) (numL (l.take n)) hm h1)
  generalize numL (l.take n) = m at *
  generalize hys : l.drop n = ys at *
  clear hm hby h hn hl hys
  go_enter Tryd.func57, Tryd.ntmps57
  go_wp2_with (first
    | (go_at_call 56; refine HN.out.mono ?_; rintro e w1 ⟨rfl, hR, hO⟩; have HR := Aside0.mk hR; have HO := Aside0.mk hO; clear hR hO)
    | (go_at_call 73; refine (HT.out _ HR.out).mono ?_; rintro e w2 ⟨rfl, hO⟩; have HO2 := Aside0.mk (HO.out.trans hO)))
  exact ⟨rfl, rfl, HO2.out⟩
end Go.Proofs.YtpamgedmgjfjjaaDoor.M
