/-
What frame.Get comes to.
-/
import Derived.Test.YtpamgedmgjfjjaaDoorXFTry
namespace Go.Proofs.YtpamgedmgjfjjaaDoor.M
open Go.RowKit Go.Proofs.YtpamgedmgjfjjaaDoorW.PrintWords Go.Proofs.YtpamgedmgjfjjaaDoorW.PrintLast Go.Proofs.YtpamgedmgjfjjaaDoorW.PrintMore
set_option linter.unusedVariables false
set_option linter.unusedSimpArgs false
/-- The closure at work: block a is what it fills, block g its reader. -/
structure St (T : TypeId) (w0 w wr : World) (a g : Nat) (cs : Array Value) (l : List Int) : Prop where
  ga : a < g
  gw : w.heap.size ≤ g
  wa : w0.heap.size ≤ a
  keep : KeepBut w wr a none
  low : Below w0.heap.size w0 wr
  blk : wr.heap[a]? = some (.cells cs T (0, 0))
  rd : RdAt w0 wr g l
theorem keep_step {w w1 w2 : World} {a : Nat} (h : KeepBut w w1 a none) (hb : Below w.heap.size w1 w2) : KeepBut w w2 a none :=
  ⟨Nat.le_trans h.1 hb.size, fun i hi hg hr => (hb.block i hi).trans (h.2 i hi hg hr)⟩
theorem St.read {T : TypeId} {w0 w wr w2 : World} {a g : Nat} {cs : Array Value} {l l2 : List Int} (h : St T w0 w wr a g cs l) (hO : OnlyG g wr w2) (hR : RdAt w0 w2 g l2) : St T w0 w w2 a g cs l2 :=
  ⟨h.ga, h.gw, h.wa, keep_step h.keep (hO.low.mono h.gw), hR.hb, (hO.low.block a h.ga).trans h.blk, hR⟩
theorem St.put {T : TypeId} {w0 w wr : World} {a g : Nat} {cs : Array Value} {l : List Int} (h : St T w0 w wr a g cs l) (i : Nat) (v : Value) : St T w0 w (wr.setCell ⟨a, i, none⟩ v) a g (cs.setIfInBounds i v) l := by
  obtain ⟨hg, hb, A, c, hblk, hc, hC⟩ := h.rd
  have hb' := h.low.setCell (p := ⟨a, i, none⟩) h.wa v
  have hne : g ≠ a := by have := h.ga; omega
  exact ⟨h.ga, h.gw, h.wa, h.keep.set_ i v, hb', blk_set h.blk i v, ⟨hg, hb', A, c, blk_far hblk (p := ⟨a, i, none⟩) hne v, hc, hC⟩⟩
theorem St.drew {T : TypeId} {w0 w wr : World} {a g : Nat} {cs : Array Value} {l : List Int} (h : St T w0 w wr a g cs l) : St T w0 w wr.drew a g cs l :=
  ⟨h.ga, h.gw, h.wa, h.keep, Below.drew h.low, h.blk, ⟨h.rd.hg, Below.drew h.rd.hb, h.rd.ex⟩⟩
theorem St.cell {T : TypeId} {w0 w wr : World} {a g : Nat} {cs : Array Value} {l : List Int} (h : St T w0 w wr a g cs l) (i : Nat) (v : Value) (hv : cs[i]? = some v) : wr.cell? ⟨a, i, none⟩ = some v ∧ wr.frozen? ⟨a, i, none⟩ = false :=
  ⟨(blk_cell h.blk i).trans hv, blk_frozen h.blk i⟩
theorem number1 (w0 w : World) (g : Nat) (x : Int) (l : List Int) (hl : (x :: l).length ≤ 1000000) (hby : Bytes (x :: l)) (h : RdAt w0 w g (x :: l)) :
    Calls Tryd.prog 56 #[.pointer (some ⟨g, 0, none⟩), .int .i64 1] w fun e w' => e = .returned (.int .i64 x) ∧ RdAt w0 w' g l ∧ OnlyG g w w' := by
  have := number_ok w0 w g (x :: l) 1 (by decide) (by simp) hl hby h
  simpa [numL] using this
theorem number1_bad (w0 w : World) (g : Nat) (h : RdAt w0 w g []) : Calls Tryd.prog 56 #[.pointer (some ⟨g, 0, none⟩), .int .i64 1] w fun e w' => e = .panicked (Thrown 2) ∧ OnlyG g w w' :=
  number_bad w0 w g [] 1 (by decide) h
theorem St.num1 {T : TypeId} {w0 w wr : World} {a g : Nat} {cs : Array Value} {x : Int} {l : List Int} (h : St T w0 w wr a g cs (x :: l)) (hl : (x :: l).length ≤ 1000000) (hby : Bytes (x :: l)) :
    Calls Tryd.prog 56 #[.pointer (some ⟨g, 0, none⟩), .int .i64 1] wr fun e w' => e = .returned (.int .i64 x) ∧ St T w0 w w' a g cs l ∧ OnlyG g wr w' :=
  (number1 w0 wr g x l hl hby h.rd).mono (by rintro e w' ⟨rfl, h1, h2⟩; exact ⟨rfl, h.read h2 h1, h2⟩)
theorem St.num4 {T : TypeId} {w0 w wr : World} {a g : Nat} {cs : Array Value} {l : List Int} (h : St T w0 w wr a g cs l) (h4 : 4 ≤ l.length) (hl : l.length ≤ 1000000) (hby : Bytes l) :
    Calls Tryd.prog 56 #[.pointer (some ⟨g, 0, none⟩), .int .i64 4] wr fun e w' => e = .returned (.int .i64 (numL (l.take 4))) ∧ St T w0 w w' a g cs (l.drop 4) :=
  (number_ok w0 wr g l 4 (by decide) h4 hl hby h.rd).mono (by rintro e w' ⟨rfl, h1, h2⟩; exact ⟨rfl, h.read h2 h1⟩)
theorem St.num_bad {T : TypeId} {w0 w wr : World} {a g : Nat} {cs : Array Value} {l : List Int} (h : St T w0 w wr a g cs l) (n : Nat) (h4 : l.length < n) :
    Calls Tryd.prog 56 #[.pointer (some ⟨g, 0, none⟩), .int .i64 n] wr fun e w' => e = .panicked (Thrown 2) ∧ KeepBut w w' a none ∧ Below w0.heap.size w0 w' :=
  (number_bad w0 wr g l n h4 h.rd).mono (by rintro e w' ⟨rfl, h2⟩; exact ⟨rfl, keep_step h.keep (h2.low.mono h.gw), h2.below (Nat.le_trans h.wa (Nat.le_of_lt h.ga)) h.low⟩)
theorem St.text {T : TypeId} {w0 w wr : World} {a g : Nat} {cs : Array Value} {l : List Int} (h : St T w0 w wr a g cs l) (n : Nat) (h0 : n ≤ 4) (hn : n ≤ l.length) (hm : numL (l.take n) ≤ (l.drop n).length) (hl : l.length ≤ 1000000) (hby : Bytes l) :
    Calls Tryd.prog 57 #[.pointer (some ⟨g, 0, none⟩), .int .i64 n] wr fun e w' => e = .returned (.string (strOfNums ((l.drop n).take (numL (l.take n)).toNat))) ∧ St T w0 w w' a g cs ((l.drop n).drop (numL (l.take n)).toNat) :=
  (text_ok w0 wr g l n h0 hn hm hl hby h.rd).mono (by rintro e w' ⟨rfl, h1, h2⟩; exact ⟨rfl, h.read h2 h1⟩)
theorem St.text_bad {T : TypeId} {w0 w wr : World} {a g : Nat} {cs : Array Value} {l : List Int} (h : St T w0 w wr a g cs l) (n : Nat) (h0 : n ≤ 4) (hb : l.length < n ∨ n ≤ l.length ∧ ((l.drop n).length : Int) < numL (l.take n)) (hl : l.length ≤ 1000000) (hby : Bytes l) :
    Calls Tryd.prog 57 #[.pointer (some ⟨g, 0, none⟩), .int .i64 n] wr fun e w' => e = .panicked (Thrown 2) ∧ KeepBut w w' a none ∧ Below w0.heap.size w0 w' := by
  have key : Calls Tryd.prog 57 #[.pointer (some ⟨g, 0, none⟩), .int .i64 n] wr fun e w' => e = .panicked (Thrown 2) ∧ OnlyG g wr w' := by
    rcases hb with hb | ⟨hb, hm⟩
    · exact text_bad1 w0 wr g l n hb h.rd
    · exact text_bad2 w0 wr g l n h0 hb hm hl hby h.rd
  exact key.mono (by rintro e w' ⟨rfl, h2⟩; exact ⟨rfl, keep_step h.keep (h2.low.mono h.gw), h2.below (Nat.le_trans h.wa (Nat.le_of_lt h.ga)) h.low⟩)
theorem St.fin {T : TypeId} {w0 w wr : World} {a g : Nat} {cs : Array Value} (h : St T w0 w wr a g cs []) :
    Calls Tryd.prog 58 #[.pointer (some ⟨g, 0, none⟩)] wr fun e w' => e = .returned (.tuple #[]) ∧ St T w0 w w' a g cs [] :=
  (end_ok w0 wr g h.rd).mono (by rintro e w' ⟨rfl, rfl⟩; exact ⟨rfl, h⟩)
theorem St.fin_bad {T : TypeId} {w0 w wr : World} {a g : Nat} {cs : Array Value} {l : List Int} (h : St T w0 w wr a g cs l) (hl : l ≠ []) :
    Calls Tryd.prog 58 #[.pointer (some ⟨g, 0, none⟩)] wr fun e w' => e = .panicked (Thrown 2) ∧ KeepBut w w' a none ∧ Below w0.heap.size w0 w' :=
  (end_bad w0 wr g l hl h.rd).mono (by rintro e w' ⟨rfl, rfl⟩; exact ⟨rfl, h.keep, h.low⟩)
/-- What an answer's bytes come to: err, index + 1, revision, body. -/
def ansL (l : List Int) : Int × AnsV :=
  if l.length < 6 then (2, ⟨0, 0, 0, .empty⟩)
  else if (l.drop 6).length < 4 then (2, ⟨0, 0, 0, .empty⟩)
  else if ((l.drop 6).drop 4).length ≠ (numL ((l.drop 6).take 4)).toNat then (2, ⟨0, 0, 0, .empty⟩)
  else if (AnsV.mk (l.getD 0 0) (l.getD 1 0 - 1) (numL ((l.drop 2).take 4)) (strOfNums ((l.drop 6).drop 4))).ok then (0, ⟨l.getD 0 0, l.getD 1 0 - 1, numL ((l.drop 2).take 4), strOfNums ((l.drop 6).drop 4)⟩)
  else (1, ⟨0, 0, 0, .empty⟩)
end Go.Proofs.YtpamgedmgjfjjaaDoor.M
