/-
What utf.Runes comes to.
-/
import Derived.Test.YtpamgedmgjfjjaaDoorXUtf
import Derived.Lib.OthersKept
namespace Go.Proofs.YtpamgedmgjfjjaaDoor.M
open Go.RowKit Go.Proofs.YtpamgedmgjfjjaaDoorW.PrintWords Go.Proofs.YtpamgedmgjfjjaaDoorW.PrintLast Go.Proofs.YtpamgedmgjfjjaaDoorW.PrintMore
open Go.Lib
set_option linter.unusedVariables false
set_option linter.unusedSimpArgs false

/-- The runes from a place on, by at most so many. -/
def runesU (s : ByteArray) : Nat → Nat → List Int
  | 0, _ => []
  | f + 1, pos => if pos < s.size then (runeU s pos).1 :: runesU s f (pos + (Utf8.decode s pos).2) else []
theorem runesU_end (s : ByteArray) (f pos : Nat) (h : ¬ pos < s.size) : runesU s f pos = [] := by
  cases f
  · rfl
  · rw [runesU, if_neg h]
theorem info21x : (Tryd.prog.info? 21).map (fun i => (i.zero, i.size, i.bytes)) = some (some (.int .i32 0), 1, 4) := by kernel_rfl

theorem iterPos_at {w : World} {k : Nat} {s : ByteArray} {p : Nat} (h : w.heap[k]? = some (.stringIter s p)) : w.iterPos k = p := by simp [World.iterPos, h]
set_option maxHeartbeats 2000000 in
set_option maxRecDepth 100000 in
theorem utf_Runes_calls (s : ByteArray) (w : World) (hT : Tabs w) (hs : s.size ≤ 1000000) :
    Calls Tryd.prog 17 #[.string s] w fun e w' => ∃ v : Value, e = .returned v ∧ Kd.R (Kd.int .i32) 21 w' w.heap.size (fun _ => True) v (runesU s s.size 0) ∧ Below w.heap.size w w' := by
  have HT := Aside0.mk hT
  clear hT
  go_enter Tryd.func17, Tryd.ntmps17
  go_wp2
  go_loopw [3] (fun v3 wr => ∃ (pos f : Nat) (out : List Int), Aside0 (wr.heap[w.heap.size]? = some (.stringIter s pos)) ∧ Aside0 (Below w.heap.size w wr) ∧ Aside0 (Kd.R (Kd.int .i32) 21 wr w.heap.size (fun k => k ≠ w.heap.size) v3 out)
      ∧ Aside0 (out ++ runesU s f pos = runesU s s.size 0) ∧ Aside0 (s.size ≤ pos + f) ∧ Aside0 (out.length ≤ pos))
    (fun _ wr => s.size - wr.iterPos w.heap.size)
  case atStart =>
    exact ⟨0, s.size, [], ⟨World.iter_heap w s 0⟩, ⟨below_alloc (Below.refl _ _) _⟩, ⟨Kd.R_nil _ _ _ _ _⟩, ⟨rfl⟩, ⟨by omega⟩, ⟨by simp⟩⟩
  case round =>
    obtain ⟨pos, f, out, HI, HB, HO, HM, HF, HN⟩ := hrel
    by_cases hp : pos < s.size
    · have hnx := fun ty => run_next_any_at (P := Tryd.prog) wr w.heap.size s pos ty HI.out hp
      have HW := Aside0.mk (width_pos s pos)
      have HI1 := Aside0.mk (iterAt_heap wr w.heap.size s pos (pos + (Utf8.decode s pos).2) HI.out)
      have HB1 := Aside0.mk (below_iterAt HB.out (Nat.le_refl w.heap.size) s (pos + (Utf8.decode s pos).2))
      have HO1 := Aside0.mk (Kd.R_step (w1 := wr.iterAt w.heap.size s (pos + (Utf8.decode s pos).2)) HO.out (fun k hk _ => iterAt_other wr w.heap.size k s _ hk))
      have HC := Aside0.mk (utf_Rune_calls s (pos : Int) (wr.iterAt w.heap.size s (pos + (Utf8.decode s pos).2)) (tabs_below HT.out HB1.out))
      have HST := Aside0.mk (show ∀ f', f = f' + 1 → out ++ [(runeU s pos).1] ++ runesU s f' (pos + (Utf8.decode s pos).2) = runesU s s.size 0 by
        intro f' hf
        have := HM.out
        rw [hf, runesU, if_pos hp] at this
        simpa using this)
      have HPOS := Aside0.mk (iterPos_at HI.out)
      obtain ⟨q, hq⟩ : ∃ q, pos + (Utf8.decode s pos).2 = q := ⟨_, rfl⟩
      have HQ := Aside0.mk (show pos + 1 ≤ q by have := HW.out; omega)
      rw [hq] at hnx HI1 HB1 HO1 HC HST
      generalize (Utf8.decode s pos).1 = r at *
      generalize runeU s pos = z at *
      clear hq HW HI HB HO HM
      go_wp2_with (first
        | (go_at_call 22; refine HC.out.mono ?_; rintro e w1 ⟨rfl, hb⟩; have HI2 := Aside0.mk ((hb.block w.heap.size (blk_lt HI1.out)).trans HI1.out); have HB2 := Aside0.mk (below_then HB1.out HB1.out.size hb); have HO2 := Aside0.mk (Kd.R_below HO1.out hb); clear hb HC HI1 HB1 HO1)
        | ((with_reducible refine gate_builtin (b := .append) (xs := #[.tmp 18, .tmp 20]) rfl ?_); at_builtin; refine Kd.R_append (Kd.int .i32) (w0 := w) w.heap.size rfl (.tmp 18) (.tmp 20) 25 21 (.int .i32 0) 4 rfl Tryd.underlying25 info21x rfl (by decide) (by omega) _ out z.1 [.int .i32 z.1] (fun k => k ≠ w.heap.size) (fun _ => False) rfl rfl ?aP (fun _ hk => hk.elim) ?aF HO2.out HB2.out (below_size HB2.out) ?aL ?_; (case aP => exact rfl); (case aF => intro k hk hk2; subst hk2; exact absurd (blk_lt HI2.out) (by omega)); (case aL => have := HN.out; omega); intro v2 w2 ho hb hg hat; have HI3 := Aside0.mk (blk_grown HI2.out hg (fun h => HO2.out.1 _ h.symm rfl)); have HO3 := Aside0.mk ho; have HB3 := Aside0.mk hb; clear ho hb hg hat HI2 HB2 HO2))
      go_roundw
      case rel =>
        obtain ⟨f', rfl⟩ : ∃ f', f = f' + 1 := ⟨f - 1, by have := HF.out; omega⟩
        exact ⟨q, f', out ++ [z.1], HI3, HB3, HO3, ⟨HST.out f' rfl⟩, ⟨by have := HF.out; have := HQ.out; omega⟩, ⟨by have := HN.out; have := HQ.out; simp; omega⟩⟩
      case measure =>
        have h1 := iterPos_at HI3.out
        have h2 := HPOS.out
        have h3 := HQ.out
        omega
    · have hnx := fun ty => run_next_end_at (P := Tryd.prog) wr w.heap.size s pos ty HI.out hp
      go_wp2
      go_ret
      refine ⟨_, rfl, ?_, HB.out⟩
      have h := HM.out
      rw [runesU_end s f pos hp, List.append_nil] at h
      rw [← h]
      exact Kd.R_mono HO.out (fun _ _ => trivial)
end Go.Proofs.YtpamgedmgjfjjaaDoor.M
