/-
Small laws for the walks that were typed by hand: a slice cut to its own length, and what an append onto such a slice makes.
-/
import Derived.Test.YtpamgedmgjfjjaaM0
namespace Go.Proofs.Ytpamgedmgjfjjaa.M
open Go.RowKit Go.Proofs.YtpamgedmgjfjjaaW.PrintWords Go.Proofs.YtpamgedmgjfjjaaW.PrintLast Go.Proofs.YtpamgedmgjfjjaaW.PrintMore
set_option linter.unusedVariables false

/-- 's[:len(s):len(s)]': the slice, its spare room forgotten. -/
theorem x_slice_full (P : Program) (t : TypeId) (ht : P.underlying t = some (.slice (P.elem t))) (s : Nat) (hs : ∀ w, (sizeOf (P.elem t)).run P w = .ok s w) (A : Option Addr) (n c : Nat) (h : n ≤ c) (w : World) :
    (Instr.slice t (.slice A n c) none (some (.int .i64 (n : Int))) (some (.int .i64 (n : Int)))).run P w = .ok (.slice A n n) w := by
  rw [run_slice_hm w t A n c ht .i64 .i64 n n (by omega) (by omega) (by omega), hs]
  have h0 : (fun x : Addr => x.add 0) = id := by
    funext x
    simp [Addr.add]
  simp [Result.andThen, sliced, h0]

/-- 'append(s, x)' at a slice without spare room: a new row. -/
theorem x_append_full {P : Program} {ops : Array Oper} {rest : List Oper} {o : Oper} {a : Act} {Q : Exit → Act → World → Prop} {α : Type} {enc : α → Value} {h1 : ∀ x, (enc x).oneCell' = true} {w0 W : World} (d0 : α)
    (hgd : o.guard = none) (s x : Operand) (t e : TypeId) (z : Value) (bytes : Nat)
    (ho : o.op = .call { callee := .builtin .append, args := #[s, x], argTypes := #[t, t] })
    (ht : P.underlying t = some (.slice e)) (hinfo : (P.info? e).map (fun i => (i.zero, i.size, i.bytes)) = some (some z, 1, bytes)) (hz : z.cells.size = 1) (hb0 : 0 < bytes)
    (A : Option Addr) (l : List α) (y : α) (hs : a.eval s = .slice A l.length l.length) (hx : a.eval x = .slice (some ⟨W.heap.size, 0, none⟩) 1 1)
    (HR : (Kd.scalar enc h1).C W A l.length l) (HB : Below w0.heap.size w0 W) (hl : (l.length + 1) * bytes ≤ 140737488355328)
    (h : ∀ v1 w1, (Kd.scalar enc h1).R e w1 W.heap.size (fun _ => True) v1 (l ++ [y]) → Below w0.heap.size w0 w1 → wpList P ops Q rest (a.put o.dst v1) w1) :
    wpList P ops Q (o :: rest) a (W.alloc (.cells #[enc y] e)) := by
  obtain ⟨i0, hi, hzz⟩ := Option.map_eq_some_iff.1 hinfo
  simp only [Prod.mk.injEq] at hzz
  obtain ⟨hz0, hz1, hz2⟩ := hzz
  have hlen : l.length + 1 ≤ 140737488355328 := Nat.le_trans (Nat.le_mul_of_pos_right _ hb0) hl
  have hr := Kd.reads_of_C (enc := enc) (d := d0) (h1 := h1) HR
  have hW : Below W.heap.size W (W.alloc (.cells #[enc y] e)) := below_alloc (Below.refl _ _) _
  have hr' := hr.below hW
  refine wpList_append_grows (W.alloc (.cells #[enc y] e)) hgd s x t ho e i0 z 1 bytes ht hi hz0 hz1 hz2 hz (by omega) A l.length l.length (encs enc l) hs ?_ (by rw [encs_length]; omega) ?_
    ⟨W.heap.size, 0, none⟩ 1 1 [enc y] hx rfl (World.news_of_block (cs := #[enc y]) (t := e) (fr := (0, 0)) (heap_alloc_new W _)) (by simpa using h1 y) (by omega) (by simp only [maxLen]; omega) hl ?_
  · intro hA
    subst hA
    have : l.length = 0 := by
      rcases Nat.eq_zero_or_pos l.length with h0 | h0
      · exact h0
      · obtain ⟨ad, he, _⟩ := hr.2.2 h0
        cases he
    omega
  · intro b hb j u hu
    have hj : j < l.length := by
      have := (List.getElem?_eq_some_iff.1 hu).1
      rwa [encs_length] at this
    obtain ⟨ad, he, hc⟩ := hr'.2.2 (by omega)
    rw [hb] at he
    injection he with he
    subst he
    rw [hc j hj]
    rw [encs_get l j hj (d := d0)] at hu
    exact hu
  · intro v1 w1 hown hg
    have hown' : w1.ownsRow (W.heap.size + 1) e 1 v1 (l ++ [y]).length (encs enc (l ++ [y])) := by
      have h2 : encs enc l ++ [enc y] = encs enc (l ++ [y]) := by simp [encs]
      rw [← h2]
      simpa using hown
    refine h v1 w1 (Kd.R_lower (Kd.R_of_own hown' (fun _ _ => trivial)) (Nat.le_succ _)) ?_
    have hbw : Below W.heap.size W w1 := by
      refine pw_below_grown hW none (by simp) hg (fun k hk => by cases hk)
    exact below_then HB HB.size hbw
end Go.Proofs.Ytpamgedmgjfjjaa.M
