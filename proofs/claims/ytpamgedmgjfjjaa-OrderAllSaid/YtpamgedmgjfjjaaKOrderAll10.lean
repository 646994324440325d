/-
Lemmas for OrderAll, for every input they speak of: XTwice.
-/
import Derived.Test.YtpamgedmgjfjjaaKOrderAll03
import Derived.Maps.OwnOps
import Derived.Maps.Views
import Derived.Maps.OwnSet
import Derived.StringKeys
namespace Go.Proofs.Ytpamgedmgjfjjaa.M
open Go.RowKit Go.Proofs.YtpamgedmgjfjjaaW.PrintWords Go.Proofs.YtpamgedmgjfjjaaW.PrintLast Go.Proofs.YtpamgedmgjfjjaaW.PrintMore
open Go.WideMaps Go.Maps
set_option linter.unusedVariables false
set_option linter.unusedSimpArgs false
def twiceL : List (List UInt8) → List (List UInt8) → Nat → Int × Bool
  | [], _, _ => (0, false)
  | s :: r, seen, i => if s ∈ seen then ((i : Int), true) else twiceL r (seen ++ [s]) (i + 1)
def kbs (l : List ByteArray) : List (List UInt8) := l.map fun s => s.data.toList
def order_Twice.f (l0 : List ByteArray) : Option (Int × Bool) := if l0.length ≤ 1000000 ∧ l0.all (fun s => decide (s.size ≤ 1000000)) = true then some (twiceL (kbs l0) [] 0) else none
theorem keys9 : Keyed Try.prog 9 := string_keyed Try.underlying9
theorem zero4 (w : World) : (zeroValue 4).run Try.prog w = .ok (.bool false) w := by kernel_rfl
theorem plainElem_bool_inv {v : Value} {z : DataW Unit × List MemPlace} (h : plainElem Try.prog 4 v = some z) : ∃ x : Bool, v = .bool x ∧ z = (.lit (.bool x), []) := by
  unfold plainElem at h
  rw [Try.underlying4] at h
  cases v <;> simp at h
  exact ⟨_, rfl, h.symm⟩
theorem lookup_bool {W : World} {b n : Nat} {D : DataW Unit} (h : W.ownsMap Try.prog 9 (plainElem Try.prog 4) b n D) {key : Value} {kl : Lit} (hkey : keyOf Try.prog 9 key = some kl) :
    ∃ x : Bool, (Instr.lookup 64 (.map (some b)) key false).run Try.prog W = .ok (.bool x) W ∧ D.atKey kl (.lit (.bool false)) = .lit (.bool x) := by
  obtain ⟨v, ps, hrun, hv⟩ := h.lookup keys9 Try.underlying64 (zero4 W) (plainElem_bool Try.underlying4 false) hkey
  obtain ⟨x, rfl, hz⟩ := plainElem_bool_inv hv
  simp only [Prod.mk.injEq] at hz
  exact ⟨x, hrun, hz.1⟩
def Holds9 (W : World) (b n : Nat) (seen : List (List UInt8)) : Prop :=
  ∃ D : DataW Unit, W.ownsMap Try.prog 9 (plainElem Try.prog 4) b n D ∧ ∀ s : ByteArray, D.atKey (.string s.data.toList) (.lit (.bool false)) = .lit (.bool (decide (s.data.toList ∈ seen)))
theorem holds9_made (w : World) : Holds9 (w.alloc (.map #[] 0)) w.heap.size 0 [] :=
  ⟨.map [], World.ownsMap_made _ _ _ _, fun s => by
    rw [decide_eq_false (by simp)]
    exact WideAt.atKey_none _ (fun p hp => by cases hp)⟩
theorem key9 (s : ByteArray) (h : s.size ≤ 1000000) : keyOf Try.prog 9 (.string s) = some (.string s.data.toList) := keyOf_string_mk Try.underlying9 (by unfold maxLen; omega)
theorem holds9_look {W : World} {b n : Nat} {seen : List (List UInt8)} (h : Holds9 W b n seen) (s : ByteArray) (hs : s.size ≤ 1000000) :
    (Instr.lookup 64 (.map (some b)) (.string s) false).run Try.prog W = .ok (.bool (decide (s.data.toList ∈ seen))) W := by
  obtain ⟨D, hown, hat⟩ := h
  obtain ⟨x, hrun, hx⟩ := lookup_bool hown (key9 s hs)
  rw [hat s] at hx
  injection hx with hx
  injection hx with hx
  rw [hrun, hx]
theorem holds9_put {W' : World} {b n : Nat} {seen : List (List UInt8)} {D : DataW Unit} (s : ByteArray) (hat : ∀ s : ByteArray, D.atKey (.string s.data.toList) (.lit (.bool false)) = .lit (.bool (decide (s.data.toList ∈ seen)))) (hm : IsMap D)
    (h : W'.ownsMap Try.prog 9 (plainElem Try.prog 4) b n (D.put (.string s.data.toList) (.lit (.bool true)))) : Holds9 W' b n (seen ++ [s.data.toList]) := by
  refine ⟨_, h, fun t => ?_⟩
  by_cases e : t.data.toList = s.data.toList
  · rw [e, Maps.atKey_put_same hm (by exact trivial), decide_eq_true (by simp)]
  · rw [Maps.atKey_put_other (by
      intro h2
      injection h2 with h2
      exact e h2), hat t]
    congr 2
    exact decide_eq_decide.2 (by simp [e])
theorem twice_step (l0 : List (List UInt8)) (k : Nat) (h : k < l0.length) : twiceL (l0.drop k) (l0.take k) k = if l0[k] ∈ l0.take k then ((k : Int), true) else twiceL (l0.drop (k + 1)) (l0.take (k + 1)) (k + 1) := by
  rw [List.drop_eq_getElem_cons h, twiceL, List.take_succ_eq_append_getElem h]
theorem kbs_length (l : List ByteArray) : (kbs l).length = l.length := by simp [kbs]
theorem kbs_get (l : List ByteArray) (k : Nat) (h : k < l.length) : (kbs l)[k]'(by rw [kbs_length]; exact h) = l[k].data.toList := by simp [kbs]
set_option maxHeartbeats 1000000 in
set_option maxRecDepth 100000 in
theorem order_Twice.calls (A0 : Option Addr) (c0 : Nat) (l0 : List ByteArray) (r1 : Int) (r2 : Bool) (w : World) (hr0 : Kd.C Kd.string w A0 l0.length l0) (hc0 : l0.length ≤ c0) (h : order_Twice.f l0 = some (r1, r2)) :
    Calls Try.prog 20 #[.slice A0 l0.length c0] w fun e w' => e = .returned (.tuple #[.int .i64 r1, .bool r2]) ∧ Below w.heap.size w w' := by
  unfold order_Twice.f at h
  split at h
  case isFalse => cases h
  rename_i hc
  have hlen := hc.1
  have HS := Aside0.mk (show ∀ s ∈ l0, s.size ≤ 1000000 from fun s hs => by simpa using List.all_eq_true.1 hc.2 s hs)
  have HT := Aside0.mk (show twiceL ((kbs l0).drop 0) ((kbs l0).take 0) 0 = (r1, r2) by injection h)
  have HR := Aside0.mk hr0
  clear h hc hr0 hc0
  have hmm := @run_makeMap Try.prog
  go_enter Try.func20, Try.ntmps20
  go_wp2
  go_loopw [10] (fun i wr => ∃ k : Nat, k ≤ l0.length ∧ i = .int .i64 k ∧ Aside0 (Holds9 wr w.heap.size k ((kbs l0).take k)) ∧ Aside0 (twiceL ((kbs l0).drop k) ((kbs l0).take k) k = (r1, r2)) ∧ Aside0 (Below w.heap.size w wr))
    (fun i _ => l0.length - (intOf i).toNat)
  case atStart => exact ⟨0, Nat.zero_le _, rfl, ⟨holds9_made w⟩, HT, ⟨(Below.refl _ _).alloc (Nat.le_refl _) _⟩⟩
  case round =>
    obtain ⟨k, hk, rfl, hh, ht, hb⟩ := hrel
    clear HT
    by_cases hlt : k < l0.length
    · obtain ⟨ad, ea, hcell⟩ := Kd.at_string (Kd.C_below HR.out hb.out) (k : Int) (by omega) (by omega)
      subst ea
      rw [Int.toNat_natCast] at hcell
      obtain ⟨s, hs⟩ : ∃ s, s = l0[k] := ⟨_, rfl⟩
      have e1 : rdOf ByteArray.empty l0 (k : Int) = s := by rw [hs]; simp [rdOf, List.getD_eq_getElem?_getD, hlt]
      rw [e1] at hcell
      have hsz := HS.out s (by rw [hs]; exact List.getElem_mem hlt)
      have hstep := twice_step (kbs l0) k (by rw [kbs_length]; exact hlt)
      rw [kbs_get l0 k hlt, ← hs] at hstep
      have hlook := holds9_look hh.out s hsz
      obtain ⟨D, hown, hat⟩ := hh.out
      have HOWN := Aside0.mk hown
      have HAT := Aside0.mk hat
      have HSK := Aside0.mk (show (kbs l0).take (k + 1) = (kbs l0).take k ++ [s.data.toList] by rw [List.take_succ_eq_append_getElem (by rw [kbs_length]; exact hlt), kbs_get l0 k hlt, ← hs])
      clear hown hat hs e1 hh
      by_cases hin : s.data.toList ∈ (kbs l0).take k
      · rw [decide_eq_true hin] at hlook
        rw [if_pos hin] at hstep
        have HEQ := Aside0.mk (hstep.symm.trans ht.out)
        clear hstep hin ht
        go_wp2
        go_ret2
        have he := HEQ.out
        simp only [Prod.mk.injEq] at he
        obtain ⟨rfl, rfl⟩ := he
        exact ⟨rfl, hb.out⟩
      · rw [decide_eq_false hin] at hlook
        rw [if_neg hin] at hstep
        have HEQ := Aside0.mk (hstep.symm.trans ht.out)
        clear hstep hin ht
        go_wp2_with (at_mapUpdate; refine wpList_mapUpdate_own _ rfl _ _ _ 64 rfl 9 4 keys9 Try.underlying64 _ w.heap.size k _ rfl HOWN.out (by unfold maxLen; omega) _ _ _ rfl rfl (key9 s hsz) _ [] (plainElem_bool Try.underlying4 true) ?_; intro w1 hown1 hgrow1; have HO1 := Aside0.mk hown1; have HG1 := Aside0.mk hgrow1; clear hown1 hgrow1)
        go_roundw
        case rel => exact ⟨k + 1, by omega, by go_num, ⟨by rw [HSK.out]; exact holds9_put s HAT.out HOWN.out.isMap HO1.out⟩, HEQ, ⟨hb.out.grown HG1.out hb.out.size (fun j hj => by cases hj; exact Nat.le_refl _)⟩⟩
        case measure => simp [intOf]; omega
    · obtain rfl : k = l0.length := by omega
      have HEQ := Aside0.mk (show ((0 : Int), false) = (r1, r2) by
        have := ht.out
        rw [← kbs_length l0, List.drop_length] at this
        exact this)
      clear ht hlt
      go_wp2
      go_ret2
      have he := HEQ.out
      simp only [Prod.mk.injEq] at he
      obtain ⟨rfl, rfl⟩ := he
      exact ⟨rfl, hb.out⟩
end Go.Proofs.Ytpamgedmgjfjjaa.M
