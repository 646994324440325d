/-
What utf.Join comes to.
-/
import Derived.Test.YtpamgedmgjfjjaaDoorXBuild
import Derived.Test.YtpamgedmgjfjjaaDoorXRunesLaw
namespace Go.Proofs.YtpamgedmgjfjjaaDoor.M
open Go.RowKit Go.Proofs.YtpamgedmgjfjjaaDoorW.PrintWords Go.Proofs.YtpamgedmgjfjjaaDoorW.PrintLast Go.Proofs.YtpamgedmgjfjjaaDoorW.PrintMore
open Go.Lib (byteCells byteCells_length strCells strCells_length cell_of_heap frozen_of_heap ownBlock_ne alloc_old)
set_option linter.unusedVariables false
set_option linter.unusedSimpArgs false

/-- Code points' bytes; none if one may not be. -/
def joinP : List Int → Option (List UInt8)
  | [] => some []
  | r :: l => if Lib.validRune r = true then (joinP l).map (encL r.toNat ++ ·) else none
/-- utf.Join, in plain words. -/
def joinU (l : List Int) : ByteArray × Bool := match joinP l with
  | some x => (⟨x.toArray⟩, true)
  | none => (⟨#[]⟩, false)
theorem joinP_drop (l : List Int) (k : Nat) (hk : k < l.length) : joinP (l.drop k) = if Lib.validRune (rd l k) = true then (joinP (l.drop (k + 1))).map (encL (rd l k).toNat ++ ·) else none := by
  have e : l.drop k = rd l k :: l.drop (k + 1) := by
    rw [List.drop_eq_getElem_cons hk]
    congr 1
    simp [rd, List.getD_eq_getElem?_getD, hk]
  rw [e, joinP]
theorem enc_size_pos (r : Int) (h : Lib.validRune r = true) : (Utf8.encode r).size = wid r.toNat := by
  rw [← data_length, encode_L r h, encL_len]
set_option maxHeartbeats 2000000 in
set_option maxRecDepth 100000 in
theorem utf_Join_calls (A0 : Option Addr) (c0 : Nat) (l : List Int) (w : World) (hr0 : Kd.C (Kd.int .i32) w A0 l.length l) (hlen : l.length ≤ 1000000) :
    Calls Tryd.prog 24 #[.slice A0 l.length c0] w fun e w' => e = .returned (.tuple #[.string (joinU l).1, .bool (joinU l).2]) ∧ Below w.heap.size w w' := by
  have HR0 := Aside0.mk hr0
  have HLN := Aside0.mk hlen
  obtain ⟨ju, hju⟩ : ∃ j, joinU l = j := ⟨_, rfl⟩
  rw [hju]
  have HJ := Aside0.mk hju
  have hl63 : l.length ≤ 9223372036854775807 := by omega
  clear hr0 hlen hju
  go_enter Tryd.func24, Tryd.ntmps24
  go_wp2
  have HBn : BAt 0 75 w.heap.size w.heap.size #[.pointer none, .slice none 0 0] [] (w.alloc (.cells #[.pointer none, .slice none 0 0] 75)) :=
    ⟨Nat.le_refl _, by show (w.heap.push _)[w.heap.size]? = _; exact Array.getElem?_push_size, .inl rfl, _, rfl, own_nil _ _ _ _⟩
  have HBN := Aside0.mk HBn
  clear HBn
  go_loopw [10] (fun v10 wr => ∃ (k : Nat) (cs : Array Value) (acc : List UInt8), v10 = .int .i64 k ∧ Aside0 (k ≤ l.length) ∧ Aside0 (BAt 0 75 w.heap.size w.heap.size cs acc wr) ∧ Aside0 (cs.size = 2) ∧ Aside0 (Below w.heap.size w wr) ∧ Aside0 (acc.length ≤ 4 * k)
      ∧ Aside0 (joinP l = (joinP (l.drop k)).map (acc ++ ·)))
    (fun v10 wr => l.length - (RowKit.intOf v10).toNat)
  case atStart => exact ⟨0, _, [], rfl, ⟨Nat.zero_le _⟩, HBN, ⟨rfl⟩, ⟨below_alloc (Below.refl _ _) _⟩, ⟨Nat.zero_le _⟩, ⟨by simp⟩⟩
  case round =>
    obtain ⟨k, cs, acc, rfl, HK, HBA, HCS, HB, HAL, HM⟩ := hrel
    by_cases hlt : k < l.length
    · obtain ⟨ad, e1, hx⟩ := Kd.at_int HR0.out (k : Int) (by omega) (by omega)
      cases e1
      rw [Int.toNat_natCast] at hx
      replace hx := (HB.out.cell (World.block_lt_of_cell? w _ hx)).trans hx
      have HST := Aside0.mk (joinP_drop l k hlt)
      cases hv : Lib.validRune (rd l k)
      · have HP := Aside0.mk (fun w1 => put_none (rd l k) hv w1)
        have HE := Aside0.mk (show joinP (l.drop k) = none by rw [HST.out, hv]; rfl)
        clear hv HST
        generalize rd l k = r at *
        go_wp2_with (first
          | (go_at_call 21; (with_reducible refine (HP.out _).mono ?_); rintro e w1 ⟨rfl, rfl⟩))
        go_ret2
        refine ⟨?_, HB.out⟩
        rw [← HJ.out, joinU, HM.out, HE.out]
        rfl
      · have HP := Aside0.mk (fun w1 => put_some (rd l k) hv w1)
        have HE := Aside0.mk (show joinP (l.drop k) = (joinP (l.drop (k + 1))).map (encL (rd l k).toNat ++ ·) by rw [HST.out, hv]; rfl)
        have hsz := enc_size_pos (rd l k) hv
        have hw1 := wid_pos (rd l k).toNat
        have hw4 := wid_le (rd l k).toNat
        have HEN := Aside0.mk (encode_L (rd l k) hv)
        rw [hsz.symm] at hw1 hw4
        clear hv HST hsz
        generalize rd l k = r at *
        generalize Utf8.encode r = s at *
        have hs1 : s.toList = [] ↔ False := by
          rw [ByteArray.toList_eq]
          constructor
          · intro h
            have h0 : s.size = 0 := by rw [← data_length, h]; rfl
            omega
          · exact False.elim
        have hs2 : (s.toList == ([] : List UInt8)) = false := beq_eq_false_iff_ne.mpr (fun h => hs1.1 h)
        have hs3 : s.toList.isEmpty = false := by
          cases hh : s.toList with
          | nil => exact absurd hh (fun h => hs1.1 h)
          | cons a b => rfl
        have hsx : s.size ≤ 4 := hw4
        have HW := Aside0.mk (fun w1 (h1 : BAt 0 75 w.heap.size w.heap.size cs acc w1) (h2 : w.heap.size ≤ w1.heap.size) => writeString_any 0 75 w.heap.size w.heap.size 2 cs acc s w1 h1 HCS.out (by decide) fit75 (by have := HAL.out; have := HLN.out; have := HK.out; omega) h2)
        clear hs1 hw1 hw4
        go_wp2_with (first
          | (go_at_call 21; (with_reducible refine (HP.out _).mono ?_); rintro e w1 ⟨rfl, rfl⟩)
          | (go_at_call 50; (with_reducible refine (HW.out _ HBA.out HB.out.size).mono ?_); rintro e w2 ⟨rfl, v', hba, hb⟩; have HBA2 := Aside0.mk hba; have HB2 := Aside0.mk (HB.out.trans hb); clear hba hb))
        go_roundw
        case rel =>
          refine ⟨k + 1, _, acc ++ s.data.toList, by go_num, ⟨by omega⟩, HBA2, ⟨by simp [HCS.out]⟩, HB2, ⟨?_⟩, ⟨?_⟩⟩
          · have h := HAL.out
            rw [List.length_append, data_length]
            omega
          · rw [HM.out, HE.out, HEN.out, Option.map_map]
            congr 1
            funext x
            simp
        case measure => simp [RowKit.intOf]; omega
    · have hk : k = l.length := by have := HK.out; omega
      have HE := Aside0.mk (show joinP l = some acc by rw [HM.out, hk, List.drop_length]; simp [joinP])
      have HS := Aside0.mk (string_any 0 75 w.heap.size w.heap.size cs acc wr HBA.out HB.out.size)
      clear hk
      go_wp2_with (go_at_call 51; (with_reducible refine HS.out.mono ?_); rintro e w2 ⟨rfl, hb⟩; have HB2 := Aside0.mk (HB.out.trans hb); clear hb)
      go_ret2
      refine ⟨?_, HB2.out⟩
      rw [← HJ.out, joinU, HE.out]
      rfl
end Go.Proofs.YtpamgedmgjfjjaaDoor.M
