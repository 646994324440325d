/-
Lemmas for JstrRunes, for every input they speak of: XRef, XJRead, XJText.
-/
import Derived.Test.YtpamgedmgjfjjaaDoorKJstrRunes03
import Derived.Test.YtpamgedmgjfjjaaDoorKJstrRunes05
import Derived.Test.YtpamgedmgjfjjaaDoorKJstrRunes07
import Derived.Laws.BitsLemmas
import Derived.BigQuiet
import Derived.RegionDies
section
namespace Go.Proofs.YtpamgedmgjfjjaaDoor.M
open Go.RowKit Go.Proofs.YtpamgedmgjfjjaaDoorW.PrintWords Go.Proofs.YtpamgedmgjfjjaaDoorW.PrintLast Go.Proofs.YtpamgedmgjfjjaaDoorW.PrintMore
open Go.Lib (decodeN decode_at decodeL decodeL_drop)
set_option linter.unusedVariables false
set_option linter.unusedSimpArgs false
def bn (s : ByteArray) (n : Nat) : Nat := (s.get! n).toNat
theorem bn_lt (s : ByteArray) (n : Nat) : bn s n < 256 := (s.get! n).toNat_lt
theorem i32_mask (i : Nat) (hi : i ≤ 31) (x : Int) (h0 : 0 ≤ x) (h1 : x < 2147483648) (m : Int) (hm : m = 2 ^ i - 1) : bits .and .i32 x m = x % 2 ^ i := by
  subst hm
  exact bits_mask .i32 31 (by decide) wraps_i32 i hi x h0 h1
theorem ba_eq (a b : ByteArray) (h : a.data.toList = b.data.toList) : a = b := by
  cases a with
  | mk x => cases b with
    | mk y =>
      congr 1
      exact Array.toList_inj.1 h
theorem i32_or (i : Nat) (hi : i ≤ 31) (a y : Int) (ha0 : 0 ≤ a) (ha : a % 2 ^ i = 0) (ha1 : a < 2 ^ 31) (h0 : 0 ≤ y) (h1 : y < 2 ^ i) (h2 : y < 2 ^ 31) : bits .or .i32 a y = a + y :=
  bits_join .i32 31 (by decide) wraps_i32 i a y ha0 ha ha1 h0 h1 h2
theorem byte6 (c : Int) (b x : Nat) (hc : c = b) (hb : b = 128 ∨ b = 192) (hx : x < 64) : UInt8.ofNat (((bits .or .i32 c (x : Int)) % 256).toNat) = UInt8.ofNat (b + x) := by
  subst hc
  rw [i32_or 6 (by decide) _ _ (by omega) (by omega) (by omega) (by omega) (by omega) (by omega)]
  have : (((b : Int) + x) % 256).toNat = (b + x) % 256 := by omega
  rw [this]
  exact UInt8.ofNat_mod_size
theorem byte4 (c : Int) (x : Nat) (hc : c = 224) (hx : x < 16) : UInt8.ofNat (((bits .or .i32 c (x : Int)) % 256).toNat) = UInt8.ofNat (224 + x) := by
  subst hc
  rw [i32_or 4 (by decide) _ _ (by omega) (by omega) (by omega) (by omega) (by omega) (by omega)]
  have : (((224 : Int) + x) % 256).toNat = 224 + x := by omega
  rw [this]
theorem byte3 (c : Int) (x : Nat) (hc : c = 240) (hx : x < 8) : UInt8.ofNat (((bits .or .i32 c (x : Int)) % 256).toNat) = UInt8.ofNat (240 + x) := by
  subst hc
  rw [i32_or 3 (by decide) _ _ (by omega) (by omega) (by omega) (by omega) (by omega) (by omega)]
  have : (((240 : Int) + x) % 256).toNat = 240 + x := by omega
  rw [this]
theorem i32_and63 (x : Nat) (h : x < 2147483648) : bits .and .i32 (x : Int) 63 = ((x % 64 : Nat) : Int) := i32_mask 6 (by decide) _ (by omega) (by omega) 63 (by decide)
theorem refPut (r : Int) (k : Nat) : erratumref04_Put.f (k + 1) r = some (putU r) := by
  unfold erratumref04_Put.f
  by_cases hv : Lib.validRune r = true
  · obtain ⟨h0, hp⟩ := (valid_point r).1 hv
    obtain ⟨n, rfl⟩ := Int.eq_ofNat_of_zero_le h0
    rw [Int.toNat_natCast] at hp
    have hn : n ≤ 1114111 := by unfold Point at hp; omega
    have e : erratumref04_Put.j0 (k + 1) (n : Int) false = some (putU (n : Int)) := by
      simp only [erratumref04_Put.j0, Bool.false_eq_true, if_false]
      have d64 : ((n : Int) / 64) = ((n / 64 : Nat) : Int) := rfl
      have d4096 : ((n : Int) / 4096) = ((n / 4096 : Nat) : Int) := rfl
      have d262144 : ((n : Int) / 262144) = ((n / 262144 : Nat) : Int) := rfl
      have he := putU_L (n : Int) hv
      rw [Int.toNat_natCast] at he
      simp only [d64, d4096, d262144, i32_and63 n (by omega), i32_and63 (n / 64) (by omega), i32_and63 (n / 4096) (by omega)]
      split
      · rename_i c
        refine congrArg some (ba_eq _ _ ?_)
        rw [he, strOfNums_data, encL, if_pos (by omega)]
        have : (((n : Int) % 256).toNat) = n := by omega
        simp only [List.map_cons, List.map_nil, this]
      · split
        · rename_i c c2
          refine congrArg some (ba_eq _ _ ?_)
          rw [he, strOfNums_data, encL, if_neg (by omega), if_pos (by omega)]
          simp only [List.map_cons, List.map_nil]
          rw [byte6 192 192 (n / 64) rfl (.inr rfl) (by omega), byte6 128 128 (n % 64) rfl (.inl rfl) (by omega)]
        · split
          · rename_i c c2 c3
            refine congrArg some (ba_eq _ _ ?_)
            rw [he, strOfNums_data, encL, if_neg (by omega), if_neg (by omega), if_pos (by omega)]
            simp only [List.map_cons, List.map_nil]
            rw [byte4 224 (n / 4096) rfl (by omega), byte6 128 128 (n / 64 % 64) rfl (.inl rfl) (by omega), byte6 128 128 (n % 64) rfl (.inl rfl) (by omega)]
          · rename_i c c2 c3
            refine congrArg some (ba_eq _ _ ?_)
            rw [he, strOfNums_data, encL, if_neg (by omega), if_neg (by omega), if_neg (by omega)]
            simp only [List.map_cons, List.map_nil]
            rw [byte3 240 (n / 262144) rfl (by omega), byte6 128 128 (n / 4096 % 64) rfl (.inl rfl) (by omega), byte6 128 128 (n / 64 % 64) rfl (.inl rfl) (by omega), byte6 128 128 (n % 64) rfl (.inl rfl) (by omega)]
    rw [if_neg (by omega), if_neg (by omega)]
    split
    · rw [decide_eq_false (by unfold Point at hp; omega)]
      exact e
    · exact e
  · have hb : r < 0 ∨ 1114111 < r ∨ (55296 ≤ r ∧ r ≤ 57343) := by
      rw [valid_point] at hv
      unfold Point at hv
      omega
    have e : erratumref04_Put.j0 (k + 1) r true = some (putU r) := by
      simp only [erratumref04_Put.j0, if_true]
      unfold putU
      rw [if_neg hv]
    split
    · exact e
    · split
      · exact e
      · rw [if_pos (by omega), decide_eq_true (by omega)]
        exact e
theorem refPut_k (r : Int) (k : Nat) (hk : 1 ≤ k) : erratumref04_Put.f k r = some (putU r) := by
  obtain ⟨m, rfl⟩ : ∃ m, k = m + 1 := ⟨k - 1, by omega⟩
  exact refPut r m
theorem runeU_wid (s : ByteArray) (pos : Nat) (h : pos < s.size) : (runeU s pos).2 = ((Utf8.decode s pos).2 : Int) ∧ 1 ≤ (Utf8.decode s pos).2 ∧ pos + (Utf8.decode s pos).2 ≤ s.size := by
  have hne : ¬ (s.data.toList.drop pos = []) := by
    intro h0
    have := congrArg List.length h0
    rw [List.length_drop, data_length, List.length_nil] at this
    omega
  have hle := dec_le' _ hne
  have hpos := dec_pos (s.data.toList.drop pos)
  rw [decodeL_drop] at hle hpos
  rw [List.length_drop, data_length] at hle
  refine ⟨?_, hpos, by omega⟩
  unfold runeU
  rw [if_neg (by omega), Int.toNat_natCast]
  split
  · rename_i hb
    rw [hb.2]; rfl
  · rfl
end Go.Proofs.YtpamgedmgjfjjaaDoor.M
end
section
namespace Go.Proofs.YtpamgedmgjfjjaaDoor.M
open Go.RowKit Go.Proofs.YtpamgedmgjfjjaaDoorW.PrintWords Go.Proofs.YtpamgedmgjfjjaaDoorW.PrintLast Go.Proofs.YtpamgedmgjfjjaaDoorW.PrintMore
open Go.Lib (byteCells byteCells_length strCells strCells_length cell_of_heap frozen_of_heap ownBlock_ne alloc_old)
set_option linter.unusedVariables false
set_option linter.unusedSimpArgs false
@[reducible] def ThrownJ : List PanicEntry := [{ v := .iface 30 (.int .i64 2), recovered := false }]
theorem BAt.setOther {o : Nat} {T : TypeId} {B b : Nat} {cs : Array Value} {l : List UInt8} {w : World} (h : BAt o T B b cs l w) (hT : T ≠ 5) (i : Nat) (v : Value) (h1 : i ≠ o) (h2 : i ≠ o + 1) : BAt o T B b (cs.setIfInBounds i v) l (w.setCell ⟨b, i, none⟩ v) := by
  obtain ⟨hB, hb, hp, u, hv, hown⟩ := h
  have hne := ownBlock_ne hown hb hT
  refine ⟨hB, ?_, ?_, u, ?_, ?_⟩
  · simp [World.setCell, Array.getElem?_modify, hb]
  · rw [Array.getElem?_setIfInBounds_ne h1]; exact hp
  · rw [Array.getElem?_setIfInBounds_ne h2]; exact hv
  · exact hown.kept (row := some b) ⟨rfl, rfl, rfl, by simp [World.setCell], fun k _ hk => Below.heap_setCell _ _ _ _ (fun e => hk (by simp [e]))⟩ (Or.inr hne)
theorem BAt.later {o : Nat} {T : TypeId} {B b : Nat} {cs : Array Value} {l : List UInt8} {w w' : World} (h : BAt o T B b cs l w) (hb : Below w.heap.size w w') : BAt o T B b cs l w' := by
  obtain ⟨hB, hk, hp, u, hv, hown⟩ := h
  refine ⟨hB, (hb.block b (blk_lt hk)).trans hk, hp, u, hv, ?_⟩
  exact hown.kept (row := none) ⟨hb.os, hb.tape, hb.output, hb.size, fun k hk _ => hb.block k hk⟩ (by
    cases h : u.ownBlock with
    | none => exact .inl rfl
    | some k => exact .inr (by simp))
structure RJ (w0 : World) (g : Nat) (s : ByteArray) (i : Nat) (l : List UInt8) (w : World) : Prop where
  low : Below w0.heap.size w0 w
  at_ : ∃ cs, BAt 2 97 w0.heap.size g cs l w ∧ cs.size = 4 ∧ cs[0]? = some (.string s) ∧ cs[1]? = some (.int .i64 i)
theorem RJ.c0 {w0 w : World} {g : Nat} {s : ByteArray} {i : Nat} {l : List UInt8} (h : RJ w0 g s i l w) : w.cell? ⟨g, 0, none⟩ = some (.string s) := by
  obtain ⟨cs, hb, hs, h0, h1⟩ := h.at_
  rw [cell_of_heap hb.blk]; exact h0
theorem RJ.c1 {w0 w : World} {g : Nat} {s : ByteArray} {i : Nat} {l : List UInt8} (h : RJ w0 g s i l w) : w.cell? ⟨g, 1, none⟩ = some (.int .i64 i) := by
  obtain ⟨cs, hb, hs, h0, h1⟩ := h.at_
  rw [cell_of_heap hb.blk]; exact h1
theorem RJ.fr {w0 w : World} {g : Nat} {s : ByteArray} {i : Nat} {l : List UInt8} (h : RJ w0 g s i l w) (k : Nat) : w.frozen? ⟨g, k, none⟩ = false := by
  obtain ⟨cs, hb, hs, h0, h1⟩ := h.at_
  exact frozen_of_heap hb.blk k
theorem RJ.later {w0 w w' : World} {g : Nat} {s : ByteArray} {i : Nat} {l : List UInt8} (h : RJ w0 g s i l w) (hb : Below w.heap.size w w') : RJ w0 g s i l w' := by
  obtain ⟨low, cs, hc, hs, h0, h1⟩ := h
  exact ⟨low.trans (hb.mono low.size), cs, hc.later hb, hs, h0, h1⟩
theorem RJ.move {w0 w : World} {g : Nat} {s : ByteArray} {i : Nat} {l : List UInt8} (h : RJ w0 g s i l w) (j : Nat) : RJ w0 g s j l (w.setCell ⟨g, 1, none⟩ (.int .i64 j)) := by
  obtain ⟨low, cs, hc, hs, h0, h1⟩ := h
  refine ⟨low.setCell (p := ⟨g, 1, none⟩) hc.hB _, _, hc.setOther (by decide) 1 _ (by decide) (by decide), by simp [hs], ?_, ?_⟩
  · rw [Array.getElem?_setIfInBounds_ne (by decide)]; exact h0
  · simp [hs]
theorem RJ.drewN {w0 w : World} {g : Nat} {s : ByteArray} {i : Nat} {l : List UInt8} (h : RJ w0 g s i l w) (n : Nat) : RJ w0 g s i l (w.drewN n) := h.later ⟨rfl, rfl, rfl, Nat.le_refl _, fun _ _ => rfl⟩
theorem bn_get (s : ByteArray) (i : Nat) (h : i < s.size) : bn s i = (s[i]'h).toNat := by
  unfold bn
  have : s.get! i = s[i]'h := by
    show s.data[i]! = s.data[i]
    rw [getElem!_pos]
  rw [this]
set_option maxHeartbeats 2000000 in
set_option maxRecDepth 100000 in
theorem next_c (w0 w : World) (g : Nat) (s : ByteArray) (i : Nat) (l : List UInt8) (hs : s.size ≤ 1000000) (h : RJ w0 g s i l w) :
    Calls Tryd.prog 74 #[.pointer (some ⟨g, 0, none⟩)] w fun e w' => (i < s.size ∧ e = .returned (.int .u8 (bn s i)) ∧ RJ w0 g s (i + 1) l w') ∨ (s.size ≤ i ∧ e = .panicked ThrownJ ∧ Below w0.heap.size w0 w') := by
  have HR := Aside0.mk h
  have c0 := h.c0
  have c1 := h.c1
  have f1 := h.fr 1
  by_cases hi : i < s.size
  · have n1 : decide ((i : Int) ≥ (s.size : Int)) = false := decide_eq_false (by omega)
    have n2 : decide ((s.size : Int) ≤ (i : Int)) = false := decide_eq_false (by omega)
    have n3 : decide (s.size ≤ i) = false := decide_eq_false (by omega)
    clear h
    go_enter Tryd.func74, Tryd.ntmps74
    go_wp2
    go_quiet (fail)
    go_wp2
    have HM : Aside0 (RJ w0 g s (i + 1) l ((w.drewN nq).setCell ⟨g, 1, none⟩ (.int .i64 ((i : Int) + 1)))) := ⟨by
      have := (HR.out.drewN nq).move (i + 1)
      rw [Int.natCast_add] at this
      exact this⟩
    generalize (w.drewN nq).setCell ⟨g, 1, none⟩ (.int .i64 ((i : Int) + 1)) = w2 at *
    have d0 := HM.out.c0
    have d1 := HM.out.c1
    rw [Int.natCast_add] at d1
    have e1 : (i : Int) + ((1 : Nat) : Int) = (i : Int) + 1 := rfl
    rw [e1] at d1
    go_quiet (fail)
    go_wp2
    go_ret
    refine .inl ⟨hi, ?_, HM.out.drewN _⟩
    rw [bn_get s i hi]
    rfl
  · have n1 : decide ((i : Int) ≥ (s.size : Int)) = true := decide_eq_true (by omega)
    have n2 : decide ((s.size : Int) ≤ (i : Int)) = true := decide_eq_true (by omega)
    have n3 : decide (s.size ≤ i) = true := decide_eq_true (by omega)
    clear h
    go_enter Tryd.func74, Tryd.ntmps74
    go_wp2
    go_quiet (fail)
    go_wp2
    exact ⟨rfl, .inr ⟨by omega, rfl, (HR.out.drewN _).low⟩⟩
def hexD (c : Nat) : Option Nat := if 48 ≤ c ∧ c ≤ 57 then some (c - 48) else if 97 ≤ c ∧ c ≤ 102 then some (c - 87) else if 65 ≤ c ∧ c ≤ 70 then some (c - 55) else none
theorem hexD_lt {c d : Nat} (h : hexD c = some d) : d < 16 := by
  unfold hexD at h
  split at h
  · simp at h; omega
  · split at h
    · simp at h; omega
    · split at h
      · simp at h; omega
      · cases h
def fourR (s : ByteArray) : Nat → Nat → Nat → Option Nat
  | 0, _, v => some v
  | n + 1, i, v => if i < s.size then (hexD (bn s i)).bind fun d => fourR s n (i + 1) (v * 16 + d) else none
def digL : List UInt8 := [48, 49, 50, 51, 52, 53, 54, 55, 56, 57, 97, 98, 99, 100, 101, 102]
def hexI (c : Nat) : Int := match hexD c with | some d => d | none => -1
theorem index_low : ∀ x : Fin 256, ¬ (65 ≤ x.val ∧ x.val ≤ 70) → Lib.indexByte digL (((x.val : Nat) : Int).toNat.toUInt8) = hexI x.val := by decide +kernel
theorem index_up : ∀ x : Fin 256, 65 ≤ x.val ∧ x.val ≤ 70 → Lib.indexByte digL (((x.val : Nat) : Int) + 32).toNat.toUInt8 = hexI x.val := by decide +kernel
theorem idx_low (c : Nat) (hc : c < 256) (h : ¬ (65 ≤ c ∧ c ≤ 70)) (x : Int) (hx : hexI c = x) (w : World) : Calls Tryd.prog 80 #[.string ⟨#[48, 49, 50, 51, 52, 53, 54, 55, 56, 57, 97, 98, 99, 100, 101, 102]⟩, .int .u8 (c : Int)] w fun e w' => e = .returned (.int .i64 x) ∧ w' = w := by
  have h := Tryd.strings_IndexByte ⟨#[48, 49, 50, 51, 52, 53, 54, 55, 56, 57, 97, 98, 99, 100, 101, 102]⟩ (c : Int) w
  rw [show Lib.indexByte (⟨#[48, 49, 50, 51, 52, 53, 54, 55, 56, 57, 97, 98, 99, 100, 101, 102]⟩ : ByteArray).data.toList (c : Int).toNat.toUInt8 = x from (index_low ⟨c, hc⟩ (by assumption)).trans hx] at h
  exact h
theorem idx_up (c : Nat) (hc : c < 256) (h : 65 ≤ c ∧ c ≤ 70) (x : Int) (hx : hexI c = x) (w : World) : Calls Tryd.prog 80 #[.string ⟨#[48, 49, 50, 51, 52, 53, 54, 55, 56, 57, 97, 98, 99, 100, 101, 102]⟩, .int .u8 ((c : Int) + 32)] w fun e w' => e = .returned (.int .i64 x) ∧ w' = w := by
  have h := Tryd.strings_IndexByte ⟨#[48, 49, 50, 51, 52, 53, 54, 55, 56, 57, 97, 98, 99, 100, 101, 102]⟩ ((c : Int) + 32) w
  rw [show Lib.indexByte (⟨#[48, 49, 50, 51, 52, 53, 54, 55, 56, 57, 97, 98, 99, 100, 101, 102]⟩ : ByteArray).data.toList ((c : Int) + 32).toNat.toUInt8 = x from (index_up ⟨c, hc⟩ (by assumption)).trans hx] at h
  exact h
theorem or4 (v d : Nat) (hv : v < 65536) (hd : d < 16) : bits BinOp.or IntKind.i32 ((v : Int) * 16) (d : Int) = ((v * 16 + d : Nat) : Int) := by
  rw [i32_or 4 (by decide) _ _ (by omega) (by omega) (by omega) (by omega) (by omega) (by omega)]
  omega
set_option maxHeartbeats 2000000 in
set_option maxRecDepth 100000 in
theorem four_c (w0 w : World) (g : Nat) (s : ByteArray) (i : Nat) (l : List UInt8) (hs : s.size ≤ 1000000) (h : RJ w0 g s i l w) :
    Calls Tryd.prog 79 #[.pointer (some ⟨g, 0, none⟩)] w fun e w' => (∃ v : Nat, fourR s 4 i 0 = some v ∧ e = .returned (.int .i32 v) ∧ RJ w0 g s (i + 4) l w') ∨ (fourR s 4 i 0 = none ∧ e = .panicked ThrownJ ∧ Below w0.heap.size w0 w') := by
  have HS := Aside0.mk hs
  have HR0 := Aside0.mk h
  obtain ⟨o, ho⟩ : ∃ o, fourR s 4 i 0 = o := ⟨_, rfl⟩
  rw [ho]
  have HO := Aside0.mk ho
  clear h hs ho
  go_enter Tryd.func79, Tryd.ntmps79
  go_wp2
  go_loopw [3, 6] (fun v3 v6 wr => ∃ k v : Nat, v6 = .int .i64 k ∧ v3 = .int .i32 v ∧ Aside0 (k ≤ 4) ∧ Aside0 (v < 16 ^ k) ∧ Aside0 (RJ w0 g s (i + k) l wr) ∧ Aside0 (fourR s (4 - k) (i + k) v = o)) (fun v3 v6 wr => 4 - (RowKit.intOf v6).toNat)
  case atStart => exact ⟨0, 0, rfl, rfl, ⟨by omega⟩, ⟨by decide⟩, HR0, HO⟩
  case round =>
    obtain ⟨k, v, rfl, rfl, HK, HV, HR, HF⟩ := hrel
    by_cases hk : k < 4
    · have n1 : decide ((k : Int) < 4) = true := decide_eq_true (by omega)
      have n2 : decide (k < 4) = true := decide_eq_true (by omega)
      have HN := Aside0.mk (next_c w0 wr g s (i + k) l HS.out HR.out)
      go_wp2_with fail
      refine HN.out.mono ?_
      rintro e w1 (⟨hlt, rfl, hR⟩ | ⟨hge, rfl, hB⟩)
      · have HR1 := Aside0.mk hR
        have hc := bn_lt s (i + k)
        have HFS := Aside0.mk (show fourR s (3 - k + 1) (i + k) v = o by rw [← HF.out]; congr 1; omega)
        clear hR
        rw [fourR, if_pos hlt] at HFS
        generalize bn s (i + k) = c at *
        have hv : v < 65536 := Nat.lt_of_lt_of_le HV.out (by
          match k, hk with
          | 0, _ => decide
          | 1, _ => decide
          | 2, _ => decide
          | 3, _ => decide)
        cases hd : hexD c with
        | none =>
          have HI : hexI c = -1 := by unfold hexI; rw [hd]
          have HE := Aside0.mk (show o = none by rw [← HFS.out, hd]; rfl)
          by_cases hu : 65 ≤ c ∧ c ≤ 70
          · have HX := Aside0.mk (fun w => idx_up c hc hu _ HI w)
            have m1 : decide ((c : Int) ≥ 65) = true := decide_eq_true (by omega)
            have m2 : decide ((c : Int) ≤ 70) = true := decide_eq_true (by omega)
            clear HI hd HFS
            go_wp2_with (go_at_call 80; refine (HX.out _).mono ?_; rintro e w1 ⟨rfl, rfl⟩)
            exact ⟨rfl, .inr ⟨HE.out, rfl, HR1.out.low⟩⟩
          · have HX := Aside0.mk (fun w => idx_low c hc hu _ HI w)
            by_cases hu1 : 65 ≤ c
            · have m1 : decide ((c : Int) ≥ 65) = true := decide_eq_true (by omega)
              have m2 : decide ((c : Int) ≤ 70) = false := decide_eq_false (by omega)
              clear HI hd HFS
              go_wp2_with (go_at_call 80; refine (HX.out _).mono ?_; rintro e w1 ⟨rfl, rfl⟩)
              exact ⟨rfl, .inr ⟨HE.out, rfl, HR1.out.low⟩⟩
            · have m1 : decide ((c : Int) ≥ 65) = false := decide_eq_false (by omega)
              clear HI hd HFS
              go_wp2_with (go_at_call 80; refine (HX.out _).mono ?_; rintro e w1 ⟨rfl, rfl⟩)
              exact ⟨rfl, .inr ⟨HE.out, rfl, HR1.out.low⟩⟩
        | some d =>
          have HI : hexI c = d := by unfold hexI; rw [hd]
          have hd16 := hexD_lt hd
          have HE := Aside0.mk (show fourR s (3 - k) (i + k + 1) (v * 16 + d) = o by rw [← HFS.out, hd]; rfl)
          have hor := or4 v d hv hd16
          have HRR := Aside0.mk (show RJ w0 g s (i + (k + 1)) l w1 from HR1.out)
          have HVV := Aside0.mk (show v * 16 + d < 16 ^ (k + 1) by
            have := HV.out
            rw [Nat.pow_succ]
            omega)
          have HEE := Aside0.mk (show fourR s (4 - (k + 1)) (i + (k + 1)) (v * 16 + d) = o by rw [← HE.out]; congr 1; omega)
          have m3 : decide ((d : Int) < 0) = false := decide_eq_false (by omega)
          by_cases hu : 65 ≤ c ∧ c ≤ 70
          · have HX := Aside0.mk (fun w => idx_up c hc hu _ HI w)
            have m1 : decide ((c : Int) ≥ 65) = true := decide_eq_true (by omega)
            have m2 : decide ((c : Int) ≤ 70) = true := decide_eq_true (by omega)
            clear HI hd HFS HE
            go_wp2_with (go_at_call 80; refine (HX.out _).mono ?_; rintro e w1 ⟨rfl, rfl⟩)
            refine ⟨⟨k + 1, v * 16 + d, rfl, by rw [Int.natCast_add, Int.natCast_mul]; rfl, ⟨by omega⟩, HVV, HRR, HEE⟩, ?_⟩
            simp [RowKit.intOf]
            omega
          · have HX := Aside0.mk (fun w => idx_low c hc hu _ HI w)
            by_cases hu1 : 65 ≤ c
            · have m1 : decide ((c : Int) ≥ 65) = true := decide_eq_true (by omega)
              have m2 : decide ((c : Int) ≤ 70) = false := decide_eq_false (by omega)
              clear HI hd HFS HE
              go_wp2_with (go_at_call 80; refine (HX.out _).mono ?_; rintro e w1 ⟨rfl, rfl⟩)
              refine ⟨⟨k + 1, v * 16 + d, rfl, by rw [Int.natCast_add, Int.natCast_mul]; rfl, ⟨by omega⟩, HVV, HRR, HEE⟩, ?_⟩
              simp [RowKit.intOf]
              omega
            · have m1 : decide ((c : Int) ≥ 65) = false := decide_eq_false (by omega)
              clear HI hd HFS HE
              go_wp2_with (go_at_call 80; refine (HX.out _).mono ?_; rintro e w1 ⟨rfl, rfl⟩)
              refine ⟨⟨k + 1, v * 16 + d, rfl, by rw [Int.natCast_add, Int.natCast_mul]; rfl, ⟨by omega⟩, HVV, HRR, HEE⟩, ?_⟩
              simp [RowKit.intOf]
              omega
      · go_wp2
        refine ⟨rfl, .inr ⟨?_, rfl, hB⟩⟩
        have h := HF.out
        obtain ⟨m, hm⟩ : ∃ m, 4 - k = m + 1 := ⟨3 - k, by omega⟩
        rw [hm, fourR, if_neg (by omega)] at h
        exact h.symm
    · have hk4 : k = 4 := by have := HK.out; omega
      subst hk4
      go_wp2
      go_ret
      exact .inl ⟨v, HF.out.symm, rfl, HR.out⟩
theorem fourR_lt (s : ByteArray) : ∀ (n i v r : Nat), fourR s n i v = some r → r < (v + 1) * 16 ^ n
  | 0, i, v, r, h => by simp [fourR] at h; omega
  | n + 1, i, v, r, h => by
    rw [fourR] at h
    split at h
    · cases hd : hexD (bn s i) with
      | none => rw [hd] at h; cases h
      | some d =>
        rw [hd] at h
        have h1 := hexD_lt hd
        have h2 := fourR_lt s n (i + 1) (v * 16 + d) r h
        refine Nat.lt_of_lt_of_le h2 ?_
        rw [Nat.pow_succ, Nat.mul_comm (16 ^ n) 16, ← Nat.mul_assoc]
        exact Nat.mul_le_mul_right _ (by omega)
    · cases h
theorem four_lt {s : ByteArray} {i r : Nat} (h : fourR s 4 i 0 = some r) : r < 65536 := by
  have := fourR_lt s 4 i 0 r h
  simpa using this
def pointR (s : ByteArray) (i : Nat) : Option (Nat × Nat) :=
  (fourR s 4 i 0).bind fun v => if v < 55296 ∨ 57343 < v then some (v, i + 4)
    else if i + 4 < s.size ∧ bn s (i + 4) = 92 ∧ i + 5 < s.size ∧ bn s (i + 5) = 117 then
      (fourR s 4 (i + 6) 0).bind fun low => if 56320 ≤ v ∨ low < 56320 ∨ 57343 < low then none else some (65536 + (v - 55296) * 1024 + (low - 56320), i + 10)
    else none
set_option maxHeartbeats 2000000 in
set_option maxRecDepth 100000 in
theorem point_c (w0 w : World) (g : Nat) (s : ByteArray) (i : Nat) (l : List UInt8) (hs : s.size ≤ 1000000) (h : RJ w0 g s i l w) :
    Calls Tryd.prog 78 #[.pointer (some ⟨g, 0, none⟩)] w fun e w' => (∃ v j : Nat, pointR s i = some (v, j) ∧ e = .returned (.int .i32 v) ∧ RJ w0 g s j l w') ∨ (pointR s i = none ∧ e = .panicked ThrownJ ∧ Below w0.heap.size w0 w') := by
  have HS := Aside0.mk hs
  have H4 := Aside0.mk (four_c w0 w g s i l hs h)
  obtain ⟨o, ho⟩ : ∃ o, pointR s i = o := ⟨_, rfl⟩
  rw [ho]
  rw [pointR] at ho
  have HO := Aside0.mk ho
  clear h hs ho
  go_enter Tryd.func78, Tryd.ntmps78
  go_wp2_with fail
  refine H4.out.mono ?_
  rintro e w1 (⟨v, hv, rfl, hR⟩ | ⟨hn, rfl, hB⟩)
  · have hlt := four_lt hv
    have HR1 := Aside0.mk hR
    rw [hv, Option.bind_some] at HO
    clear hv hR H4
    by_cases hp : v < 55296 ∨ 57343 < v
    · rw [if_pos hp] at HO
      by_cases h1 : v < 55296
      · have n1 : decide ((v : Int) < 55296) = true := decide_eq_true (by omega)
        go_wp2
        go_ret
        exact .inl ⟨v, i + 4, HO.out.symm, rfl, HR1.out⟩
      · have n1 : decide ((v : Int) < 55296) = false := decide_eq_false (by omega)
        have n2 : decide ((v : Int) > 57343) = true := decide_eq_true (by omega)
        go_wp2
        go_ret
        exact .inl ⟨v, i + 4, HO.out.symm, rfl, HR1.out⟩
    · rw [if_neg hp] at HO
      have n1 : decide ((v : Int) < 55296) = false := decide_eq_false (by omega)
      have n2 : decide ((v : Int) > 57343) = false := decide_eq_false (by omega)
      have HN := Aside0.mk (next_c w0 w1 g s (i + 4) l HS.out HR1.out)
      go_wp2_with fail
      refine HN.out.mono ?_
      rintro e w2 (⟨hl4, rfl, hR⟩ | ⟨hge, rfl, hB⟩)
      · have hc := bn_lt s (i + 4)
        have HN2 := Aside0.mk (next_c w0 w2 g s (i + 5) l HS.out hR)
        have hlow2 := hR.low
        clear hR HN
        by_cases hq : bn s (i + 4) = 92
        · rw [hq]
          go_wp2_with fail
          refine HN2.out.mono ?_
          rintro e w3 (⟨hl5, rfl, hR⟩ | ⟨hge, rfl, hB⟩)
          · have hc := bn_lt s (i + 5)
            have H42 := Aside0.mk (four_c w0 w3 g s (i + 6) l HS.out hR)
            have HR3 := Aside0.mk hR
            clear hR HN2
            by_cases hu : bn s (i + 5) = 117
            · rw [if_pos ⟨hl4, hq, hl5, hu⟩] at HO
              rw [hu]
              go_wp2_with fail
              refine H42.out.mono ?_
              rintro e w4 (⟨low, hv, rfl, hR⟩ | ⟨hn, rfl, hB⟩)
              · have hlt2 := four_lt hv
                rw [hv, Option.bind_some] at HO
                have HR4 := Aside0.mk hR
                clear hv hR H42
                by_cases hb : 56320 ≤ v ∨ low < 56320 ∨ 57343 < low
                · rw [if_pos hb] at HO
                  by_cases b1 : 56320 ≤ v
                  · have m1 : decide ((v : Int) ≥ 56320) = true := decide_eq_true (by omega)
                    go_wp2
                    exact ⟨rfl, .inr ⟨HO.out.symm, rfl, HR4.out.low⟩⟩
                  · have m1 : decide ((v : Int) ≥ 56320) = false := decide_eq_false (by omega)
                    by_cases b2 : low < 56320
                    · have m2 : decide ((low : Int) < 56320) = true := decide_eq_true (by omega)
                      go_wp2
                      exact ⟨rfl, .inr ⟨HO.out.symm, rfl, HR4.out.low⟩⟩
                    · have m2 : decide ((low : Int) < 56320) = false := decide_eq_false (by omega)
                      have m3 : decide ((low : Int) > 57343) = true := decide_eq_true (by omega)
                      go_wp2
                      exact ⟨rfl, .inr ⟨HO.out.symm, rfl, HR4.out.low⟩⟩
                · rw [if_neg hb] at HO
                  have m1 : decide ((v : Int) ≥ 56320) = false := decide_eq_false (by omega)
                  have m2 : decide ((low : Int) < 56320) = false := decide_eq_false (by omega)
                  have m3 : decide ((low : Int) > 57343) = false := decide_eq_false (by omega)
                  go_wp2
                  go_ret
                  refine .inl ⟨_, _, HO.out.symm, ?_, HR4.out⟩
                  rw [show ((65536 + (v - 55296) * 1024 + (low - 56320) : Nat) : Int) = 65536 + ((v : Int) - 55296) * 1024 + (low : Int) - 56320 by omega]
                  rfl
              · go_wp2
                refine ⟨rfl, .inr ⟨?_, rfl, hB⟩⟩
                rw [← HO.out, hn]
                rfl
            · rw [if_neg (fun h => hu h.2.2.2)] at HO
              have m1 : ((bn s (i + 5) : Int) == 117) = false := beq_eq_false_iff_ne.2 (by omega)
              have m2 : ((bn s (i + 5) : Int) != 117) = true := by simp; omega
              have m3 : decide ((bn s (i + 5) : Int) = 117) = false := decide_eq_false (by omega)
              generalize bn s (i + 5) = c at *
              go_wp2
              exact ⟨rfl, .inr ⟨HO.out.symm, rfl, HR3.out.low⟩⟩
          · rw [if_neg (fun h => by omega)] at HO
            go_wp2
            exact ⟨rfl, .inr ⟨HO.out.symm, rfl, hB⟩⟩
        · rw [if_neg (fun h => hq h.2.1)] at HO
          have m1 : ((bn s (i + 4) : Int) == 92) = false := beq_eq_false_iff_ne.2 (by omega)
          have m2 : ((bn s (i + 4) : Int) != 92) = true := by simp; omega
          have m3 : decide ((bn s (i + 4) : Int) = 92) = false := decide_eq_false (by omega)
          clear HN2
          generalize bn s (i + 4) = c at *
          go_wp2
          exact ⟨rfl, .inr ⟨HO.out.symm, rfl, hlow2⟩⟩
      · rw [if_neg (fun h => by omega)] at HO
        go_wp2
        exact ⟨rfl, .inr ⟨HO.out.symm, rfl, hB⟩⟩
  · go_wp2
    refine ⟨rfl, .inr ⟨?_, rfl, hB⟩⟩
    rw [← HO.out, hn]
    rfl
def escR (s : ByteArray) (i : Nat) : Option (ByteArray × Nat) :=
  if i < s.size then
    if bn s i = 34 then some (⟨#[34]⟩, i + 1) else if bn s i = 92 then some (⟨#[92]⟩, i + 1) else if bn s i = 47 then some (⟨#[47]⟩, i + 1)
    else if bn s i = 98 then some (⟨#[8]⟩, i + 1) else if bn s i = 102 then some (⟨#[12]⟩, i + 1) else if bn s i = 110 then some (⟨#[10]⟩, i + 1)
    else if bn s i = 114 then some (⟨#[13]⟩, i + 1) else if bn s i = 116 then some (⟨#[9]⟩, i + 1)
    else if bn s i = 117 then (pointR s (i + 1)).map fun p => (putU p.1, p.2)
    else none
  else none
set_option maxHeartbeats 2000000 in
set_option maxRecDepth 100000 in
theorem escape_c (w0 w : World) (g : Nat) (s : ByteArray) (i : Nat) (l : List UInt8) (hs : s.size ≤ 1000000) (h : RJ w0 g s i l w) :
    Calls Tryd.prog 75 #[.pointer (some ⟨g, 0, none⟩)] w fun e w' => (∃ (t : ByteArray) (j : Nat), escR s i = some (t, j) ∧ e = .returned (.string t) ∧ RJ w0 g s j l w') ∨ (escR s i = none ∧ e = .panicked ThrownJ ∧ Below w0.heap.size w0 w') := by
  have HN := Aside0.mk (next_c w0 w g s i l hs h)
  have HP := Aside0.mk (fun w1 (h1 : RJ w0 g s (i + 1) l w1) => point_c w0 w1 g s (i + 1) l hs h1)
  obtain ⟨o, ho⟩ : ∃ o, escR s i = o := ⟨_, rfl⟩
  rw [ho]
  rw [escR] at ho
  have HO := Aside0.mk ho
  have hc1 : ∀ w : World, (convert 21 9 (.int .i32 34)).run Tryd.prog w = .ok (.string ⟨#[34]⟩) w := fun _ => by kernel_rfl
  have hc2 : ∀ w : World, (convert 21 9 (.int .i32 92)).run Tryd.prog w = .ok (.string ⟨#[92]⟩) w := fun _ => by kernel_rfl
  have hc3 : ∀ w : World, (convert 21 9 (.int .i32 47)).run Tryd.prog w = .ok (.string ⟨#[47]⟩) w := fun _ => by kernel_rfl
  clear h hs ho
  go_enter Tryd.func75, Tryd.ntmps75
  go_wp2_with fail
  refine HN.out.mono ?_
  rintro e w1 (⟨hlt, rfl, hR⟩ | ⟨hge, rfl, hB⟩)
  · rw [if_pos hlt] at HO
    have HR := Aside0.mk hR
    clear HN hR
    have hc := bn_lt s i
    generalize bn s i = c at *
    by_cases c0 : c = 34
    · subst c0
      rw [if_pos rfl] at HO
      go_wp2
      go_ret
      exact .inl ⟨_, _, HO.out.symm, rfl, HR.out⟩
    rw [if_neg c0] at HO
    by_cases c1 : c = 92
    · subst c1
      rw [if_pos rfl] at HO
      go_wp2
      go_ret
      exact .inl ⟨_, _, HO.out.symm, rfl, HR.out⟩
    rw [if_neg c1] at HO
    by_cases c2 : c = 47
    · subst c2
      rw [if_pos rfl] at HO
      go_wp2
      go_ret
      exact .inl ⟨_, _, HO.out.symm, rfl, HR.out⟩
    rw [if_neg c2] at HO
    by_cases c3 : c = 98
    · subst c3
      rw [if_pos rfl] at HO
      go_wp2
      go_ret
      exact .inl ⟨_, _, HO.out.symm, rfl, HR.out⟩
    rw [if_neg c3] at HO
    by_cases c4 : c = 102
    · subst c4
      rw [if_pos rfl] at HO
      go_wp2
      go_ret
      exact .inl ⟨_, _, HO.out.symm, rfl, HR.out⟩
    rw [if_neg c4] at HO
    by_cases c5 : c = 110
    · subst c5
      rw [if_pos rfl] at HO
      go_wp2
      go_ret
      exact .inl ⟨_, _, HO.out.symm, rfl, HR.out⟩
    rw [if_neg c5] at HO
    by_cases c6 : c = 114
    · subst c6
      rw [if_pos rfl] at HO
      go_wp2
      go_ret
      exact .inl ⟨_, _, HO.out.symm, rfl, HR.out⟩
    rw [if_neg c6] at HO
    by_cases c7 : c = 116
    · subst c7
      rw [if_pos rfl] at HO
      go_wp2
      go_ret
      exact .inl ⟨_, _, HO.out.symm, rfl, HR.out⟩
    rw [if_neg c7] at HO
    by_cases c8 : c = 117
    · subst c8
      rw [if_pos rfl] at HO
      go_wp2_with fail
      refine (HP.out _ HR.out).mono ?_
      rintro e w2 (⟨v, j, hv, rfl, hR⟩ | ⟨hn, rfl, hB⟩)
      · have HR2 := Aside0.mk hR
        rw [hv] at HO
        have HU := Aside0.mk (utf_Put_calls v w2)
        have HO2 := Aside0.mk (show some (putU (v : Int), j) = o from HO.out)
        clear hv hR HP HO
        generalize putU (v : Int) = t at *
        go_wp2_with fail
        refine HU.out.mono ?_
        rintro e w3 ⟨rfl, rfl⟩
        go_wp2
        go_ret
        exact .inl ⟨_, _, HO2.out.symm, rfl, HR2.out⟩
      · rw [hn] at HO
        go_wp2
        exact ⟨rfl, .inr ⟨HO.out.symm, rfl, hB⟩⟩
    rw [if_neg c8] at HO
    have m0 : ((c : Int) == 34) = false := beq_eq_false_iff_ne.2 (by omega)
    have k0 : decide ((c : Int) = 34) = false := decide_eq_false (by omega)
    have m1 : ((c : Int) == 92) = false := beq_eq_false_iff_ne.2 (by omega)
    have k1 : decide ((c : Int) = 92) = false := decide_eq_false (by omega)
    have m2 : ((c : Int) == 47) = false := beq_eq_false_iff_ne.2 (by omega)
    have k2 : decide ((c : Int) = 47) = false := decide_eq_false (by omega)
    have m3 : ((c : Int) == 98) = false := beq_eq_false_iff_ne.2 (by omega)
    have k3 : decide ((c : Int) = 98) = false := decide_eq_false (by omega)
    have m4 : ((c : Int) == 102) = false := beq_eq_false_iff_ne.2 (by omega)
    have k4 : decide ((c : Int) = 102) = false := decide_eq_false (by omega)
    have m5 : ((c : Int) == 110) = false := beq_eq_false_iff_ne.2 (by omega)
    have k5 : decide ((c : Int) = 110) = false := decide_eq_false (by omega)
    have m6 : ((c : Int) == 114) = false := beq_eq_false_iff_ne.2 (by omega)
    have k6 : decide ((c : Int) = 114) = false := decide_eq_false (by omega)
    have m7 : ((c : Int) == 116) = false := beq_eq_false_iff_ne.2 (by omega)
    have k7 : decide ((c : Int) = 116) = false := decide_eq_false (by omega)
    have m8 : ((c : Int) == 117) = false := beq_eq_false_iff_ne.2 (by omega)
    have k8 : decide ((c : Int) = 117) = false := decide_eq_false (by omega)
    clear HP
    go_wp2
    exact ⟨rfl, .inr ⟨HO.out.symm, rfl, HR.out.low⟩⟩
  · rw [if_neg (by omega)] at HO
    go_wp2
    exact ⟨rfl, .inr ⟨HO.out.symm, rfl, hB⟩⟩
end Go.Proofs.YtpamgedmgjfjjaaDoor.M
end
section
namespace Go.Proofs.YtpamgedmgjfjjaaDoor.M
open Go.RowKit Go.Proofs.YtpamgedmgjfjjaaDoorW.PrintWords Go.Proofs.YtpamgedmgjfjjaaDoorW.PrintLast Go.Proofs.YtpamgedmgjfjjaaDoorW.PrintMore
open Go.Lib (byteCells byteCells_length strCells strCells_length cell_of_heap frozen_of_heap ownBlock_ne alloc_old)
set_option linter.unusedVariables false
set_option linter.unusedSimpArgs false
def textR (s : ByteArray) : Nat → Nat → List UInt8 → Option (List UInt8 × Nat)
  | 0, _, _ => none
  | f + 1, i, l => if i < s.size then
      if bn s i = 34 then some (l, i + 1)
      else if bn s i = 92 then (escR s (i + 1)).bind fun p => textR s f p.2 (l ++ p.1.data.toList)
      else if bn s i < 32 then none
      else if (runeU s i).1 < 0 then none
      else textR s f (i + (runeU s i).2.toNat) (l ++ (s.extract i (i + (runeU s i).2.toNat)).data.toList)
    else none
theorem fourR_in (s : ByteArray) : ∀ (n i v r : Nat), 0 < n → fourR s n i v = some r → i + n ≤ s.size
  | 1, i, v, r, _, h => by
    rw [fourR] at h
    split at h
    · omega
    · cases h
  | n + 2, i, v, r, _, h => by
    rw [fourR] at h
    split at h
    · cases hd : hexD (bn s i) with
      | none => rw [hd] at h; cases h
      | some d =>
        rw [hd] at h
        have := fourR_in s (n + 1) (i + 1) (v * 16 + d) r (by omega) h
        omega
    · cases h
theorem pointR_in {s : ByteArray} {i v j : Nat} (h : pointR s i = some (v, j)) : i < j ∧ j ≤ s.size := by
  unfold pointR at h
  cases h4 : fourR s 4 i 0 with
  | none => rw [h4] at h; cases h
  | some x =>
    have b := fourR_in s 4 i 0 x (by decide) h4
    rw [h4, Option.bind_some] at h
    split at h
    · simp at h; omega
    · split at h
      · cases h6 : fourR s 4 (i + 6) 0 with
        | none => rw [h6] at h; cases h
        | some y =>
          have b := fourR_in s 4 (i + 6) 0 y (by decide) h6
          rw [h6, Option.bind_some] at h
          split at h
          · cases h
          · simp at h; omega
      · cases h
theorem putU_size (r : Int) : (putU r).size ≤ 4 := by
  by_cases h : Lib.validRune r = true
  · rw [← data_length, putU_L r h, encL_len]; exact wid_le _
  · rw [putU, if_neg h]; decide
set_option maxRecDepth 100000 in
theorem escR_in {s : ByteArray} {i : Nat} {t : ByteArray} {j : Nat} (h : escR s i = some (t, j)) : t.size ≤ 4 ∧ i < j ∧ j ≤ s.size := by
  unfold escR at h
  split at h
  · rename_i hi
    by_cases c1 : bn s i = 34
    · rw [if_pos c1] at h; cases h; exact ⟨by decide, by omega, by omega⟩
    rw [if_neg c1] at h
    by_cases c2 : bn s i = 92
    · rw [if_pos c2] at h; cases h; exact ⟨by decide, by omega, by omega⟩
    rw [if_neg c2] at h
    by_cases c3 : bn s i = 47
    · rw [if_pos c3] at h; cases h; exact ⟨by decide, by omega, by omega⟩
    rw [if_neg c3] at h
    by_cases c4 : bn s i = 98
    · rw [if_pos c4] at h; cases h; exact ⟨by decide, by omega, by omega⟩
    rw [if_neg c4] at h
    by_cases c5 : bn s i = 102
    · rw [if_pos c5] at h; cases h; exact ⟨by decide, by omega, by omega⟩
    rw [if_neg c5] at h
    by_cases c6 : bn s i = 110
    · rw [if_pos c6] at h; cases h; exact ⟨by decide, by omega, by omega⟩
    rw [if_neg c6] at h
    by_cases c7 : bn s i = 114
    · rw [if_pos c7] at h; cases h; exact ⟨by decide, by omega, by omega⟩
    rw [if_neg c7] at h
    by_cases c8 : bn s i = 116
    · rw [if_pos c8] at h; cases h; exact ⟨by decide, by omega, by omega⟩
    rw [if_neg c8] at h
    by_cases c9 : bn s i = 117
    · rw [if_pos c9] at h
      cases hp : pointR s (i + 1) with
      | none => rw [hp] at h; cases h
      | some p =>
        obtain ⟨v, k⟩ := p
        rw [hp] at h
        simp only [Option.map_some, Option.some.injEq, Prod.mk.injEq] at h
        obtain ⟨rfl, rfl⟩ := h
        have hq := pointR_in hp
        exact ⟨putU_size _, by omega, by omega⟩
    · rw [if_neg c9] at h; cases h
  · cases h
set_option maxHeartbeats 8000000 in
set_option maxRecDepth 400000 in
theorem string_keep (o : Nat) (T : TypeId) (B b : Nat) (hT : T ≠ 5) (cs : Array Value) (l : List UInt8) (w : World) (h : BAt o T B b cs l w) (hBw : B ≤ w.heap.size) :
    Calls Tryd.prog 51 #[.pointer (some ⟨b, o, none⟩)] w fun e w' => e = .returned (.string ⟨l.toArray⟩) ∧ Below B w w' ∧ w'.heap[b]? = some (.cells cs T (0, 0)) := by
  obtain ⟨hB, hbk, _, v, hv, hown⟩ := h
  have hne := ownBlock_ne hown hbk hT
  have HK := Aside0.mk hbk
  by_cases h0 : l = []
  · subst h0
    rcases hown.2 with ⟨rfl, _⟩ | ⟨g, cap, cur, rfl, hbg, hg, _, _, _, _⟩
    · have hUS := usNone
      have c1 : w.drew.cell? ⟨b, o + 1, none⟩ = some (.slice none 0 0) := by
        have : w.drew.heap[b]? = some (.cells cs T (0, 0)) := hbk
        rw [cell_of_heap this, hv]
      have hSD : (Builtin.unsafeSliceData_ #[33] 102 #[.slice none 0 0]).run Tryd.prog w.drew = .ok (.pointer none) w.drew := rfl
      clear hown hv hbk hne
      go_enter Tryd.func51, Tryd.ntmps51
      go_wp2
      go_region
      all_goals (go_wp2; go_ret; exact ⟨rfl, Below.drew (Below.refl B w), HK.out⟩)
    · by_cases hc0 : cap = 0
      · subst hc0
        have hUS := usNone
        have hlt : b < w.heap.size := blk_lt hbk
        have c1 : w.drew.cell? ⟨b, o + 1, none⟩ = some (.slice (some ⟨g, 0, none⟩) 0 0) := by
          have : w.drew.heap[b]? = some (.cells cs T (0, 0)) := hbk
          rw [cell_of_heap this, hv]; rfl
        have hSD : (Builtin.unsafeSliceData_ #[33] 102 #[.slice (some ⟨g, 0, none⟩) 0 0]).run Tryd.prog w.drew = .ok (.pointer (some ⟨w.drew.heap.size, 0, none⟩)) (w.drew.alloc (.view ⟨g, 0, none⟩ 5)) :=
          Lib.run_unsafeSliceData_zero w.drew _ _ 5 Tryd.underlying102 ⟨g, 0, none⟩ 0 (5, cur.size) (by have hg' : w.drew.heap[g]? = some (.cells cur 5 (0, 0)) := hg; simp [World.shape?, hg'])
        have c2 : (w.drew.alloc (.view ⟨g, 0, none⟩ 5)).cell? ⟨b, o + 1, none⟩ = some (.slice (some ⟨g, 0, none⟩) 0 0) := by
          have : (w.drew.alloc (.view ⟨g, 0, none⟩ 5)).heap[b]? = _ := (alloc_old w.drew _ b hlt).trans hbk
          rw [cell_of_heap this, hv]; rfl
        have c3 : (w.alloc (.view ⟨g, 0, none⟩ 5)).drew.cell? ⟨b, o + 1, none⟩ = some (.slice (some ⟨g, 0, none⟩) 0 0) := c2
        have c0 : w.cell? ⟨b, o + 1, none⟩ = some (.slice (some ⟨g, 0, none⟩) 0 0) := c1
        have HK2 := Aside0.mk (show (w.drew.alloc (.view ⟨g, 0, none⟩ 5)).heap[b]? = some (.cells cs T (0, 0)) from (alloc_old w.drew _ b hlt).trans hbk)
        clear hown hv hbk hg hne
        go_enter Tryd.func51, Tryd.ntmps51
        go_wp2
        go_region
        all_goals (go_wp2; go_ret; exact ⟨rfl, Below.drew ((Below.refl B w).alloc hBw _), HK2.out⟩)
      · have hUS := usNone
        have c1 : w.drew.cell? ⟨b, o + 1, none⟩ = some (.slice (some ⟨g, 0, none⟩) 0 cap) := by
          have : w.drew.heap[b]? = some (.cells cs T (0, 0)) := hbk
          rw [cell_of_heap this, hv]; rfl
        have hSD : (Builtin.unsafeSliceData_ #[33] 102 #[.slice (some ⟨g, 0, none⟩) 0 cap]).run Tryd.prog w.drew = .ok (.pointer (some ⟨g, 0, none⟩)) w.drew :=
          Lib.run_unsafeSliceData_row _ _ _ _ _ _ hc0
        clear hc0 hown hv hbk hg hne
        go_enter Tryd.func51, Tryd.ntmps51
        go_wp2
        go_region
        all_goals (go_wp2; go_ret; exact ⟨rfl, Below.drew (Below.refl B w), HK.out⟩)
  · have hl0 : l.length ≠ 0 := by simpa using h0
    obtain ⟨g, cap, cur, rfl, hbg, hg, hnc, hcm, hcs, htake⟩ : ∃ g cap cur, v = .slice (some ⟨g, 0, none⟩) l.length cap ∧ B ≤ g ∧ w.heap[g]? = some (.cells cur 5 (0, 0)) ∧ l.length ≤ cap ∧ cap ≤ maxLen ∧ cur.size = cap * 1 ∧ cur.toList.take (l.length * 1) = byteCells l := by
      rcases hown.2 with ⟨_, hz⟩ | ⟨g, cap, cur, hv, r⟩
      · exact absurd hz hl0
      · exact ⟨g, cap, cur, hv, r⟩
    have c1 : w.drew.cell? ⟨b, o + 1, none⟩ = some (.slice (some ⟨g, 0, none⟩) l.length cap) := by
      have : w.drew.heap[b]? = some (.cells cs T (0, 0)) := hbk
      rw [cell_of_heap this, hv]
    have hSD : (Builtin.unsafeSliceData_ #[33] 102 #[.slice (some ⟨g, 0, none⟩) l.length cap]).run Tryd.prog w.drew = .ok (.pointer (some ⟨g, 0, none⟩)) w.drew :=
      Lib.run_unsafeSliceData_row _ _ _ _ _ _ (by omega)
    have hUS : (Builtin.unsafeString_ #[102, 3] 9 #[.pointer (some ⟨g, 0, none⟩), .int .i64 l.length]).run Tryd.prog w.drew = .ok (.string ⟨l.toArray⟩) (w.drew.freeze ⟨g, 0, none⟩ l.length) := by
      refine Lib.run_unsafeString_row w.drew 102 3 9 5 Tryd.underlying102 cells5x g cur.size (by have hg' : w.drew.heap[g]? = some (.cells cur 5 (0, 0)) := hg; simp [World.shape?, hg']) l h0 (by omega) (by unfold maxLen at hcm; omega) ?_
      intro j x hx
      have := hown.cells (g := g) rfl j (.int .u8 x.toNat) (by simp [byteCells, hx])
      exact this
    have hgb : g ≠ b := fun e => hne (by simp [Value.ownBlock, e])
    have HK2 := Aside0.mk (show (w.drew.freeze ⟨g, 0, none⟩ l.length).heap[b]? = some (.cells cs T (0, 0)) by
      have : w.drew.heap[b]? = some (.cells cs T (0, 0)) := hbk
      unfold World.freeze
      split
      · exact this
      · simp only [Array.getElem?_modify]
        rw [if_neg hgb]
        exact this)
    clear hl0 h0 hown hg hnc hcm hcs htake hbk hv hne hgb
    generalize hs : (⟨l.toArray⟩ : ByteArray) = s at *
    go_enter Tryd.func51, Tryd.ntmps51
    go_wp2
    go_region
    all_goals (go_wp2; go_ret; exact ⟨rfl, Lib.below_freeze (Below.drew (Below.refl B w)) (p := ⟨g, 0, none⟩) hbg _, HK2.out⟩)
def posJ (g : Nat) (w : World) : Nat := (RowKit.intOf ((w.cell? ⟨g, 1, none⟩).getD (.int .i64 0))).toNat
theorem RJ.pos {w0 w : World} {g : Nat} {s : ByteArray} {i : Nat} {l : List UInt8} (h : RJ w0 g s i l w) : posJ g w = i := by
  rw [posJ, h.c1]; rfl
theorem tabs_low {w w1 : World} (h : Tabs w) (hb : Below w.heap.size w w1) : Tabs w1 := tabs_below h hb
theorem writeS_c (w0 w : World) (g : Nat) (s : ByteArray) (i : Nat) (l : List UInt8) (t : ByteArray) (hl : l.length + t.size ≤ 140737488355328) (h : RJ w0 g s i l w) :
    Calls Tryd.prog 50 #[.pointer (some ⟨g, 2, none⟩), .string t] w fun e w' => e = .returned (.tuple #[.int .i64 t.size, .nilIface]) ∧ RJ w0 g s i (l ++ t.data.toList) w' := by
  obtain ⟨low, cs, hb, hsz, h0, h1⟩ := h
  refine (writeString_any 2 97 w0.heap.size g 4 cs l t w hb hsz (by decide) fit97 hl low.size).mono ?_
  rintro e w' ⟨rfl, v', hb', hbel⟩
  refine ⟨rfl, low.trans hbel, _, hb', by simp [hsz], ?_, ?_⟩
  · rw [Array.getElem?_setIfInBounds_ne (by decide), Array.getElem?_setIfInBounds_ne (by decide)]; exact h0
  · rw [Array.getElem?_setIfInBounds_ne (by decide), Array.getElem?_setIfInBounds_ne (by decide)]; exact h1
set_option maxHeartbeats 2000000 in
set_option maxRecDepth 100000 in
theorem text_c (w0 w : World) (g : Nat) (s : ByteArray) (i : Nat) (hT : Tabs w0) (hs : s.size ≤ 1000000) (hi : i ≤ s.size) (h : RJ w0 g s i [] w) :
    Calls Tryd.prog 66 #[.pointer (some ⟨g, 0, none⟩)] w fun e w' => (∃ (l : List UInt8) (j : Nat), textR s (s.size + 1 - i) i [] = some (l, j) ∧ e = .returned (.string ⟨l.toArray⟩) ∧ Below w0.heap.size w0 w' ∧ w'.cell? ⟨g, 1, none⟩ = some (.int .i64 j)) ∨
      (textR s (s.size + 1 - i) i [] = none ∧ e = .panicked ThrownJ ∧ Below w0.heap.size w0 w') := by
  have HS := Aside0.mk hs
  have HT := Aside0.mk hT
  have HI := Aside0.mk hi
  have HR0 := Aside0.mk h
  obtain ⟨o, ho⟩ : ∃ o, textR s (s.size + 1 - i) i [] = o := ⟨_, rfl⟩
  rw [ho]
  have HO := Aside0.mk ho
  clear h hs ho hi hT
  go_enter Tryd.func66, Tryd.ntmps66
  go_wp2
  go_loopw [3] (fun v3 wr => ∃ (f i : Nat) (l : List UInt8), Aside0 (i ≤ s.size) ∧ Aside0 (s.size < i + f) ∧ Aside0 (l.length ≤ 4 * i) ∧ Aside0 (RJ w0 g s i l wr) ∧ Aside0 (textR s f i l = o)) (fun v3 wr => s.size + 1 - posJ g wr)
  case atStart => exact ⟨_, i, [], HI, ⟨by have := HI.out; omega⟩, ⟨by simp⟩, HR0, HO⟩
  case round =>
    clear HR0 HO HI
    clear i
    obtain ⟨f, i, l, HI, HF, HL, HR, HX⟩ := hrel
    have HP := Aside0.mk HR.out.pos
    have HN := Aside0.mk (next_c w0 wr g s i l HS.out HR.out)
    obtain ⟨f', rfl⟩ : ∃ f', f = f' + 1 := ⟨f - 1, by have := HF.out; have := HI.out; omega⟩
    rw [textR] at HX
    go_wp2_with fail
    refine HN.out.mono ?_
    rintro e w1 (⟨hlt, rfl, hR⟩ | ⟨hge, rfl, hB⟩)
    · rw [if_pos hlt] at HX
      have HR1 := Aside0.mk hR
      clear HN hR
      have hc := bn_lt s i
      generalize bn s i = c at *
      by_cases c1 : c = 34
      · subst c1
        rw [if_pos rfl] at HX
        obtain ⟨low, cs, hb, hsz, hc0, hc1⟩ := HR1.out
        have HS2 := Aside0.mk (string_keep 2 97 w0.heap.size g (by decide) cs l w1 hb low.size)
        have HLO := Aside0.mk low
        have HC1 := Aside0.mk hc1
        clear low hb hsz hc0 hc1
        go_wp2_with fail
        refine HS2.out.mono ?_
        rintro e w2 ⟨rfl, hb, hk⟩
        have HB2 := Aside0.mk (HLO.out.trans hb)
        have HK2 := Aside0.mk hk
        clear hb hk
        go_wp2
        go_ret
        refine .inl ⟨l, i + 1, HX.out.symm, rfl, HB2.out, ?_⟩
        rw [cell_of_heap HK2.out]; exact HC1.out
      · rw [if_neg c1] at HX
        have m1 : ((c : Int) == 34) = false := beq_eq_false_iff_ne.2 (by omega)
        have k1 : decide ((c : Int) = 34) = false := decide_eq_false (by omega)
        by_cases c2 : c = 92
        · subst c2
          rw [if_pos rfl] at HX
          have HE := Aside0.mk (fun w2 (h : RJ w0 g s (i + 1) l w2) => escape_c w0 w2 g s (i + 1) l HS.out h)
          have HRd : Aside0 (RJ w0 g s (i + 1) l w1.drew) := ⟨HR1.out.later ⟨rfl, rfl, rfl, Nat.le_refl _, fun _ _ => rfl⟩⟩
          cases he : escR s (i + 1) with
          | none =>
            have HE2 := Aside0.mk (fun w2 (h : RJ w0 g s (i + 1) l w2) => (HE.out w2 h).mono (R' := fun e w' => e = .panicked ThrownJ ∧ Below w0.heap.size w0 w') (by
              rintro e w' (⟨t, j, h1, _⟩ | ⟨_, rfl, hb⟩)
              · rw [he] at h1; cases h1
              · exact ⟨rfl, hb⟩))
            have HY := Aside0.mk (show o = none by rw [← HX.out, he]; rfl)
            clear HE HX he
            go_wp2
            go_region_dies
            all_goals (refine (HE2.out _ HRd.out).mono ?_; rintro e w2 ⟨rfl, hb⟩; exact ⟨rfl, .inr ⟨HY.out, rfl, hb⟩⟩)
          | some p =>
            obtain ⟨t, j⟩ := p
            have HE2 := Aside0.mk (fun w2 (h : RJ w0 g s (i + 1) l w2) => (HE.out w2 h).mono (R' := fun e w' => e = .returned (.string t) ∧ RJ w0 g s j l w') (by
              rintro e w' (⟨t2, j2, h1, rfl, hr⟩ | ⟨h1, _⟩)
              · rw [he] at h1
                cases h1
                exact ⟨rfl, hr⟩
              · rw [he] at h1; cases h1))
            obtain ⟨ht4, hij, hjs⟩ := escR_in he
            have HY := Aside0.mk (show textR s f' j (l ++ t.data.toList) = o by rw [← HX.out, he]; rfl)
            have HWS := Aside0.mk (fun w2 (h : RJ w0 g s j l w2) => writeS_c w0 w2 g s j l t (by have := HL.out; have := HS.out; omega) h)
            clear HE HX he
            go_wp2
            go_region_held3 (fun _ => True) (exact True.intro) (first
              | (go_at_call 75; (with_reducible refine (HE2.out _ HRd.out).mono ?_); rintro e w2 ⟨rfl, hr⟩; have HR2 := Aside0.mk hr; clear hr)
              | (go_at_call 50; (with_reducible refine (HWS.out _ HR2.out).mono ?_); rintro e w3 ⟨rfl, hr⟩; have HR3 := Aside0.mk hr; clear hr))
            go_wp2
            refine ⟨⟨f', j, _, ⟨hjs⟩, ⟨by have := HF.out; omega⟩, ⟨by rw [List.length_append, data_length]; have := HL.out; omega⟩, HR3, HY⟩, ?_⟩
            rw [HR3.out.pos, HP.out]
            omega
        · rw [if_neg c2] at HX
          have m2 : ((c : Int) == 92) = false := beq_eq_false_iff_ne.2 (by omega)
          have k2 : decide ((c : Int) = 92) = false := decide_eq_false (by omega)
          by_cases c3 : c < 32
          · rw [if_pos c3] at HX
            have m3 : decide ((c : Int) < 32) = true := decide_eq_true (by omega)
            go_wp2
            exact ⟨rfl, .inr ⟨HX.out.symm, rfl, HR1.out.low⟩⟩
          · rw [if_neg c3] at HX
            have m3 : decide ((c : Int) < 32) = false := decide_eq_false (by omega)
            obtain ⟨hw, hm1, hml⟩ := runeU_wid s i hlt
            have HU := Aside0.mk (fun w2 (h : Tabs w2) => utf_Rune_calls s i w2 h)
            generalize (Utf8.decode s i).2 = m at *
            obtain ⟨rn, hru⟩ : ∃ rn, runeU s i = rn := ⟨_, rfl⟩
            obtain ⟨r, n⟩ := rn
            rw [hru] at hw HX HU
            obtain rfl : n = (m : Int) := hw
            have HTd := Aside0.mk (tabs_low HT.out HR1.out.low)
            have HR1d : Aside0 (RJ w0 g s (i + 1) l w1.drew) := ⟨HR1.out.later ⟨rfl, rfl, rfl, Nat.le_refl _, fun _ _ => rfl⟩⟩
            have HTd2 := Aside0.mk (tabs_low HT.out HR1d.out.low)
            have hwi : IntKind.i64.wrap (i : Int) = (i : Int) := by rw [IntKind.wrap_i64]; have := HS.out; omega
            clear hru HTd
            go_wp2
            go_region_held3 (fun w' => w'.cell? ⟨g, 0, none⟩ = some (.string s) ∧ w'.cell? ⟨g, 1, none⟩ = some (.int .i64 ((i : Int) + 1)))
              (first | exact ⟨HR1d.out.c0, HR1d.out.c1⟩ | exact ⟨HR2.out.c0, HR2.out.c1⟩)
              (first
              | (go_at_call 22; (with_reducible refine (HU.out _ HTd2.out).mono ?_); rintro e w2 ⟨rfl, hb⟩; have HR2 := Aside0.mk (HR1d.out.later hb); clear hb))
            by_cases hr : r < 0
            · have q1 : decide (r < 0) = true := decide_eq_true hr
              rw [if_pos hr] at HX
              go_wp2
              exact ⟨rfl, .inr ⟨HX.out.symm, rfl, HR2.out.low⟩⟩
            · have q1 : decide (r < 0) = false := decide_eq_false hr
              rw [if_neg hr] at HX
              have HR2d : Aside0 (RJ w0 g s (i + 1) l w2.drew) := ⟨HR2.out.later ⟨rfl, rfl, rfl, Nat.le_refl _, fun _ _ => rfl⟩⟩
              obtain ⟨x, hx⟩ : ∃ x, s.extract i (i + m) = x := ⟨_, rfl⟩
              have hin : ((i : Int) + (m : Int)).toNat = i + m := by omega
              have hxs : x.size = m := by rw [← hx, ByteArray.size_extract]; omega
              have HWX := Aside0.mk (fun w3 (h : RJ w0 g s (i + 1) l w3) => writeS_c w0 w3 g s (i + 1) l x (by have := HL.out; have := HS.out; omega) h)
              have HXX := Aside0.mk (show textR s f' (i + m) (l ++ x.data.toList) = o by rw [← HX.out, ← hx]; rfl)
              have HXO := Aside0.mk hx
              have b1 : (0 : Int) ≤ (i : Int) := by omega
              have b2 : (i : Int) ≤ (i : Int) + (m : Int) := by omega
              have b3 : (i : Int) + (m : Int) ≤ (s.size : Int) := by omega
              have hmw : IntKind.i64.wrap ((i : Int) + (m : Int)) = (i : Int) + (m : Int) := by rw [IntKind.wrap_i64]; have := HS.out; omega
              go_wp2
              go_region_held3 (fun w' => w'.cell? ⟨g, 0, none⟩ = some (.string s) ∧ w'.cell? ⟨g, 1, none⟩ = some (.int .i64 ((i : Int) + 1)))
                (first | exact ⟨HR2d.out.c0, HR2d.out.c1⟩ | exact ⟨HR3.out.c0, HR3.out.c1⟩)
                (first
                | (go_at_call 50; (with_reducible refine (HWX.out _ HR2d.out).mono ?_); rintro e w3 ⟨rfl, hr3⟩; have HR3 := Aside0.mk hr3; clear hr3))
              have d1 : w3.cell? ⟨g, 1, none⟩ = some (.int .i64 ((i : Int) + 1)) := HR3.out.c1
              have f1 := HR3.out.fr 1
              go_wp2
              have ew1 : wrap64 ((m : Int) - 1) = (m : Int) - 1 := by unfold wrap64; have := HS.out; omega
              have ew2 : wrap64 ((i : Int) + 1 + ((m : Int) - 1)) = ((i + m : Nat) : Int) := by unfold wrap64; have := HS.out; omega
              have HR4 := Aside0.mk (HR3.out.move (i + m))
              rw [ew1, ew2]
              refine ⟨⟨f', i + m, _, ⟨hml⟩, ⟨by have := HF.out; omega⟩, ⟨by rw [List.length_append, data_length]; have := HL.out; omega⟩, HR4, HXX⟩, ?_⟩
              rw [HR4.out.pos, HP.out]
              omega
    · rw [if_neg (by omega)] at HX
      go_wp2
      exact ⟨rfl, .inr ⟨HX.out.symm, rfl, hB⟩⟩
end Go.Proofs.YtpamgedmgjfjjaaDoor.M
end
