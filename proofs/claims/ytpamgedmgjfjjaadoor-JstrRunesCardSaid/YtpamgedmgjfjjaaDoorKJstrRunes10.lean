/-
Lemmas for JstrRunes, for every input they speak of: XJRunesP, XJRunes.
-/
import Derived.Test.YtpamgedmgjfjjaaDoorKJstrRunes09
section
namespace Go.Proofs.YtpamgedmgjfjjaaDoor.M
open Go.RowKit Go.Proofs.YtpamgedmgjfjjaaDoorW.PrintWords Go.Proofs.YtpamgedmgjfjjaaDoorW.PrintLast Go.Proofs.YtpamgedmgjfjjaaDoorW.PrintMore
set_option linter.unusedVariables false
set_option linter.unusedSimpArgs false
def hexG (g : Bool) (d : Nat) : UInt8 := if d < 10 then UInt8.ofNat (48 + d) else if g = true then UInt8.ofNat (55 + d) else UInt8.ofNat (87 + d)
def hexS (g : Bool) (c : Nat) : List UInt8 := [92, 117, hexG g (c / 4096 % 16), hexG g (c / 256 % 16), hexG g (c / 16 % 16), hexG g (c % 16)]
theorem hexG_digit : ∀ (g : Bool) (d : Fin 16), hexD (hexG g d.val).toNat = some d.val := by decide +kernel
@[reducible] def DIG (g : Bool) : ByteArray := if g = true then ⟨#[48, 49, 50, 51, 52, 53, 54, 55, 56, 57, 65, 66, 67, 68, 69, 70]⟩ else ⟨#[48, 49, 50, 51, 52, 53, 54, 55, 56, 57, 97, 98, 99, 100, 101, 102]⟩
theorem DIG_size (g : Bool) : (DIG g).size = 16 := by cases g <;> rfl
theorem DIG_at : ∀ (g : Bool) (d : Fin 16), ((DIG g).extract d.val (d.val + 1)).data.toList = [hexG g d.val] := by decide +kernel
theorem w64i (x : Int) (h0 : -9223372036854775808 ≤ x) (h1 : x < 9223372036854775808) : wrap64 x = x := by unfold wrap64; omega
theorem hex_step (k c : Nat) (hc : c < 2147483648) (g : Bool) (acc : ByteArray) (ha : acc.size ≤ 100) (t : Nat) (ht : t ≤ 12) (d : Nat) (hd : c / 2 ^ t % 16 = d) :
    erratumlaw07_hex.l0 (k + 1) (c : Int) (DIG g) acc (t : Int) = erratumlaw07_hex.l0 k (c : Int) (DIG g) (acc ++ (DIG g).extract d (d + 1)) ((t : Int) - 4) := by
  have hu : IntKind.u64.wrap (t : Int) = (t : Int) := by rw [IntKind.wrap_u64]; omega
  have hsh : shr .i32 (c : Int) (t : Int) = ((c / 2 ^ t : Nat) : Int) := by
    unfold shr
    rw [Int.toNat_natCast, Nat.min_eq_left (by show t ≤ 32; omega)]
    simp
  have hle : c / 2 ^ t ≤ c := Nat.div_le_self _ _
  generalize c / 2 ^ t = x at *
  have hm : Go.bits .and .i32 (x : Int) 15 = (d : Int) := by
    rw [i32_mask 4 (by decide) _ (by omega) (by omega) 15 (by decide), ← hd]
    omega
  have hd16 : d < 16 := by omega
  rw [erratumlaw07_hex.l0, if_pos (show (t : Int) ≥ 0 by omega), hu, if_pos (show (0 : Int) ≤ (t : Int) by omega), hsh, hm, show wrap32 ((d : Int) + 1) = ((d + 1 : Nat) : Int) by unfold wrap32; omega, DIG_size, if_pos (show (0 : Int) ≤ (d : Int) by omega), if_pos (show (d : Int) ≤ ((d + 1 : Nat) : Int) by omega), if_pos (show ((d + 1 : Nat) : Int) ≤ ((16 : Nat) : Int) by omega), Int.toNat_natCast, Int.toNat_natCast,
    if_pos (by rw [ByteArray.size_extract, DIG_size]; omega), w64i _ (by omega) (by omega)]
theorem hex_f (c : Nat) (hc : c < 2147483648) (g : Bool) : erratumlaw07_hex.f 10 (c : Int) g = some ⟨(hexS g c).toArray⟩ := by
  have e0 : erratumlaw07_hex.f 10 (c : Int) g = erratumlaw07_hex.l0 9 (c : Int) (DIG g) ⟨#[92, 117]⟩ ((12 : Nat) : Int) := by cases g <;> rfl
  rw [e0, hex_step 8 c hc g _ (by decide) 12 (by decide) _ rfl]
  have z : ∀ d, ((DIG g).extract d (d + 1)).size ≤ 1 := fun d => by rw [ByteArray.size_extract]; omega
  refine (hex_step 7 c hc g _ (by rw [ByteArray.size_append]; have := z (c / 2 ^ 12 % 16); show 2 + _ ≤ _; omega) 8 (by decide) _ rfl).trans ?_
  refine (hex_step 6 c hc g _ (by rw [ByteArray.size_append, ByteArray.size_append]; have := z (c / 2 ^ 12 % 16); have := z (c / 2 ^ 8 % 16); show 2 + _ + _ ≤ _; omega) 4 (by decide) _ rfl).trans ?_
  refine (hex_step 5 c hc g _ (by rw [ByteArray.size_append, ByteArray.size_append, ByteArray.size_append]; have := z (c / 2 ^ 12 % 16); have := z (c / 2 ^ 8 % 16); have := z (c / 2 ^ 4 % 16); show 2 + _ + _ + _ ≤ _; omega) 0 (by decide) _ rfl).trans ?_
  have e5 : ∀ acc, erratumlaw07_hex.l0 5 (c : Int) (DIG g) acc (((0 : Nat) : Int) - 4) = some acc := fun acc => by rw [erratumlaw07_hex.l0, if_neg (by omega)]
  rw [e5]
  congr 1
  apply ba_eq
  have A := fun d (h : d < 16) => DIG_at g ⟨d, h⟩
  simp only [ba_append]
  rw [A _ (Nat.mod_lt _ (by decide)), A _ (Nat.mod_lt _ (by decide)), A _ (Nat.mod_lt _ (by decide)), A _ (Nat.mod_lt _ (by decide))]
  simp [hexS]
theorem four_at (S : ByteArray) (i : Nat) (g : Bool) (c : Nat) (m : List UInt8) (hS : S.data.toList.drop i = hexG g (c / 4096 % 16) :: hexG g (c / 256 % 16) :: hexG g (c / 16 % 16) :: hexG g (c % 16) :: m) :
    fourR S 4 i 0 = some (c % 65536) := by
  obtain ⟨a0, b0⟩ := bn_drop S i _ hS 0 (by simp)
  obtain ⟨a1, b1⟩ := bn_drop S i _ hS 1 (by simp)
  obtain ⟨a2, b2⟩ := bn_drop S i _ hS 2 (by simp)
  obtain ⟨a3, b3⟩ := bn_drop S i _ hS 3 (by simp)
  have D := fun d (h : d < 16) => hexG_digit g ⟨d, h⟩
  rw [fourR, if_pos (by omega), show bn S i = (hexG g (c / 4096 % 16)).toNat from b0, D _ (Nat.mod_lt _ (by decide)), Option.bind_some,
    fourR, if_pos (by omega), show bn S (i + 1) = (hexG g (c / 256 % 16)).toNat from b1, D _ (Nat.mod_lt _ (by decide)), Option.bind_some,
    fourR, if_pos (by omega), show bn S (i + 1 + 1) = (hexG g (c / 16 % 16)).toNat from b2, D _ (Nat.mod_lt _ (by decide)), Option.bind_some,
    fourR, if_pos (by omega), show bn S (i + 1 + 1 + 1) = (hexG g (c % 16)).toNat from b3, D _ (Nat.mod_lt _ (by decide)), Option.bind_some, fourR]
  congr 1
  show (((0 * 16 + c / 4096 % 16) * 16 + c / 256 % 16) * 16 + c / 16 % 16) * 16 + c % 16 = c % 65536
  omega
theorem esc_u (S : ByteArray) (i : Nat) (v j : Nat) (hi : i < S.size) (hu : bn S i = 117) (hp : pointR S (i + 1) = some (v, j)) : escR S i = some (putU (v : Int), j) := by
  rw [escR, if_pos hi, hu, if_neg (by decide), if_neg (by decide), if_neg (by decide), if_neg (by decide), if_neg (by decide), if_neg (by decide), if_neg (by decide), if_neg (by decide), if_pos rfl, hp]
  rfl
theorem esc_u_none (S : ByteArray) (i : Nat) (hi : i < S.size) (hu : bn S i = 117) (hp : pointR S (i + 1) = none) : escR S i = none := by
  rw [escR, if_pos hi, hu, if_neg (by decide), if_neg (by decide), if_neg (by decide), if_neg (by decide), if_neg (by decide), if_neg (by decide), if_neg (by decide), if_neg (by decide), if_pos rfl, hp]
  rfl
set_option maxRecDepth 100000 in
theorem unq_one (S : ByteArray) (m : List UInt8) (hS : S.data.toList = 34 :: 92 :: 117 :: (m ++ [34])) (v j : Nat) (hj : j = 3 + m.length) (hp : pointR S 3 = some (v, j)) : unqU S 0 = (putU (v : Int), ((m.length + 4 : Nat) : Int), 0) := by
  have hsz : S.size = m.length + 4 := by rw [← data_length, hS]; simp
  have h0 : S.data.toList.drop 0 = 34 :: 92 :: 117 :: (m ++ [34]) := hS
  obtain ⟨a0, b0⟩ := bn_drop S 0 _ h0 0 (by simp)
  obtain ⟨a1, b1⟩ := bn_drop S 0 _ h0 1 (by simp)
  obtain ⟨a2, b2⟩ := bn_drop S 0 _ h0 2 (by simp)
  have hj2 : S.data.toList.drop j = [34] := by
    rw [hS, hj, Nat.add_comm 3]
    show List.drop m.length (m ++ [34]) = [34]
    rw [List.drop_left]
  obtain ⟨a3, b3⟩ := bn_drop S j _ hj2 0 (by simp)
  have he := esc_u S 2 v j (by omega) b2 hp
  have hno : ¬ ((0 : Int) < 0 ∨ (S.size : Int) ≤ 0 ∨ bn S (0 : Int).toNat ≠ 34) := by
    rintro (h | h | h)
    · omega
    · omega
    · exact h b0
  obtain ⟨f, hf⟩ : ∃ f, S.size - (0 : Int).toNat = f + 2 := ⟨S.size - 2, by show S.size - 0 = _; omega⟩
  rw [unqU, if_neg hno, hf]
  show (match textR S (f + 1 + 1) 1 [] with | some (l, j) => ((⟨l.toArray⟩ : ByteArray), (j : Int), (0 : Int)) | none => (⟨#[]⟩, 0, 2)) = _
  have t1 : textR S (f + 1 + 1) 1 [] = some ((putU (v : Int)).data.toList, j + 1) := by
    rw [textR, if_pos (by omega), show bn S 1 = 92 from b1, if_neg (by decide), if_pos rfl, he, Option.bind_some]
    dsimp only
    rw [List.nil_append, textR, if_pos (by omega), if_pos (show bn S j = 34 from b3)]
  rw [t1]
  show ((⟨(putU (v : Int)).data.toList.toArray⟩ : ByteArray), ((j + 1 : Nat) : Int), (0 : Int)) = _
  rw [show j + 1 = m.length + 4 by omega]
theorem unq_half (S : ByteArray) (m : List UInt8) (hS : S.data.toList = 34 :: 92 :: 117 :: (m ++ [34])) (hp : pointR S 3 = none) : unqU S 0 = (⟨#[]⟩, 0, 2) := by
  have hsz : S.size = m.length + 4 := by rw [← data_length, hS]; simp
  have h0 : S.data.toList.drop 0 = 34 :: 92 :: 117 :: (m ++ [34]) := hS
  obtain ⟨a0, b0⟩ := bn_drop S 0 _ h0 0 (by simp)
  obtain ⟨a1, b1⟩ := bn_drop S 0 _ h0 1 (by simp)
  obtain ⟨a2, b2⟩ := bn_drop S 0 _ h0 2 (by simp)
  have he := esc_u_none S 2 (by omega) b2 hp
  rw [unqU]
  split
  · rfl
  · obtain ⟨f, hf⟩ : ∃ f, S.size - (0 : Int).toNat = f + 2 := ⟨S.size - 2, by show S.size - 0 = _; omega⟩
    rw [hf]
    have t1 : textR S (f + 1 + 1) 1 [] = none := by
      rw [textR, if_pos (by omega), show bn S 1 = 92 from b1, if_neg (by decide), if_pos rfl, he]
      rfl
    show (match textR S (f + 1 + 1) 1 [] with | some (l, j) => ((⟨l.toArray⟩ : ByteArray), (j : Int), (0 : Int)) | none => (⟨#[]⟩, 0, 2)) = _
    rw [t1]
theorem runes_bmp (S : ByteArray) (g : Bool) (c : Nat) (hc : c < 65536) (hn : c < 55296 ∨ 57343 < c) (hS : S.data.toList = 34 :: (hexS g c ++ [34])) : unqU S 0 = (putU (c : Int), 8, 0) := by
  have h3 : S.data.toList.drop 3 = hexG g (c / 4096 % 16) :: hexG g (c / 256 % 16) :: hexG g (c / 16 % 16) :: hexG g (c % 16) :: [34] := by rw [hS]; rfl
  have hf := four_at S 3 g c _ h3
  rw [Nat.mod_eq_of_lt hc] at hf
  exact unq_one S [hexG g (c / 4096 % 16), hexG g (c / 256 % 16), hexG g (c / 16 % 16), hexG g (c % 16)] hS c 7 rfl (by rw [pointR, hf, Option.bind_some, if_pos hn])
theorem runes_half07 (S : ByteArray) (g : Bool) (c : Nat) (hn : 55296 ≤ c ∧ c ≤ 57343) (hS : S.data.toList = 34 :: (hexS g c ++ [34])) : unqU S 0 = (⟨#[]⟩, 0, 2) := by
  have h3 : S.data.toList.drop 3 = hexG g (c / 4096 % 16) :: hexG g (c / 256 % 16) :: hexG g (c / 16 % 16) :: hexG g (c % 16) :: [34] := by rw [hS]; rfl
  have hf := four_at S 3 g c _ h3
  rw [Nat.mod_eq_of_lt (show c < 65536 by omega)] at hf
  have h7 : S.data.toList.drop 7 = [34] := by rw [hS]; rfl
  obtain ⟨a7, b7⟩ := bn_drop S 7 _ h7 0 (by simp)
  exact unq_half S [hexG g (c / 4096 % 16), hexG g (c / 256 % 16), hexG g (c / 16 % 16), hexG g (c % 16)] hS (by
    rw [pointR, hf, Option.bind_some, if_neg (by omega), if_neg (fun h => by
      have h1 : bn S 7 = 92 := h.2.1
      have h2 : bn S 7 = 34 := b7
      omega)])
set_option maxRecDepth 100000 in
theorem runes_pair (S : ByteArray) (g : Bool) (c : Nat) (h0 : 65536 ≤ c) (h1 : c ≤ 1114111) (hS : S.data.toList = 34 :: (hexS g (55296 + (c - 65536) / 1024) ++ hexS g (56320 + (c - 65536) % 1024) ++ [34])) : unqU S 0 = (putU (c : Int), 14, 0) := by
  have h3 : S.data.toList.drop 3 = hexG g ((55296 + (c - 65536) / 1024) / 4096 % 16) :: hexG g ((55296 + (c - 65536) / 1024) / 256 % 16) :: hexG g ((55296 + (c - 65536) / 1024) / 16 % 16) :: hexG g ((55296 + (c - 65536) / 1024) % 16) :: (hexS g (56320 + (c - 65536) % 1024) ++ [34]) := by rw [hS]; rfl
  have h9 : S.data.toList.drop 9 = hexG g ((56320 + (c - 65536) % 1024) / 4096 % 16) :: hexG g ((56320 + (c - 65536) % 1024) / 256 % 16) :: hexG g ((56320 + (c - 65536) % 1024) / 16 % 16) :: hexG g ((56320 + (c - 65536) % 1024) % 16) :: [34] := by rw [hS]; rfl
  have h7 : S.data.toList.drop 7 = 92 :: 117 :: hexG g ((56320 + (c - 65536) % 1024) / 4096 % 16) :: hexG g ((56320 + (c - 65536) % 1024) / 256 % 16) :: hexG g ((56320 + (c - 65536) % 1024) / 16 % 16) :: hexG g ((56320 + (c - 65536) % 1024) % 16) :: [34] := by rw [hS]; rfl
  have f3 := four_at S 3 g _ _ h3
  have f9 := four_at S 9 g _ _ h9
  rw [Nat.mod_eq_of_lt (by omega)] at f3 f9
  obtain ⟨a7, b7⟩ := bn_drop S 7 _ h7 0 (by simp)
  obtain ⟨a8, b8⟩ := bn_drop S 7 _ h7 1 (by simp)
  have hp : pointR S 3 = some (c, 13) := by
    rw [pointR, f3, Option.bind_some, if_neg (by omega), if_pos ⟨a7, b7, a8, b8⟩]
    show (fourR S 4 9 0).bind _ = _
    rw [f9, Option.bind_some, if_neg (by omega), show 65536 + (55296 + (c - 65536) / 1024 - 55296) * 1024 + (56320 + (c - 65536) % 1024 - 56320) = c by omega]
  have := unq_one S [hexG g ((55296 + (c - 65536) / 1024) / 4096 % 16), hexG g ((55296 + (c - 65536) / 1024) / 256 % 16), hexG g ((55296 + (c - 65536) / 1024) / 16 % 16), hexG g ((55296 + (c - 65536) / 1024) % 16), 92, 117,
    hexG g ((56320 + (c - 65536) % 1024) / 4096 % 16), hexG g ((56320 + (c - 65536) % 1024) / 256 % 16), hexG g ((56320 + (c - 65536) % 1024) / 16 % 16), hexG g ((56320 + (c - 65536) % 1024) % 16)] hS c 13 rfl hp
  exact this
end Go.Proofs.YtpamgedmgjfjjaaDoor.M
end
section
namespace Go.Proofs.YtpamgedmgjfjjaaDoor.M
open Go.RowKit Go.Proofs.YtpamgedmgjfjjaaDoorW.PrintWords Go.Proofs.YtpamgedmgjfjjaaDoorW.PrintLast Go.Proofs.YtpamgedmgjfjjaaDoorW.PrintMore
set_option linter.unusedVariables false
set_option linter.unusedSimpArgs false
theorem hex_c (c : Nat) (hc : c < 2147483648) (g : Bool) (w : World) : Calls Tryd.prog 44 #[.int .i32 (c : Int), .bool g] w fun e w' => e = .returned (.string ⟨(hexS g c).toArray⟩) ∧ Drawn0 w w' :=
  erratumlaw07_hex.calls 10 (c : Int) g _ w (hex_f c hc g)
theorem hexS_size (c : Nat) (g : Bool) : (⟨(hexS g c).toArray⟩ : ByteArray).size = 6 := rfl
set_option maxHeartbeats 4000000 in
set_option maxRecDepth 100000 in
theorem jrunes_low (r : Int) (great : Bool) (w : World) (hT : Tabs w) (hr : -2147483648 ≤ r ∧ r ≤ 2147483647) (c : Nat) (hc : erratumlaw00_Place.f r 1114112 = some (c : Int)) (h1 : c < 65536) :
    Calls Tryd.prog 13 #[.int .i32 r, .bool great] w fun e w' => e = .returned (.bool true) ∧ Below w.heap.size w w' := by
  have HW := Aside0.mk (fun w1 (h : Below w.heap.size w w1) => awake07_calls w1 (tabs_below hT h))
  have HP := Aside0.mk (erratumlaw00_Place.calls r 1114112 (c : Int) w hc)
  have HH := Aside0.mk (fun w1 => hex_c c (by omega) great w1)
  have hwr : IntKind.i32.wrap (c : Int) = (c : Int) := wraps_i32 _ (by omega) (by omega)
  have hw64 : IntKind.i64.wrap r = r := by rw [IntKind.wrap_i64]; omega
  have n1 : decide ((c : Int) ≥ 65536) = false := decide_eq_false (by omega)
  have hx6 := hexS_size c great
  obtain ⟨x, hx⟩ : ∃ x : ByteArray, (⟨(hexS great c).toArray⟩ : ByteArray) = x := ⟨_, rfl⟩
  have hxl : x.data.toList = hexS great c := by rw [← hx]
  rw [hx] at HH hx6
  have hS : ((⟨#[34]⟩ : ByteArray) ++ x ++ (⟨#[34]⟩ : ByteArray)).data.toList = 34 :: (hexS great c ++ [34]) := by rw [ba_append, ba_append, hxl]; simp
  have hsz : ((⟨#[34]⟩ : ByteArray) ++ x).size = 7 := by rw [ByteArray.size_append, hx6]; rfl
  have h40 := fun w1 (h : Below w.heap.size w w1) => unquote_calls ((⟨#[34]⟩ : ByteArray) ++ x ++ (⟨#[34]⟩ : ByteArray)) 0 w1 (tabs_below hT h) (by rw [ByteArray.size_append, hsz]; decide)
  by_cases hh : 55296 ≤ c ∧ c ≤ 57343
  · have n2 : decide ((c : Int) ≥ 55296) = true := decide_eq_true (by omega)
    have n3 : decide ((c : Int) ≤ 57343) = true := decide_eq_true (by omega)
    rw [runes_half07 _ great c hh hS] at h40
    have H40 := Aside0.mk h40
    clear hx hxl hS h40 hT hc
    go_enter Tryd.func13, Tryd.ntmps13
    go_wp2_with (first
      | (go_at_call 16; (with_reducible refine HP.out.mono ?_); rintro e w1 ⟨rfl, hd⟩; have HB1 := Aside0.mk hd.below; clear hd)
      | (go_at_call 44; (with_reducible refine (HH.out _).mono ?_); rintro e w2 ⟨rfl, hd⟩; have HB2 := Aside0.mk (below_step HB1.out hd.below); clear hd)
      | (go_at_call 40; (with_reducible refine (H40.out _ HB2.out).mono ?_); rintro e w3 ⟨rfl, hb⟩; have HB3 := Aside0.mk (below_step HB2.out hb); clear hb)
      | (go_at_call 39; (with_reducible refine (HW.out _ HB3.out).mono ?_); rintro e w4 ⟨rfl, hb⟩; have HB4 := Aside0.mk (below_step HB3.out hb); clear hb))
    go_ret
    exact ⟨rfl, HB4.out⟩
  · rw [runes_bmp _ great c h1 (by omega) hS] at h40
    have h28 := fun w1 => erratumref04_Put.calls 1 (c : Int) _ w1 (refPut_k (c : Int) 1 (Nat.le_refl _))
    generalize putU (c : Int) = t at *
    have H40 := Aside0.mk h40
    have H28 := Aside0.mk h28
    have hx6i : (x.size : Int) = 6 := by omega
    clear hx hxl hS h40 h28 hT hc
    by_cases g1 : 55296 ≤ c
    · have n2 : decide ((c : Int) ≥ 55296) = true := decide_eq_true (by omega)
      have n3 : decide ((c : Int) ≤ 57343) = false := decide_eq_false (by omega)
      go_enter Tryd.func13, Tryd.ntmps13
      go_wp2_with (first
        | (go_at_call 16; (with_reducible refine HP.out.mono ?_); rintro e w1 ⟨rfl, hd⟩; have HB1 := Aside0.mk hd.below; clear hd)
        | (go_at_call 44; (with_reducible refine (HH.out _).mono ?_); rintro e w2 ⟨rfl, hd⟩; have HB2 := Aside0.mk (below_step HB1.out hd.below); clear hd)
        | (go_at_call 40; (with_reducible refine (H40.out _ HB2.out).mono ?_); rintro e w3 ⟨rfl, hb⟩; have HB3 := Aside0.mk (below_step HB2.out hb); clear hb)
        | (go_at_call 28; (with_reducible refine (H28.out _).mono ?_); rintro e w4 ⟨rfl, hb⟩; have HB4 := Aside0.mk (below_step HB3.out hb); clear hb)
        | (go_at_call 39; (with_reducible refine (HW.out _ HB4.out).mono ?_); rintro e w5 ⟨rfl, hb⟩; have HB5 := Aside0.mk (below_step HB4.out hb); clear hb))
      go_ret
      exact ⟨rfl, HB5.out⟩
    · have n2 : decide ((c : Int) ≥ 55296) = false := decide_eq_false (by omega)
      go_enter Tryd.func13, Tryd.ntmps13
      go_wp2_with (first
        | (go_at_call 16; (with_reducible refine HP.out.mono ?_); rintro e w1 ⟨rfl, hd⟩; have HB1 := Aside0.mk hd.below; clear hd)
        | (go_at_call 44; (with_reducible refine (HH.out _).mono ?_); rintro e w2 ⟨rfl, hd⟩; have HB2 := Aside0.mk (below_step HB1.out hd.below); clear hd)
        | (go_at_call 40; (with_reducible refine (H40.out _ HB2.out).mono ?_); rintro e w3 ⟨rfl, hb⟩; have HB3 := Aside0.mk (below_step HB2.out hb); clear hb)
        | (go_at_call 28; (with_reducible refine (H28.out _).mono ?_); rintro e w4 ⟨rfl, hb⟩; have HB4 := Aside0.mk (below_step HB3.out hb); clear hb)
        | (go_at_call 39; (with_reducible refine (HW.out _ HB4.out).mono ?_); rintro e w5 ⟨rfl, hb⟩; have HB5 := Aside0.mk (below_step HB4.out hb); clear hb))
      go_ret
      exact ⟨rfl, HB5.out⟩
set_option maxHeartbeats 4000000 in
set_option maxRecDepth 100000 in
theorem jrunes_high (r : Int) (great : Bool) (w : World) (hT : Tabs w) (hr : -2147483648 ≤ r ∧ r ≤ 2147483647) (c : Nat) (hc : erratumlaw00_Place.f r 1114112 = some (c : Int)) (h0 : 65536 ≤ c) (h1 : c ≤ 1114111) :
    Calls Tryd.prog 13 #[.int .i32 r, .bool great] w fun e w' => e = .returned (.bool true) ∧ Below w.heap.size w w' := by
  have HW := Aside0.mk (fun w1 (h : Below w.heap.size w w1) => awake07_calls w1 (tabs_below hT h))
  have HP := Aside0.mk (erratumlaw00_Place.calls r 1114112 (c : Int) w hc)
  have HH := Aside0.mk (fun w1 => hex_c c (by omega) great w1)
  have HA := Aside0.mk (fun w1 => hex_c (55296 + (c - 65536) / 1024) (by omega) great w1)
  have HC := Aside0.mk (fun w1 => hex_c (56320 + (c - 65536) % 1024) (by omega) great w1)
  have hwr : IntKind.i32.wrap (c : Int) = (c : Int) := wraps_i32 _ (by omega) (by omega)
  have hw64 : IntKind.i64.wrap r = r := by rw [IntKind.wrap_i64]; omega
  have n1 : decide ((c : Int) ≥ 65536) = true := decide_eq_true (by omega)
  have n2 : decide ((c : Int) ≥ 55296) = true := decide_eq_true (by omega)
  have n3 : decide ((c : Int) ≤ 57343) = false := decide_eq_false (by omega)
  obtain ⟨x, hx⟩ : ∃ x : ByteArray, (⟨(hexS great (55296 + (c - 65536) / 1024)).toArray⟩ : ByteArray) = x := ⟨_, rfl⟩
  obtain ⟨y, hy⟩ : ∃ y : ByteArray, (⟨(hexS great (56320 + (c - 65536) % 1024)).toArray⟩ : ByteArray) = y := ⟨_, rfl⟩
  obtain ⟨z, hz⟩ : ∃ z : ByteArray, (⟨(hexS great c).toArray⟩ : ByteArray) = z := ⟨_, rfl⟩
  have hxl : x.data.toList = hexS great (55296 + (c - 65536) / 1024) := by rw [← hx]
  have hyl : y.data.toList = hexS great (56320 + (c - 65536) % 1024) := by rw [← hy]
  have hx6 : x.size = 6 := by rw [← hx]; rfl
  have hy6 : y.size = 6 := by rw [← hy]; rfl
  have hm : bits BinOp.and IntKind.i32 ((c : Int) - 65536) 1023 = ((c : Int) - 65536) % 1024 := i32_mask 10 (by decide) _ (by omega) (by omega) 1023 (by decide)
  rw [hx, show ((55296 + (c - 65536) / 1024 : Nat) : Int) = 55296 + ((c : Int) - 65536) / 1024 by omega] at HA
  rw [hy, show ((56320 + (c - 65536) % 1024 : Nat) : Int) = 56320 + ((c : Int) - 65536) % 1024 by omega] at HC
  rw [hz] at HH
  have hxy : (x ++ y).size = 12 := by rw [ByteArray.size_append]; omega
  have hS : ((⟨#[34]⟩ : ByteArray) ++ (x ++ y) ++ (⟨#[34]⟩ : ByteArray)).data.toList = 34 :: (hexS great (55296 + (c - 65536) / 1024) ++ hexS great (56320 + (c - 65536) % 1024) ++ [34]) := by rw [ba_append, ba_append, ba_append, hxl, hyl]; simp
  have hsz : ((⟨#[34]⟩ : ByteArray) ++ (x ++ y)).size = 13 := by rw [ByteArray.size_append, hxy]; rfl
  have h40 := fun w1 (h : Below w.heap.size w w1) => unquote_calls ((⟨#[34]⟩ : ByteArray) ++ (x ++ y) ++ (⟨#[34]⟩ : ByteArray)) 0 w1 (tabs_below hT h) (by rw [ByteArray.size_append, hsz]; decide)
  rw [runes_pair _ great c h0 h1 hS] at h40
  have h28 := fun w1 => erratumref04_Put.calls 1 (c : Int) _ w1 (refPut_k (c : Int) 1 (Nat.le_refl _))
  generalize putU (c : Int) = t at *
  have H40 := Aside0.mk h40
  have H28 := Aside0.mk h28
  clear hx hy hz hxl hyl hS h40 h28 hT hc
  go_enter Tryd.func13, Tryd.ntmps13
  go_wp2_with (first
    | (go_at_call 16; (with_reducible refine HP.out.mono ?_); rintro e w1 ⟨rfl, hd⟩; have HB1 := Aside0.mk hd.below; clear hd)
    | (go_at_call 44; (with_reducible refine (HH.out _).mono ?_); rintro e w2 ⟨rfl, hd⟩; have HB2 := Aside0.mk (below_step HB1.out hd.below); clear hd)
    | (go_at_call 44; (with_reducible refine (HA.out _).mono ?_); rintro e w3 ⟨rfl, hd⟩; have HB3 := Aside0.mk (below_step HB2.out hd.below); clear hd)
    | (go_at_call 44; (with_reducible refine (HC.out _).mono ?_); rintro e w4 ⟨rfl, hd⟩; have HB4 := Aside0.mk (below_step HB3.out hd.below); clear hd)
    | (go_at_call 40; (with_reducible refine (H40.out _ HB4.out).mono ?_); rintro e w5 ⟨rfl, hb⟩; have HB5 := Aside0.mk (below_step HB4.out hb); clear hb)
    | (go_at_call 28; (with_reducible refine (H28.out _).mono ?_); rintro e w6 ⟨rfl, hb⟩; have HB6 := Aside0.mk (below_step HB5.out hb); clear hb)
    | (go_at_call 39; (with_reducible refine (HW.out _ HB6.out).mono ?_); rintro e w7 ⟨rfl, hb⟩; have HB7 := Aside0.mk (below_step HB6.out hb); clear hb))
  go_ret
  exact ⟨rfl, HB7.out⟩
theorem jrunes_all (r : Int) (great : Bool) (w : World) (hT : Tabs w) (hr : -2147483648 ≤ r ∧ r ≤ 2147483647) :
    Calls Tryd.prog 13 #[.int .i32 r, .bool great] w fun e w' => e = .returned (.bool true) ∧ Below w.heap.size w w' := by
  obtain ⟨k, hk, hk0, hk1⟩ := xplace_w r 1114112 (by omega) (by omega)
  obtain ⟨c, rfl⟩ := Int.eq_ofNat_of_zero_le hk0
  by_cases h : c < 65536
  · exact jrunes_low r great w hT hr c hk h
  · exact jrunes_high r great w hT hr c hk (by omega) (by omega)
end Go.Proofs.YtpamgedmgjfjjaaDoor.M
end
