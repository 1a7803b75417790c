/- Texts of this claim, bound together: what the functions that it reaches compute, with the contracts of their calls (PBytes, HAppL, PRef6, HShort, HPrefs, HOpenW). -/
import Derived.Laws.BitsAllLaws
import Derived.ChangeArms
import Derived.DataReads
import Derived.Test.YtngcljmjcbaidaaGreatDoorU6
set_option linter.unusedVariables false
set_option linter.unusedSimpArgs false
section
/- The plain law of the byte forms of values. -/
namespace Go.Proofs.YtngcljmjcbaidaaGreatDoor.H
open Go.RowKit Go.Proofs.YtngcljmjcbaidaaGreatDoor.A Go.Proofs.YtngcljmjcbaidaaGreatDoor.C Go.Proofs.YtngcljmjcbaidaaGreatDoor.D Go.Proofs.YtngcljmjcbaidaaGreatDoor.T Go.Proofs.YtngcljmjcbaidaaGreatDoorW.PrintWords Go.Proofs.YtngcljmjcbaidaaGreatDoorW.PrintLast Go.Proofs.YtngcljmjcbaidaaGreatDoorW.PrintMore
set_option linter.unusedVariables false
set_option linter.unusedSimpArgs false

/-- All are bytes. -/
def U8 (l : List Int) : Prop := ∀ x ∈ l, 0 ≤ x ∧ x < 256
theorem or_add (u y k : Nat) (h : u < 2 ^ k) : u ||| (y * 2 ^ k) = u + y * 2 ^ k := by
  rw [Nat.or_comm, Nat.mul_comm, ← Nat.two_pow_add_eq_or_of_lt h y, Nat.add_comm]
theorem rdU_eq (u x i : Nat) (hu : u < 2 ^ (7 * i)) (hx : x < 256) (hb : u + x % 128 * 2 ^ (7 * i) < 2 ^ 64) : rdU (u : Int) (x : Int) i = ((u + x % 128 * 2 ^ (7 * i) : Nat) : Int) := by
  unfold rdU
  have e1 : bits BinOp.and IntKind.u8 (x : Int) 127 = ((x % 128 : Nat) : Int) := by
    have := u8_and_nat x 127 hx (by decide)
    rw [show (127 : Int) = ((127 : Nat) : Int) from rfl, this, show 127 = 2 ^ 7 - 1 from rfl, Nat.and_two_pow_sub_one_eq_mod]
  have e2 : IntKind.u64.wrap ((x % 128 : Nat) : Int) = ((x % 128 : Nat) : Int) := by rw [IntKind.wrap_u64]; omega
  rw [e1, e2, show ((x % 128 : Nat) : Int) * 2 ^ (7 * i) = ((x % 128 * 2 ^ (7 * i) : Nat) : Int) by rw [Int.natCast_mul, Int.natCast_pow]; rfl]
  have e3 := or_add u (x % 128) (7 * i) hu
  generalize x % 128 * 2 ^ (7 * i) = y at *
  rw [IntKind.wrap_u64, Int.emod_eq_of_lt (by omega) (by omega), u64_or_nat u y (by omega) (by omega), e3]
theorem pow7 (i : Nat) : 2 ^ (7 * (i + 1)) = 128 * 2 ^ (7 * i) := by rw [Nat.mul_add, Nat.pow_add, Nat.mul_comm]
theorem rdL_c (i : Nat) (u x : Int) (t : List Int) : rdL i u (x :: t) = if i = 9 ∧ 1 < x then (0, [], 5) else if x < 128 then (if x = 0 ∧ 0 < i then (0, [], 5) else (rdU u x i, t, 0)) else rdL (i + 1) (rdU u x i) t := rfl
theorem pow_rest {i : Nat} (h : i ≤ 8) : 2 ^ (64 - 7 * i) = 128 * 2 ^ (64 - 7 * (i + 1)) := by
  rw [show 64 - 7 * i = 7 + (64 - 7 * (i + 1)) by omega, Nat.pow_add]
theorem two9 {n : Nat} (h : n < 2 ^ (64 - 7 * 9)) : n < 2 := h
theorem fits7 {i n u : Nat} (hi : i ≤ 9) (hu : u < 2 ^ (7 * i)) (hn : n < 2 ^ (64 - 7 * i)) : u + n * 2 ^ (7 * i) < 2 ^ 64 := by
  have hp : 2 ^ (64 - 7 * i) * 2 ^ (7 * i) = 2 ^ 64 := by rw [← Nat.pow_add]; congr 1; omega
  have hm : (n + 1) * 2 ^ (7 * i) ≤ 2 ^ 64 := by rw [← hp]; exact Nat.mul_le_mul_right _ hn
  rw [Nat.succ_mul] at hm
  omega
theorem rd_vb : ∀ (k i u n : Nat) (t : List Int), k + i = 10 → u < 2 ^ (7 * i) → n < 2 ^ (64 - 7 * i) → (i = 0 ∨ n ≠ 0) → rdL i (u : Int) (vbL k n ++ t) = (((u + n * 2 ^ (7 * i) : Nat) : Int), t, 0)
  | 0, i, u, n, t, hk, hu, hn, h0 => by
    obtain rfl : i = 10 := by omega
    have : n < 1 := hn
    omega
  | k + 1, i, u, n, t, hk, hu, hn, h0 => by
    have hi : i ≤ 9 := by omega
    have hf := fits7 hi hu hn
    unfold vbL
    by_cases h : 127 < n
    · have hi8 : i ≤ 8 := by
        rcases Nat.lt_or_ge i 9 with h9 | h9
        · omega
        · obtain rfl : i = 9 := by omega
          have := two9 hn
          omega
      have hmul : n % 128 * 2 ^ (7 * i) ≤ n * 2 ^ (7 * i) := Nat.mul_le_mul_right _ (Nat.mod_le _ _)
      have hmul2 : n % 128 * 2 ^ (7 * i) ≤ 127 * 2 ^ (7 * i) := Nat.mul_le_mul_right _ (by omega)
      have e : rdU (u : Int) ((128 + n % 128 : Nat) : Int) i = ((u + n % 128 * 2 ^ (7 * i) : Nat) : Int) := by
        have := rdU_eq u (128 + n % 128) i hu (by omega) (by rw [show (128 + n % 128) % 128 = n % 128 by omega]; omega)
        rw [this, show (128 + n % 128) % 128 = n % 128 by omega]
      rw [if_pos h, List.cons_append, rdL_c, if_neg (by omega), if_neg (by omega), e, rd_vb k (i + 1) (u + n % 128 * 2 ^ (7 * i)) (n / 128) t (by omega) (by rw [pow7]; omega) (by rw [pow_rest hi8] at hn; omega) (.inr (by omega))]
      have hsum : u + n % 128 * 2 ^ (7 * i) + n / 128 * 2 ^ (7 * (i + 1)) = u + n * 2 ^ (7 * i) := by
        have hn2 : n = 128 * (n / 128) + n % 128 := by omega
        have hx : n * 2 ^ (7 * i) = n / 128 * (128 * 2 ^ (7 * i)) + n % 128 * 2 ^ (7 * i) := by
          conv => lhs; rw [hn2]
          rw [Nat.add_mul, Nat.mul_comm 128, Nat.mul_assoc]
        rw [pow7, hx]
        omega
      rw [hsum]
    · have e : rdU (u : Int) (n : Int) i = ((u + n * 2 ^ (7 * i) : Nat) : Int) := by
        have := rdU_eq u n i hu (by omega) (by rw [show n % 128 = n by omega]; exact hf)
        rw [this, show n % 128 = n by omega]
      rw [if_neg h, List.singleton_append, rdL_c, if_neg, if_pos (by omega), if_neg (by omega), e]
      rintro ⟨rfl, h1⟩
      have := two9 hn
      omega
theorem rd_back : ∀ (l : List Int) (i u : Nat) (r : Int) (t : List Int), U8 l → i ≤ 9 → u < 2 ^ (7 * i) → rdL i (u : Int) l = (r, t, 0) → ∃ n : Nat, r = ((u + n * 2 ^ (7 * i) : Nat) : Int) ∧ n < 2 ^ (64 - 7 * i) ∧ (i = 0 ∨ n ≠ 0) ∧ l = vbL (10 - i) n ++ t
  | [], i, u, r, t, _, _, _, h => by cases h
  | x :: l, i, u, r, t, hl, hi, hu, h => by
    obtain ⟨⟨x0, x1⟩, hl'⟩ := List.forall_mem_cons.1 hl
    obtain ⟨x, rfl⟩ := Int.eq_ofNat_of_zero_le x0
    rw [rdL_c] at h
    split at h
    · cases h
    · rename_i h1
      split at h
      · rename_i h2
        split at h
        · cases h
        · rename_i h3
          obtain ⟨e1, e2⟩ := Prod.mk.inj h
          obtain ⟨e2, _⟩ := Prod.mk.inj e2
          subst e1 e2
          have hn : x < 2 ^ (64 - 7 * i) := by
            rcases Nat.lt_or_ge i 9 with h9 | h9
            · have : 2 ^ 8 ≤ 2 ^ (64 - 7 * i) := Nat.pow_le_pow_right (by decide) (by omega)
              omega
            · obtain rfl : i = 9 := by omega
              have : x < 2 := by omega
              exact this
          have hm : x % 128 = x := by omega
          refine ⟨x, ?_, hn, by omega, ?_⟩
          · have := rdU_eq u x i hu (by omega) (by rw [hm]; exact fits7 hi hu hn)
            rw [this, hm]
          · rw [show 10 - i = (9 - i) + 1 by omega]
            unfold vbL
            rw [if_neg (by omega)]
            rfl
      · rename_i h2
        have hi8 : i ≤ 8 := by
          rcases Nat.lt_or_ge i 9 with h9 | h9
          · omega
          · exact absurd ⟨by omega, by omega⟩ h1
        have hP : 0 < 2 ^ (7 * i) := Nat.pow_pos (by decide)
        have hmul2 : x % 128 * 2 ^ (7 * i) ≤ 127 * 2 ^ (7 * i) := Nat.mul_le_mul_right _ (by omega)
        have hb : u + x % 128 * 2 ^ (7 * i) < 2 ^ 64 := by
          have : 2 ^ (7 * (i + 1)) ≤ 2 ^ 63 := Nat.pow_le_pow_right (by decide) (by omega)
          rw [pow7] at this
          omega
        rw [rdU_eq u x i hu (by omega) hb] at h
        obtain ⟨n, e1, e2, e3, e4⟩ := rd_back l (i + 1) (u + x % 128 * 2 ^ (7 * i)) r t hl' (by omega) (by rw [pow7]; omega) h
        have hn0 : n ≠ 0 := by omega
        refine ⟨x % 128 + 128 * n, ?_, by rw [pow_rest hi8]; omega, by omega, ?_⟩
        · rw [e1, pow7, Nat.add_mul, show 128 * n * 2 ^ (7 * i) = n * (128 * 2 ^ (7 * i)) by rw [Nat.mul_comm 128 n, Nat.mul_assoc], Nat.add_assoc]
        · rw [show 10 - i = (10 - (i + 1)) + 1 by omega]
          rw [vbL, if_pos (by omega), show (x % 128 + 128 * n) % 128 = x % 128 by omega, show (x % 128 + 128 * n) / 128 = n by omega, show 128 + x % 128 = x by omega, List.cons_append, ← e4]
theorem rd_pre : ∀ (k i : Nat) (u : Int) (n j : Nat), k + i = 10 → n < 2 ^ (64 - 7 * i) → j < (vbL k n).length → rdL i u ((vbL k n).take j) = (0, [], 7)
  | 0, i, u, n, j, _, _, h => by simp [vbL] at h
  | k + 1, i, u, n, j, hk, hn, h => by
    unfold vbL at h ⊢
    by_cases h1 : 127 < n
    · have hi8 : i ≤ 8 := by
        rcases Nat.lt_or_ge i 9 with h9 | h9
        · omega
        · obtain rfl : i = 9 := by omega
          have := two9 hn
          omega
      rw [if_pos h1] at h ⊢
      cases j with
      | zero => rfl
      | succ j =>
        rw [List.take_succ_cons, rdL_c, if_neg (by omega), if_neg (by omega)]
        exact rd_pre k (i + 1) _ (n / 128) j (by omega) (by rw [pow_rest hi8] at hn; omega) (by simpa using h)
    · rw [if_neg h1] at h ⊢
      have : j = 0 := by simp at h; omega
      subst this
      rfl
theorem rd0 (n : Nat) (h : n < 2 ^ 64) (t : List Int) : rdL 0 0 (vbL 10 n ++ t) = ((n : Int), t, 0) := by
  have := rd_vb 10 0 0 n t rfl (by decide) h (.inl rfl)
  simpa using this
theorem rd0_back {l : List Int} {r : Int} {t : List Int} (hl : U8 l) (h : rdL 0 0 l = (r, t, 0)) : ∃ n : Nat, r = (n : Int) ∧ n < 2 ^ 64 ∧ l = vbL 10 n ++ t := by
  obtain ⟨n, e1, e2, _, e4⟩ := rd_back l 0 0 r t hl (by decide) (by decide) h
  exact ⟨n, by simpa using e1, e2, e4⟩
theorem rd0_pre {n j : Nat} (hn : n < 2 ^ 64) (h : j < (vbL 10 n).length) : rdL 0 0 ((vbL 10 n).take j) = (0, [], 7) := rd_pre 10 0 0 n j rfl hn h

/-! ## Zigzag -/
theorem xor_ones64 (a : Nat) (ha : a < 18446744073709551616) : bits BinOp.xor IntKind.u64 (a : Int) 18446744073709551615 = ((18446744073709551615 - a : Nat) : Int) := by
  have := u64_xor_nat a 18446744073709551615 ha (by decide)
  rw [show (18446744073709551615 : Int) = ((18446744073709551615 : Nat) : Int) from rfl, this]
  congr 1
  have h := congrArg BitVec.toNat (BitVec.xor_allOnes (x := BitVec.ofNat 64 a))
  rw [BitVec.toNat_xor, BitVec.toNat_not, BitVec.toNat_allOnes, BitVec.toNat_ofNat, Nat.mod_eq_of_lt ha] at h
  exact h
theorem zig_eq {I : Int} (h0 : -9223372036854775808 ≤ I) (h1 : I ≤ 9223372036854775807) : bitpack_Zigzag.f I = some (if 0 ≤ I then 2 * I else -2 * I - 1) := by
  show some (bits BinOp.xor IntKind.u64 (IntKind.u64.wrap ((IntKind.u64.wrap I) * 2)) (IntKind.u64.wrap (I / 9223372036854775808))) = _
  congr 1
  simp only [IntKind.wrap_u64]
  by_cases h : 0 ≤ I
  · rw [if_pos h]
    obtain ⟨n, hn⟩ := Int.eq_ofNat_of_zero_le (show 0 ≤ (I % 18446744073709551616 * 2) % 18446744073709551616 by omega)
    rw [hn, show I / 9223372036854775808 % 18446744073709551616 = ((0 : Nat) : Int) by omega, u64_xor_nat n 0 (by omega) (by decide), Nat.xor_zero]
    omega
  · rw [if_neg h]
    obtain ⟨n, hn⟩ := Int.eq_ofNat_of_zero_le (show 0 ≤ (I % 18446744073709551616 * 2) % 18446744073709551616 by omega)
    rw [hn, show I / 9223372036854775808 % 18446744073709551616 = 18446744073709551615 by omega, xor_ones64 n (by omega)]
    omega
theorem xor_i64_zero (a : Nat) (ha : a < 9223372036854775808) : bits BinOp.xor IntKind.i64 (a : Int) 0 = (a : Int) := by
  show IntKind.i64.wrap ((BitVec.ofInt 64 (a : Int) ^^^ BitVec.ofInt 64 0).toNat : Int) = _
  have e : (BitVec.ofInt 64 (a : Int)).toNat = a := by rw [BitVec.toNat_ofInt]; omega
  rw [BitVec.toNat_xor, e, show (BitVec.ofInt 64 0).toNat = 0 by decide, Nat.xor_zero, IntKind.wrap_i64]
  omega
theorem xor_i64_ones (a : Nat) (ha : a < 9223372036854775808) : bits BinOp.xor IntKind.i64 (a : Int) (-1) = -(a : Int) - 1 := by
  show IntKind.i64.wrap ((BitVec.ofInt 64 (a : Int) ^^^ BitVec.ofInt 64 (-1)).toNat : Int) = _
  have e : (BitVec.ofInt 64 (a : Int)).toNat = a := by rw [BitVec.toNat_ofInt]; omega
  rw [show BitVec.ofInt 64 (-1) = BitVec.allOnes 64 by decide, BitVec.xor_allOnes, BitVec.toNat_not, e, IntKind.wrap_i64]
  omega
theorem unz_eq (u : Nat) (hu : u < 18446744073709551616) : unz (u : Int) = if u % 2 = 0 then ((u / 2 : Nat) : Int) else -((u / 2 : Nat) : Int) - 1 := by
  unfold unz
  have e1 : bits BinOp.and IntKind.u64 (u : Int) 1 = ((u % 2 : Nat) : Int) := by
    have := u64_and_nat u 1 hu (by decide)
    rw [show (1 : Int) = ((1 : Nat) : Int) from rfl, this, show 1 = 2 ^ 1 - 1 from rfl, Nat.and_two_pow_sub_one_eq_mod]
  have e2 : wrap64 ((u : Int) / 2) = ((u / 2 : Nat) : Int) := by unfold wrap64; omega
  rw [e1, e2]
  by_cases h : u % 2 = 0
  · rw [if_pos h, h, show wrap64 (-(wrap64 ((0 : Nat) : Int))) = 0 by decide +kernel]
    exact xor_i64_zero _ (by omega)
  · rw [if_neg h, show u % 2 = 1 by omega, show wrap64 (-(wrap64 ((1 : Nat) : Int))) = -1 by decide +kernel]
    exact xor_i64_ones _ (by omega)

/-! ## Values -/
def apV (x : S28) : List Int := apL x.f0 x.f1 x.f2
/-- A wide value of the size of a machine's integers. -/
def WideV (x : S28) : Prop := wwB x.f0 x.f1 x.f2 = true ∧ -9223372036854775808 ≤ x.f1 ∧ x.f1 ≤ 9223372036854775807
theorem valE_ok {m : VV} (h : m.2.2 = 0) (hw : wwB m.1.1 m.1.2.1 m.1.2.2 = true) : valE m = some m := by
  unfold valE
  rw [if_neg (by rw [h]; decide), ww_f, hw, Option.bind_some, if_pos rfl]
theorem valE_err {m : VV} (h : m.2.2 ≠ 0) : valE m = some (zv, [], m.2.2) := by unfold valE; rw [if_pos h]
theorem valE_total (m : VV) : (m.2.2 = 0 ∧ wwB m.1.1 m.1.2.1 m.1.2.2 = true ∧ valE m = some m) ∨ ∃ e, e ≠ 0 ∧ valE m = some (zv, [], e) := by
  by_cases h : m.2.2 = 0
  · cases hw : wwB m.1.1 m.1.2.1 m.1.2.2 with
    | true => exact .inl ⟨h, rfl, valE_ok h hw⟩
    | false =>
      refine .inr ⟨5, by decide, ?_⟩
      unfold valE
      rw [if_neg (by rw [h]; decide), ww_f, hw, Option.bind_some, if_neg (by decide)]
  · exact .inr ⟨_, h, valE_err h⟩
theorem str_bytes (S : ByteArray) : strOfNums (Reg.bytesOf S) = S := by
  unfold strOfNums Reg.bytesOf
  have e : (S.data.toList.map fun b => (b.toNat : Int)).map (fun n => UInt8.ofNat n.toNat) = S.data.toList := by
    rw [List.map_map]
    conv => rhs; rw [← List.map_id S.data.toList]
    apply List.map_congr_left
    intro b _
    simp
  rw [e, arr_data]
theorem bytes_str {l : List Int} (h : U8 l) : Reg.bytesOf (strOfNums l) = l := by
  unfold strOfNums Reg.bytesOf
  show ((l.map fun n => UInt8.ofNat n.toNat).toArray.toList.map fun b => (b.toNat : Int)) = l
  rw [List.map_map]
  conv => rhs; rw [← List.map_id l]
  apply List.map_congr_left
  intro x hx
  have := h x hx
  simp
  omega
theorem bytes_len (S : ByteArray) : (Reg.bytesOf S).length = S.size := by
  unfold Reg.bytesOf
  rw [List.length_map]
  exact Array.length_toList
theorem bytes_u8 (S : ByteArray) : U8 (Reg.bytesOf S) := by
  intro x hx
  unfold Reg.bytesOf at hx
  obtain ⟨b, _, rfl⟩ := List.mem_map.1 hx
  have := b.toNat_lt
  omega
theorem zig_nat {I : Int} (h0 : -9223372036854775808 ≤ I) (h1 : I ≤ 9223372036854775807) : ∃ z : Nat, bitpack_Zigzag.f I = some (z : Int) ∧ z < 18446744073709551616 ∧ unz (z : Int) = I := by
  rw [zig_eq h0 h1]
  by_cases h : 0 ≤ I
  · refine ⟨(2 * I).toNat, by rw [if_pos h]; congr 1; omega, by omega, ?_⟩
    rw [unz_eq _ (by omega), if_pos (by omega)]
    omega
  · refine ⟨(-2 * I - 1).toNat, by rw [if_neg h]; congr 1; omega, by omega, ?_⟩
    rw [unz_eq _ (by omega), if_neg (by omega)]
    omega
theorem zig_unz (u : Nat) (hu : u < 18446744073709551616) : bitpack_Zigzag.f (unz (u : Int)) = some (u : Int) ∧ -9223372036854775808 ≤ unz (u : Int) ∧ unz (u : Int) ≤ 9223372036854775807 := by
  rw [unz_eq u hu]
  split
  · refine ⟨?_, by omega, by omega⟩
    rw [zig_eq (by omega) (by omega), if_pos (by omega)]
    congr 1
    omega
  · refine ⟨?_, by omega, by omega⟩
    rw [zig_eq (by omega) (by omega), if_neg (by omega)]
    congr 1
    omega
theorem apL_0 : apL 0 0 ⟨#[]⟩ = [0] := by decide +kernel
theorem apL_1a : apL 1 0 ⟨#[]⟩ = [1, 0] := by decide +kernel
theorem apL_1b : apL 1 1 ⟨#[]⟩ = [1, 1] := by decide +kernel
theorem apL_2 {I : Int} {z : Nat} (h : bitpack_Zigzag.f I = some (z : Int)) : apL 2 I ⟨#[]⟩ = 2 :: vbL 10 z := by
  unfold apL
  rw [if_neg (by decide), if_pos rfl, h]
  simp
theorem apL_3 (S : ByteArray) : apL 3 0 S = 3 :: (vbL 10 S.size ++ Reg.bytesOf S) := by
  unfold apL
  rw [if_neg (by decide), if_neg (by decide), if_pos rfl]
  rfl
theorem val_ap {x : S28} (h : WideV x) (t : List Int) : valL (apV x ++ t) = some ((x.f0, x.f1, x.f2), t, 0) := by
  obtain ⟨K, I, S⟩ := x
  obtain ⟨hw, h0, h1⟩ := h
  dsimp only at hw h0 h1
  unfold apV
  dsimp only
  rcases ck_cases h0 h1 (.inr rfl) hw with ⟨rfl, rfl, rfl⟩ | ⟨rfl, rfl | rfl, rfl⟩ | ⟨rfl, a, b, rfl⟩ | ⟨rfl, rfl, a, b⟩
  · rw [apL_0]
    exact valE_ok (m := ((0, 0, ⟨#[]⟩), t, 0)) rfl hw
  · rw [apL_1a]
    exact valE_ok (m := ((1, 0, ⟨#[]⟩), t, 0)) rfl hw
  · rw [apL_1b]
    exact valE_ok (m := ((1, 1, ⟨#[]⟩), t, 0)) rfl hw
  · obtain ⟨z, hz, hz2, hz3⟩ := zig_nat h0 h1
    rw [apL_2 hz, List.cons_append]
    show valE (valM 2 (vbL 10 z ++ t)) = _
    unfold valM
    rw [if_neg (by decide), if_neg (by decide), if_pos rfl, rd0 z hz2, hz3]
    exact valE_ok rfl hw
  · rw [apL_3, List.cons_append, List.append_assoc]
    show valE (valM 3 (vbL 10 S.size ++ (Reg.bytesOf S ++ t))) = _
    unfold valM
    have e : txtL (vbL 10 S.size ++ (Reg.bytesOf S ++ t)) = (S, t, 0) := by
      unfold txtL
      rw [rd0 S.size (by omega)]
      dsimp only
      have hl := bytes_len S
      rw [if_neg (by decide), if_neg (by omega), if_neg (by rw [List.length_append]; omega), show ((S.size : Int)).toNat = (Reg.bytesOf S).length by omega, List.take_left, List.drop_left, str_bytes]
    rw [if_neg (by decide), if_neg (by decide), if_neg (by decide), if_pos rfl, e]
    exact valE_ok rfl hw
theorem U8.drop {l m : List Int} (h : U8 (l ++ m)) : U8 m := fun x hx => h x (List.mem_append_right _ hx)
theorem U8.left {l m : List Int} (h : U8 (l ++ m)) : U8 l := fun x hx => h x (List.mem_append_left _ hx)
theorem val_back {l : List Int} (hl : U8 l) : (∃ x t, valL l = some ((x.f0, x.f1, x.f2), t, 0) ∧ WideV x ∧ l = apV x ++ t) ∨ ∃ e, e ≠ 0 ∧ valL l = some (zv, [], e) := by
  cases l with
  | nil => exact .inr ⟨7, by decide, rfl⟩
  | cons x t =>
    obtain ⟨⟨x0, x1⟩, ht⟩ := List.forall_mem_cons.1 hl
    have hx : IntKind.i64.wrap x = x := by rw [IntKind.wrap_i64]; omega
    have hv : valL (x :: t) = valE (valM x t) := by show valE (valM (IntKind.i64.wrap x) t) = _; rw [hx]
    rw [hv]
    rcases valE_total (valM x t) with ⟨h2, hw, he⟩ | h
    · refine .inl ?_
      rw [he]
      clear he hv
      unfold valM at h2 hw ⊢
      by_cases k0 : x = 0
      · subst k0
        rw [if_pos rfl] at h2 hw ⊢
        exact ⟨⟨0, 0, ⟨#[]⟩⟩, t, rfl, ⟨hw, by decide, by decide⟩, by unfold apV; rw [apL_0]; rfl⟩
      · rw [if_neg k0] at h2 hw ⊢
        by_cases k1 : x = 1
        · subst k1
          rw [if_pos rfl] at h2 hw ⊢
          cases t with
          | nil => exact absurd h2 (by decide)
          | cons y t' =>
            obtain ⟨⟨y0, y1⟩, ht'⟩ := List.forall_mem_cons.1 ht
            have hy : IntKind.i64.wrap y = y := by rw [IntKind.wrap_i64]; omega
            dsimp only at h2 hw ⊢
            rw [hy] at hw ⊢
            refine ⟨⟨1, y, ⟨#[]⟩⟩, t', rfl, ⟨hw, by show -9223372036854775808 ≤ y; omega, by show y ≤ 9223372036854775807; omega⟩, ?_⟩
            unfold apV apL
            rw [if_pos rfl, show y % 256 = y by omega]
            rfl
        · rw [if_neg k1] at h2 hw ⊢
          by_cases k2 : x = 2
          · subst k2
            rw [if_pos rfl] at h2 hw ⊢
            dsimp only at h2 hw ⊢
            obtain ⟨n, e1, e2, e3⟩ := rd0_back (r := (rdL 0 0 t).1) (t := (rdL 0 0 t).2.1) ht (Prod.ext rfl (Prod.ext rfl h2))
            generalize rdL 0 0 t = R at *
            rw [e1] at hw ⊢
            obtain ⟨z1, z2, z3⟩ := zig_unz n e2
            refine ⟨⟨2, unz (n : Int), ⟨#[]⟩⟩, R.2.1, by rw [h2], ⟨hw, z2, z3⟩, ?_⟩
            unfold apV
            rw [apL_2 z1, List.cons_append, ← e3]
          · rw [if_neg k2] at h2 hw ⊢
            by_cases k3 : x = 3
            · subst k3
              rw [if_pos rfl] at h2 hw ⊢
              dsimp only at h2 hw ⊢
              unfold txtL at h2 hw ⊢
              dsimp only at h2 hw ⊢
              by_cases c1 : (rdL 0 0 t).2.2 = 0
              · rw [if_neg (by rw [c1]; decide)] at h2 hw ⊢
                obtain ⟨n, e1, e2, e3⟩ := rd0_back (r := (rdL 0 0 t).1) (t := (rdL 0 0 t).2.1) ht (Prod.ext rfl (Prod.ext rfl c1))
                have hu2 : U8 (rdL 0 0 t).2.1 := by rw [e3] at ht; exact U8.drop (show U8 _ from ht)
                generalize rdL 0 0 t = R at *
                by_cases c2 : 40 < R.1
                · rw [if_pos c2] at h2; exact absurd h2 (by decide)
                · rw [if_neg c2] at h2 hw ⊢
                  by_cases c3 : (R.2.1.length : Int) < R.1
                  · rw [if_pos c3] at h2; exact absurd h2 (by decide)
                  · rw [if_neg c3] at h2 hw ⊢
                    rw [e1] at c3 hw ⊢
                    dsimp only at hw ⊢
                    rw [Int.toNat_natCast] at hw ⊢
                    have hu3 : U8 (R.2.1.take n) := U8.left (m := R.2.1.drop n) (by rw [List.take_append_drop]; exact hu2)
                    have hb := bytes_str hu3
                    refine ⟨⟨3, 0, strOfNums (R.2.1.take n)⟩, R.2.1.drop n, rfl, ⟨hw, by show (-9223372036854775808 : Int) ≤ 0; decide, by show (0 : Int) ≤ 9223372036854775807; decide⟩, ?_⟩
                    have hs : (strOfNums (R.2.1.take n)).size = n := by rw [← bytes_len, hb, List.length_take]; omega
                    unfold apV
                    dsimp only
                    rw [apL_3, hs, hb, List.cons_append, List.append_assoc, List.take_append_drop, ← e3]
              · rw [if_pos c1] at h2
                exact absurd h2 c1
            · rw [if_neg k3] at h2
              exact absurd (show (5 : Int) = 0 from h2) (by decide)
    · exact .inr h
theorem val_pre {x : S28} (h : WideV x) {j : Nat} (hj : j < (apV x).length) : valL ((apV x).take j) = some (zv, [], 7) := by
  obtain ⟨K, I, S⟩ := x
  obtain ⟨hw, h0, h1⟩ := h
  dsimp only at hw h0 h1
  unfold apV at hj ⊢
  dsimp only at hj ⊢
  cases j with
  | zero => rfl
  | succ j =>
    rcases ck_cases h0 h1 (.inr rfl) hw with ⟨rfl, rfl, rfl⟩ | ⟨rfl, rfl | rfl, rfl⟩ | ⟨rfl, a, b, rfl⟩ | ⟨rfl, rfl, a, b⟩
    · rw [apL_0] at hj
      simp at hj
    · rw [apL_1a] at hj ⊢
      have : j = 0 := by simp at hj; omega
      subst this
      exact valE_err (m := (zv, [], 7)) (by decide)
    · rw [apL_1b] at hj ⊢
      have : j = 0 := by simp at hj; omega
      subst this
      exact valE_err (m := (zv, [], 7)) (by decide)
    · obtain ⟨z, hz, hz2, hz3⟩ := zig_nat h0 h1
      rw [apL_2 hz] at hj ⊢
      rw [List.take_succ_cons]
      show valE (valM 2 ((vbL 10 z).take j)) = _
      unfold valM
      rw [if_neg (by decide), if_neg (by decide), if_pos rfl, rd0_pre hz2 (by simpa using hj)]
      exact valE_err (by decide)
    · rw [apL_3] at hj ⊢
      rw [List.take_succ_cons]
      show valE (valM 3 ((vbL 10 S.size ++ Reg.bytesOf S).take j)) = _
      unfold valM
      have e : txtL ((vbL 10 S.size ++ Reg.bytesOf S).take j) = (⟨#[]⟩, [], 7) := by
        unfold txtL
        by_cases hj2 : j < (vbL 10 S.size).length
        · rw [List.take_append_of_le_length (by omega), rd0_pre (by omega) hj2]
          dsimp only
          rw [if_pos (by decide)]
        · have hl := bytes_len S
          rw [List.length_cons, List.length_append] at hj
          obtain ⟨j', rfl⟩ : ∃ j', j = (vbL 10 S.size).length + j' := ⟨j - (vbL 10 S.size).length, by omega⟩
          rw [List.take_length_add_append, rd0 S.size (by omega)]
          dsimp only
          rw [if_neg (by decide), if_neg (by omega), if_pos (by rw [List.length_take]; omega)]
      rw [if_neg (by decide), if_neg (by decide), if_neg (by decide), if_pos rfl, e]
      exact valE_err (by decide)

/-! ## Lists -/
def flV (l : List S28) : List Int := l.flatMap apV
theorem flV_cons (x : S28) (l : List S28) : flV (x :: l) = apV x ++ flV l := rfl
theorem apV_ne (x : S28) : apV x ≠ [] := by unfold apV apL; simp
theorem lstA_ap : ∀ (l : List S28) (acc : List S28) (t : List Int), (∀ x ∈ l, WideV x) → lstA l.length acc (flV l ++ t) = some (acc ++ l, t, 0)
  | [], acc, t, _ => by simp [lstA, flV]
  | x :: l, acc, t, h => by
    obtain ⟨hx, hl⟩ := List.forall_mem_cons.1 h
    show (valL (flV (x :: l) ++ t)).bind _ = _
    rw [flV_cons, List.append_assoc, val_ap hx, Option.bind_some]
    dsimp only
    rw [if_neg (by decide), lstA_ap l _ t hl]
    simp [s28v]
theorem lstA_back : ∀ (n : Nat) (acc : List S28) (l : List Int), U8 l → (∃ vs t, lstA n acc l = some (acc ++ vs, t, 0) ∧ vs.length = n ∧ (∀ x ∈ vs, WideV x) ∧ l = flV vs ++ t) ∨ ∃ e, e ≠ 0 ∧ lstA n acc l = some ([], [], e)
  | 0, acc, l, _ => .inl ⟨[], l, by simp [lstA], rfl, by simp, rfl⟩
  | n + 1, acc, l, hl => by
    show (∃ vs t, (valL l).bind _ = _ ∧ _) ∨ ∃ e, e ≠ 0 ∧ (valL l).bind _ = _
    rcases val_back hl with ⟨x, t, h1, h2, h3⟩ | ⟨e, he, h1⟩
    · rw [h1, Option.bind_some]
      dsimp only
      rw [if_neg (by decide)]
      rcases lstA_back n (acc ++ [s28v (x.f0, x.f1, x.f2)]) t (by rw [h3] at hl; exact hl.drop) with ⟨vs, t', q1, q2, q3, q4⟩ | ⟨e, he, q⟩
      · refine .inl ⟨x :: vs, t', ?_, by simp [q2], List.forall_mem_cons.2 ⟨h2, q3⟩, ?_⟩
        · rw [q1]
          simp [s28v]
        · rw [h3, q4, flV_cons, List.append_assoc]
      · exact .inr ⟨e, he, q⟩
    · rw [h1, Option.bind_some]
      dsimp only
      rw [if_pos he]
      exact .inr ⟨e, he, rfl⟩
theorem lstA_pre : ∀ (l : List S28) (acc : List S28) (j : Nat), (∀ x ∈ l, WideV x) → j < (flV l).length → lstA l.length acc ((flV l).take j) = some ([], [], 7)
  | [], acc, j, _, h => by simp [flV] at h
  | x :: l, acc, j, h, hj => by
    obtain ⟨hx, hl⟩ := List.forall_mem_cons.1 h
    show (valL ((flV (x :: l)).take j)).bind _ = _
    rw [flV_cons] at hj ⊢
    by_cases h2 : j < (apV x).length
    · rw [List.take_append_of_le_length (by omega), val_pre hx h2, Option.bind_some]
      rfl
    · rw [List.length_append] at hj
      obtain ⟨j', rfl⟩ : ∃ j', j = (apV x).length + j' := ⟨j - (apV x).length, by omega⟩
      rw [List.take_length_add_append, val_ap hx, Option.bind_some]
      dsimp only
      rw [if_neg (by decide)]
      exact lstA_pre l _ j' hl (by omega)
/-- The byte form of a list. -/
def apLs (l : List S28) : List Int := vbL 10 l.length ++ flV l
theorem lst_ap {l : List S28} (hw : ∀ x ∈ l, WideV x) (hl : l.length ≤ 4096) (t : List Int) : lstL (apLs l ++ t) = some (l, t, 0) := by
  unfold lstL apLs
  rw [List.append_assoc, rd0 l.length (by omega)]
  dsimp only
  rw [if_neg (by decide), if_neg (by omega), Int.toNat_natCast, lstA_ap l [] t hw]
  rfl
theorem lst_back {l : List Int} (hl : U8 l) : (∃ vs t, lstL l = some (vs, t, 0) ∧ (∀ x ∈ vs, WideV x) ∧ l = apLs vs ++ t ∧ vs.length ≤ 4096) ∨ ∃ e, e ≠ 0 ∧ lstL l = some ([], [], e) := by
  unfold lstL
  by_cases h1 : (rdL 0 0 l).2.2 = 0
  · rw [if_neg (by rw [h1]; decide)]
    obtain ⟨n, e1, e2, e3⟩ := rd0_back (r := (rdL 0 0 l).1) (t := (rdL 0 0 l).2.1) hl (Prod.ext rfl (Prod.ext rfl h1))
    have hu : U8 (rdL 0 0 l).2.1 := by rw [e3] at hl; exact hl.drop
    generalize rdL 0 0 l = R at *
    by_cases h2 : 4096 < R.1
    · rw [if_pos h2]
      exact .inr ⟨5, by decide, rfl⟩
    · rw [if_neg h2]
      rw [e1, Int.toNat_natCast]
      rcases lstA_back n [] R.2.1 hu with ⟨vs, t, q1, q2, q3, q4⟩ | h
      · refine .inl ⟨vs, t, q1, q3, ?_, by omega⟩
        unfold apLs
        rw [q2, List.append_assoc, ← q4, ← e3]
      · exact .inr h
  · rw [if_pos h1]
    exact .inr ⟨_, h1, rfl⟩
theorem lst_pre {l : List S28} (hw : ∀ x ∈ l, WideV x) (hl : l.length ≤ 4096) {j : Nat} (hj : j < (apLs l).length) : lstL ((apLs l).take j) = some ([], [], 7) := by
  unfold lstL apLs at *
  by_cases h : j < (vbL 10 l.length).length
  · rw [List.take_append_of_le_length (by omega), rd0_pre (by omega) h]
    rfl
  · rw [List.length_append] at hj
    obtain ⟨j', rfl⟩ : ∃ j', j = (vbL 10 l.length).length + j' := ⟨j - (vbL 10 l.length).length, by omega⟩
    rw [List.take_length_add_append, rd0 l.length (by omega)]
    dsimp only
    rw [if_neg (by decide), if_neg (by omega), Int.toNat_natCast, lstA_pre l [] j' hw (by omega)]
end Go.Proofs.YtngcljmjcbaidaaGreatDoor.H
end
section
/- chapman/value.AppendList, with the contract of its call. -/
namespace Go.Proofs.YtngcljmjcbaidaaGreatDoor.H
open Go.RowKit Go.Proofs.YtngcljmjcbaidaaGreatDoor.T Go.Proofs.YtngcljmjcbaidaaGreatDoorW.PrintWords Go.Proofs.YtngcljmjcbaidaaGreatDoorW.PrintLast Go.Proofs.YtngcljmjcbaidaaGreatDoorW.PrintMore
set_option linter.unusedVariables false
set_option linter.unusedSimpArgs false
theorem flV_step (l : List S28) (i : Nat) (h : i < l.length) : flV (l.drop i) = apL (rd_T28 l i).f0 (rd_T28 l i).f1 (rd_T28 l i).f2 ++ flV (l.drop (i + 1)) := by
  have e0 : rd_T28 l i = l[i] := by simp [rd_T28, List.getD, h]
  rw [List.drop_eq_getElem_cons h, flV_cons, e0]
  rfl
set_option maxHeartbeats 8000000 in
set_option maxRecDepth 100000 in
theorem appendList_calls (A : Option Addr) (c : Nat) (l0 : List Int) (A1 : Option Addr) (c1 : Nat) (l : List S28) (w : World) (hr : Kd.C (Kd.int .u8) w A l0.length l0) (hc : l0.length ≤ c) (hr1 : Kd.C k28 w A1 l.length l) (hc1 : l.length ≤ c1)
    (hl : (l0 ++ apLs l).length ≤ 100000000000) (hs : ∀ x ∈ l, x.f2.size ≤ 100000000000) (hn : l.length ≤ 100000000000) :
    Calls Tryz.prog 31 #[.slice A l0.length c, .slice A1 l.length c1] w fun e w' => ∃ v0_ : Value, e = .returned v0_ ∧ Kd.R (Kd.int .u8) 5 w' w.heap.size (fun _ => True) v0_ (l0 ++ apLs l) ∧ Below w.heap.size w w' := by
  have hu28 := Tryz.underlying28
  have HR := Aside0.mk hr
  have HC := Aside0.mk hc
  have HR1 := Aside0.mk hr1
  have HC1 := Aside0.mk hc1
  have HL := Aside0.mk hl
  have HS := Aside0.mk hs
  have HN := Aside0.mk hn
  have hwr : IntKind.u64.wrap (l.length : Int) = (l.length : Int) := by rw [IntKind.wrap_u64]; omega
  clear hr hc hr1 hc1 hl hs hn
  go_enter Tryz.func31, Tryz.ntmps31
  go_wp2_with (first | (go_at_call 58; refine (varint_calls A c l0 l.length _ HR.out HC.out (by have := HL.out; rw [List.length_append] at this; omega) (by have := HN.out; omega)).mono ?_; rintro e W1 ⟨v0, rfl, hr0, hb⟩; have HR0 := Aside0.mk hr0; have HB := Aside0.mk hb; clear hr0 hb))
  clear hwr
  go_loopg [0, 14] l.length (fun kq v0 v14 W => ∃ (i : Nat) (xs : List Int), v14 = .int .i64 i ∧ Aside0 (xs ++ flV (l.drop i) = l0 ++ apLs l) ∧ Aside0 (kq + i = l.length) ∧ Aside0 (Kd.R (Kd.int .u8) 5 W w.heap.size (fun _ => True) v0 xs) ∧ Aside0 (Below w.heap.size w W))
  case atStart => exact ⟨0, _, rfl, ⟨by rw [List.drop_zero, apLs, List.append_assoc]⟩, ⟨rfl⟩, HR0, HB⟩
  case round =>
    clear HR0 HB
    obtain ⟨i, xs, rfl, HE, HK, HX, HB⟩ := hrel
    by_cases hi : i < l.length
    · have q0 : (i : Int) < (l.length : Int) := by omega
      have p0 : 0 ≤ (i : Int) := by omega
      have d1 : decide ((i : Int) < (l.length : Int)) = true := decide_eq_true q0
      obtain ⟨ad0, e0, x00, x01, x02⟩ := at_T28 HR1.out i p0 q0
      cases e0
      simp only [Int.toNat_natCast] at x00 x01 x02
      replace x00 := pw_cell_below HB.out x00
      replace x01 := pw_cell_below HB.out x01
      replace x02 := pw_cell_below HB.out x02
      replace p0 := eq_true p0
      replace q0 := eq_true q0
      have h2 := HE.out
      rw [flV_step l i hi, ← List.append_assoc] at h2
      have hsz : (rd_T28 l i).f2.size ≤ 100000000000 := by
        have e0 : rd_T28 l i = l[i] := by simp [rd_T28, List.getD, hi]
        rw [e0]
        exact HS.out _ (List.getElem_mem hi)
      have HE2 := Aside0.mk h2
      have HSZ := Aside0.mk hsz
      have hxl : xs.length ≤ 100000000000 := by
        have := congrArg List.length HE.out
        have h3 := HL.out
        rw [← this, List.length_append] at h3
        omega
      have HXL := Aside0.mk hxl
      obtain ⟨A5, c5, rfl⟩ := Kd.R_slice HX.out
      obtain ⟨_, hc5, hC5⟩ := Kd.R_reads' HX.out
      have HC5 := Aside0.mk hc5
      have HR5 := Aside0.mk hC5
      generalize rd_T28 l i = x at *
      obtain ⟨a, b, s⟩ := x
      dsimp only at x00 x01 x02 HE2 HSZ
      clear h2 hsz HE hxl hc5 hC5 HX
      have hli : i < l.length := hi
      have HI := Aside0.mk hli
      clear hli hi
      go_upto_region 5 with (fail)
      have hn := cell_new wr #[.int .i64 a, .int .i64 b, .string s] 28
      have y0 := hn 0
      have y1 := hn 1
      have y2 := hn 2
      have hb : Below wr.heap.size wr (wr.alloc (.cells #[.int .i64 a, .int .i64 b, .string s] 28)) := below_alloc (Below.refl _ _) _
      have HB1 := Aside0.mk (below_step HB.out hb)
      have HR6 := Aside0.mk (Kd.C_below HR5.out hb)
      clear hn hb HB HR5 x00 x01 x02 p0 q0
      generalize hW : wr.alloc (.cells #[.int .i64 a, .int .i64 b, .string s] 28) = W1 at *
      clear hW
      have HI2 : Aside0 (IntKind.i64.wrap ((i : Int) + 1) = (i : Int) + 1) := ⟨by rw [IntKind.wrap_i64]; have := HI.out; have := HN.out; omega⟩
      go_wp2_with (first | (go_at_call 25; refine (append_calls A5 c5 xs a b s _ HR6.out HC5.out HXL.out HSZ.out).mono ?_; rintro e W2 ⟨v0, rfl, hr0, hb⟩; have HR2 := Aside0.mk hr0; have HB2 := Aside0.mk hb; clear hr0 hb; have hw := HI2.out))
      cases gk with
      | zero => exact absurd HK.out (by have := HI.out; omega)
      | succ g1 =>
      go_roundg g1
      case measure => omega
      case rel => exact ⟨i + 1, _, by simp, HE2, ⟨by have := HK.out; omega⟩, ⟨Kd.R_lower HR2.out HB1.out.size⟩, ⟨below_step HB1.out HB2.out⟩⟩
    · have d1 : decide ((i : Int) < (l.length : Int)) = false := decide_eq_false (by omega)
      have q1 : (i < l.length) = False := eq_false hi
      have h2 := HE.out
      rw [List.drop_eq_nil_of_le (by omega)] at h2
      have e : xs = l0 ++ apLs l := by rw [← h2]; simp [flV]
      have HE2 := Aside0.mk e
      clear h2 e hi HE
      go_wp2_with fail
      go_ret
      exact ⟨_, rfl, by rw [← HE2.out]; exact HX.out, HB.out⟩
end Go.Proofs.YtngcljmjcbaidaaGreatDoor.H
end
section
/- Plain laws of the reference of values: validity as the program's, and what is equal to itself. -/
namespace Go.Proofs.YtngcljmjcbaidaaGreatDoor.H
open Go.RowKit Go.Proofs.YtngcljmjcbaidaaGreatDoor.A Go.Proofs.YtngcljmjcbaidaaGreatDoor.C Go.Proofs.YtngcljmjcbaidaaGreatDoor.T Go.Proofs.YtngcljmjcbaidaaGreatDoorW.PrintWords Go.Proofs.YtngcljmjcbaidaaGreatDoorW.PrintLast Go.Proofs.YtngcljmjcbaidaaGreatDoorW.PrintMore
set_option linter.unusedVariables false
set_option linter.unusedSimpArgs false
theorem rg_eq (s : ByteArray) (hs : s.size ≤ 100000) : ∀ (k : Nat) (i : Int), 0 ≤ i → chapmanref06_graphic.l0 k s i = value_graphic.l0 k s (s.size : Int) i
  | 0, _, _ => rfl
  | k + 1, i, h0 => by
    unfold chapmanref06_graphic.l0 value_graphic.l0
    by_cases h : i < (s.size : Int)
    · have e : wrap64 (i + 1) = i + 1 := by unfold wrap64; omega
      rw [if_pos h, if_pos h, if_pos h0, if_pos h0, if_pos h, e, rg_eq s hs k (i + 1) (by omega)]
    · rw [if_neg h, if_neg h]
theorem rgraphic_f (s : ByteArray) (hs : s.size ≤ 100000) : chapmanref06_graphic.f (s.size + 1) s = some (graphicB s.data.toList) := by
  unfold chapmanref06_graphic.f
  rw [rg_eq s hs _ 0 (by decide)]
  exact graphic_f s hs
theorem bit0 : Go.bits .andNot .i64 0 1 = 0 := by decide +kernel
theorem bit1 : Go.bits .andNot .i64 1 1 = 0 := by decide +kernel
theorem rnumber_f (K I : Int) (S : ByteArray) (m : Int) : chapmanref06_number.f K I S m = some (if K = 2 then ckB 2 I S m else false) := by
  unfold chapmanref06_number.f
  by_cases hk : K = 2
  · rw [if_pos hk, if_pos hk, ck_eq, if_neg (show ¬ (2 : Int) = 0 by decide), if_neg (show ¬ (2 : Int) = 1 by decide), if_pos (rfl : (2 : Int) = 2)]
    by_cases hs : S.toList = []
    · rw [if_pos hs, hs]
      by_cases h1 : I ≥ wrap64 (-m)
      · rw [if_pos h1, if_pos h1]
        by_cases h2 : I ≤ m
        · rw [if_pos h2, decide_eq_true h2]; rfl
        · rw [if_neg h2, decide_eq_false h2]
      · rw [if_neg h1, if_neg h1]
    · rw [if_neg hs]
      have : (S.toList == ([] : List UInt8)) = false := by simpa using hs
      rw [this]
      split
      · split <;> rfl
      · rfl
  · rw [if_neg hk, if_neg hk]
theorem rvalid_f (K I : Int) (S : ByteArray) (h0 : -9223372036854775808 ≤ I) (h1 : I ≤ 9223372036854775807) : chapmanref06_Valid.f (S.size + 1) K I S = some (vvB K I S) := by
  unfold chapmanref06_Valid.f vvB
  rw [ck_eq]
  by_cases k0 : K = 0
  · rw [if_pos k0, if_pos k0]
    by_cases hi : I = 0
    · rw [if_pos hi, hi]; rfl
    · rw [if_neg hi]
      have : (I == 0) = false := by simpa using hi
      rw [this]; rfl
  · rw [if_neg k0, if_neg k0]
    by_cases k1 : K = 1
    · rw [if_pos k1, if_pos k1]
      by_cases hi : I = 0
      · rw [if_pos hi, hi, if_pos bit0]
      · rw [if_neg hi]
        by_cases hi1 : I = 1
        · rw [if_pos hi1, hi1, if_pos bit1]
        · rw [if_neg hi1, if_neg (fun h => (bool_bit h0 h1 h).elim hi hi1)]
    · rw [if_neg k1, if_neg k1]
      by_cases k3 : K = 3
      · rw [if_pos k3, if_neg (show ¬ K = 2 by omega), if_pos k3]
        by_cases hi : I = 0
        · rw [if_pos hi, if_pos hi]
          by_cases hs : (S.size : Int) ≤ 40
          · rw [if_pos hs, if_pos hs, rgraphic_f S (by omega)]
            rfl
          · rw [if_neg hs, if_neg hs]
        · rw [if_neg hi, if_neg hi]
      · rw [if_neg k3, rnumber_f, Option.bind_some]
        congr 1
        by_cases k2 : K = 2
        · rw [if_pos k2, if_pos k2, ck_eq, if_neg (show ¬ (2 : Int) = 0 by decide), if_neg (show ¬ (2 : Int) = 1 by decide), if_pos (rfl : (2 : Int) = 2)]
        · rw [if_neg k2, if_neg k2, if_neg k3]
theorem ck_two_m {K I : Int} {S : ByteArray} {m m' : Int} (h : K ≠ 2) : ckB K I S m = ckB K I S m' := by
  rw [ck_eq, ck_eq, if_neg h, if_neg h]
theorem rwide_f (K I : Int) (S : ByteArray) (h0 : -9223372036854775808 ≤ I) (h1 : I ≤ 9223372036854775807) : chapmanref06_Wide.f (S.size + 1) K I S = some (wwB K I S) := by
  unfold chapmanref06_Wide.f
  rw [rvalid_f K I S h0 h1, Option.bind_some]
  cases hv : vvB K I S with
  | true => rw [if_pos rfl, vv_ww hv]
  | false =>
    rw [if_neg (by decide), rnumber_f, Option.bind_some]
    by_cases k2 : K = 2
    · rw [if_pos k2, k2]; rfl
    · rw [if_neg k2, ← hv]
      exact congrArg some (ck_two_m k2)

/-! ## What is equal to itself -/
theorem rsign_self (a : Int) : chapmanref06_sign.f a a = some 0 := by
  unfold chapmanref06_sign.f
  rw [if_neg (Int.lt_irrefl a), if_neg (Int.lt_irrefl a)]
theorem rstr_self (s : ByteArray) (hs : s.size ≤ 1000000) : ∀ (d i k : Nat), i + d = s.size → 2 * d + 2 ≤ k → chapmanref06_Strings.l0 k s s (i : Int) = some 0
  | d, i, 0, _, hk => absurd hk (by omega)
  | d, i, 1, _, hk => absurd hk (by omega)
  | 0, i, k + 2, h, hk => by
    unfold chapmanref06_Strings.l0
    rw [if_neg (by omega)]
    unfold chapmanref06_Strings.j1
    rw [if_neg (by decide), rsign_self]
    rfl
  | d + 1, i, k + 2, h, hk => by
    unfold chapmanref06_Strings.l0
    rw [if_pos (by omega), decide_eq_true (by omega : (i : Int) < (s.size : Int))]
    unfold chapmanref06_Strings.j1
    have e : wrap64 ((i : Int) + 1) = ((i + 1 : Nat) : Int) := by unfold wrap64; omega
    rw [if_pos rfl, if_pos (by omega), if_pos (by omega), if_pos (by omega), if_pos rfl, e]
    exact rstr_self s hs d (i + 1) k (by omega) (by omega)
theorem rcmp_self (x : S28) (k : Nat) (hk : 2 * x.f2.size + 2 ≤ k) (hs : x.f2.size ≤ 1000000) : chapmanref06_Cmp.f k x.f0 x.f1 x.f2 x.f0 x.f1 x.f2 = some 0 := by
  unfold chapmanref06_Cmp.f chapmanref06_Strings.f
  rw [if_pos rfl, if_pos rfl]
  have := rstr_self x.f2 hs x.f2.size 0 k (by omega) hk
  rw [show ((0 : Nat) : Int) = 0 from rfl] at this
  rw [this]
  rfl
theorem rcl_self (l : List S28) (M : Nat) (hM : ∀ x ∈ l, 2 * x.f2.size + 2 ≤ M ∧ x.f2.size ≤ 1000000) (hl : l.length ≤ 1000000) : ∀ (d i k : Nat), i + d = l.length → 2 * d + 2 + M ≤ k → chapmanref06_CmpList.l0 k l l (i : Int) = some 0
  | d, i, 0, _, hk => absurd hk (by omega)
  | d, i, 1, _, hk => absurd hk (by omega)
  | 0, i, k + 2, h, hk => by
    unfold chapmanref06_CmpList.l0
    rw [if_neg (by omega)]
    unfold chapmanref06_CmpList.j1
    rw [if_neg (by decide), rsign_self]
    rfl
  | d + 1, i, k + 2, h, hk => by
    unfold chapmanref06_CmpList.l0
    rw [if_pos (by omega), decide_eq_true (by omega : (i : Int) < (l.length : Int))]
    unfold chapmanref06_CmpList.j1
    have e : wrap64 ((i : Int) + 1) = ((i + 1 : Nat) : Int) := by unfold wrap64; omega
    have hx : rd_T28 l (i : Int) ∈ l := by
      have hi : i < l.length := by omega
      have e0 : rd_T28 l i = l[i] := by simp [rd_T28, List.getD, hi]
      rw [e0]
      exact List.getElem_mem hi
    obtain ⟨m1, m2⟩ := hM _ hx
    rw [if_pos rfl, if_pos (by omega), if_pos (by omega), if_pos (by omega), rcmp_self _ k (by omega) m2, Option.bind_some, if_pos rfl, e]
    exact rcl_self l M hM hl d (i + 1) k (by omega) (by omega)
theorem same03_self (l : List Int) (hl : l.length ≤ 1000000) : ∀ (d i k : Nat), i + d = l.length → d + 1 ≤ k → chapmanref03_Same.l0 k l l (i : Int) = some true
  | d, i, 0, _, hk => absurd hk (by omega)
  | 0, i, k + 1, h, hk => by
    unfold chapmanref03_Same.l0
    rw [if_neg (by omega)]
  | d + 1, i, k + 1, h, hk => by
    unfold chapmanref03_Same.l0
    have e : wrap64 ((i : Int) + 1) = ((i + 1 : Nat) : Int) := by unfold wrap64; omega
    rw [if_pos (by omega), if_pos (by omega), if_pos (by omega), if_pos rfl, e]
    exact same03_self l hl d (i + 1) k (by omega) (by omega)
theorem same03_f (l : List Int) (hl : l.length ≤ 1000000) (k : Nat) (hk : l.length + 1 ≤ k) : chapmanref03_Same.f k l l = some true := by
  unfold chapmanref03_Same.f
  rw [if_pos rfl]
  exact same03_self l hl l.length 0 k (by omega) hk
theorem equal_self (K I : Int) (S : ByteArray) (l : List S28) (b : List Int) (E : Int) (hl : l.length ≤ 1000) (hs : ∀ x ∈ l, x.f2.size ≤ 1000) (hb : b.length ≤ 1000000) :
    chapmanref06_Equal.f 2000000 K I S l b E K I S l b E = some true := by
  unfold chapmanref06_Equal.f chapmanref06_Same.f chapmanref06_CmpList.f
  have h := rcl_self l 2002 (fun x hx => by have := hs x hx; omega) (by omega) l.length 0 2000000 (by omega) (by omega)
  rw [show ((0 : Nat) : Int) = 0 from rfl] at h
  rw [if_pos rfl, if_pos (by simp), h, Option.bind_some, Option.bind_some, if_pos (by rfl), same03_f b hb 2000000 (by omega)]
  rfl
end Go.Proofs.YtngcljmjcbaidaaGreatDoor.H
end
section
/- What the laws of byte forms share: short lists, byte forms made and read. -/
namespace Go.Proofs.YtngcljmjcbaidaaGreatDoor.H
open Go.RowKit Go.Proofs.YtngcljmjcbaidaaGreatDoor.A Go.Proofs.YtngcljmjcbaidaaGreatDoor.C Go.Proofs.YtngcljmjcbaidaaGreatDoor.T Go.Proofs.YtngcljmjcbaidaaGreatDoorW.PrintWords Go.Proofs.YtngcljmjcbaidaaGreatDoorW.PrintLast Go.Proofs.YtngcljmjcbaidaaGreatDoorW.PrintMore
set_option linter.unusedVariables false
set_option linter.unusedSimpArgs false
theorem short_l0 (l : List S28) (hl : l.length ≤ 9223372036854775807) : ∀ (k i : Nat), i ≤ l.length → l.length - i < k → ∃ b, chapmanlaw06_short.l0 k l (i : Int) = some b ∧ (b = true → l.length ≤ 60)
  | 0, i, _, h => absurd h (by omega)
  | k + 1, i, hi, hk => by
    unfold chapmanlaw06_short.l0
    by_cases h : (i : Int) < (l.length : Int)
    · rw [if_pos h, if_pos (by omega)]
      split
      · exact ⟨_, rfl, fun h => by cases h⟩
      · have e : wrap64 ((i : Int) + 1) = ((i + 1 : Nat) : Int) := by unfold wrap64; omega
        rw [e]
        exact short_l0 l hl k (i + 1) (by omega) (by omega)
    · rw [if_neg h]
      exact ⟨_, rfl, fun h => by have := of_decide_eq_true h; omega⟩
theorem short_f (l : List S28) (hl : l.length ≤ 9223372036854775807) : ∃ b, chapmanlaw06_short.f (l.length + 1) l = some b ∧ (b = true → l.length ≤ 60) := short_l0 l hl (l.length + 1) 0 (Nat.zero_le _) (by omega)
theorem wide_size {x : S28} (h : WideV x) : x.f2.size ≤ 40 := by
  obtain ⟨hw, h0, h1⟩ := h
  rcases ck_cases h0 h1 (.inr rfl) hw with ⟨_, _, e⟩ | ⟨_, _, e⟩ | ⟨_, _, _, e⟩ | ⟨_, _, e, _⟩
  · rw [e]; decide
  · rw [e]; decide
  · rw [e]; decide
  · exact e
theorem apV_len {x : S28} (h : WideV x) : (apV x).length ≤ 60 := by
  have hs := wide_size h
  unfold apV apL
  have h1 := vbL_len 10 x.f2.size
  have h2 := bytes_len x.f2
  split
  · simp
  · split
    · split
      · rename_i z hz
        have := vbL_len 10 z.toNat
        simp only [List.length_cons]
        omega
      · simp
    · split
      · simp only [List.length_cons, List.length_append]
        omega
      · simp
theorem flV_len : ∀ {l : List S28}, (∀ x ∈ l, WideV x) → (flV l).length ≤ 60 * l.length
  | [], _ => by simp [flV]
  | x :: l, h => by
    obtain ⟨hx, hl⟩ := List.forall_mem_cons.1 h
    have h1 := apV_len hx
    have h2 := flV_len hl
    rw [flV_cons, List.length_append, List.length_cons]
    omega
theorem apLs_len {l : List S28} (h : ∀ x ∈ l, WideV x) : (apLs l).length ≤ 60 * l.length + 10 := by
  have h1 := flV_len h
  have h2 := vbL_len 10 l.length
  unfold apLs
  rw [List.length_append]
  omega
theorem apLs_pos (l : List S28) : 0 < (apLs l).length := by
  unfold apLs vbL
  rw [List.length_append]
  split <;> simp <;> omega
theorem ev_e7 : chapmanref06_Equal.f 10 0 0 ⟨#[]⟩ [] [] 7 0 0 ⟨#[]⟩ [] [] 7 = some true := by decide +kernel
/-- A short form is equal to itself. -/
theorem equal7_calls (W : World) {A1 A2 : Option Addr} {c1 c2 : Nat} (h1 : Kd.C k28 W A1 ([] : List S28).length []) (h2 : Kd.C (Kd.int .u8) W A2 ([] : List Int).length []) :
    Calls Tryz.prog 27 #[.agg #[.int .i64 0, .int .i64 0, .string (⟨#[]⟩ : ByteArray), .slice A1 0 c1, .slice A2 0 c2, .int .i64 7], .agg #[.int .i64 0, .int .i64 0, .string (⟨#[]⟩ : ByteArray), .slice none 0 0, .slice none 0 0, .int .i64 7]] W fun e w' => e = .returned (.bool true) ∧ Below W.heap.size W w' :=
  chapmanref06_Equal.calls 10 0 0 ⟨#[]⟩ A1 c1 [] A2 c2 [] 7 0 0 ⟨#[]⟩ none 0 [] none 0 [] 7 true W h1 (Nat.zero_le _) h2 (Nat.zero_le _) (Kd.C_nil _ _) (Nat.le_refl _) (Kd.C_nil _ _) (Nat.le_refl _) ev_e7
theorem preRead_calls (x : S28) (hx : WideV x) (j : Nat) (hj : j < (apV x).length) (A : Option Addr) (c : Nat) (W : World) (hgl : Gl W) (hr : Kd.C (Kd.int .u8) W A (apV x).length (apV x)) (hc : (apV x).length ≤ c) :
    Calls Tryz.prog 33 #[.slice A j c] W fun e w' => ∃ A' c', e = .returned (.agg #[.int .i64 0, .int .i64 0, .string (⟨#[]⟩ : ByteArray), .slice none 0 0, .slice A' 0 c', .int .i64 7]) ∧ Kd.C (Kd.int .u8) w' A' ([] : List Int).length [] ∧ Below W.heap.size W w' := by
  have hl : ((apV x).take j).length = j := by rw [List.length_take]; omega
  have h := law_read.calls A c ((apV x).take j) W (zv, [], 7) hgl (Kd.C_take hr (by omega)) (by omega) (val_pre hx hj)
  rw [hl] at h
  refine h.mono ?_
  rintro e w' ⟨A', c', rfl, hs, hb⟩
  exact ⟨A', c', rfl, hs.2 w' (Kd.C_below (Kd.C_take hr (by omega)) hb), hb⟩
theorem preList_calls (l : List S28) (hw : ∀ x ∈ l, WideV x) (hl : l.length ≤ 4096) (j : Nat) (hj : j < (apLs l).length) (A : Option Addr) (c : Nat) (W : World) (hgl : Gl W) (hr : Kd.C (Kd.int .u8) W A (apLs l).length (apLs l)) (hc : (apLs l).length ≤ c) :
    Calls Tryz.prog 35 #[.slice A j c] W fun e w' => ∃ A1 c1 A' c', e = .returned (.agg #[.int .i64 0, .int .i64 0, .string (⟨#[]⟩ : ByteArray), .slice A1 0 c1, .slice A' 0 c', .int .i64 7]) ∧ Kd.C k28 w' A1 ([] : List S28).length [] ∧ Kd.C (Kd.int .u8) w' A' ([] : List Int).length [] ∧ Below W.heap.size W w' := by
  have hl2 : ((apLs l).take j).length = j := by rw [List.length_take]; omega
  have h := law_readList.calls A c ((apLs l).take j) W ([], [], 7) hgl (Kd.C_take hr (by omega)) (by omega) (lst_pre hw hl hj)
  rw [hl2] at h
  refine h.mono ?_
  rintro e w' ⟨v, A', c', rfl, hv, hs, hb⟩
  obtain ⟨A1, c1, rfl⟩ := Kd.R_slice hv
  obtain ⟨_, _, hC⟩ := Kd.R_reads' hv
  exact ⟨A1, c1, A', c', rfl, hC, hs.2 w' (Kd.C_below (Kd.C_take hr (by omega)) hb), hb⟩
theorem app_calls (x : S28) (m : Nat) (hm : (apV x).length = m) (hx : WideV x) (W : World) :
    Calls Tryz.prog 25 #[.slice none 0 0, .agg #[.int .i64 x.f0, .int .i64 x.f1, .string x.f2]] W fun e w' => ∃ ad c, e = .returned (.slice (some ad) m c) ∧ Kd.C (Kd.int .u8) w' (some ad) (apV x).length (apV x) ∧ m ≤ c ∧ Below W.heap.size W w' := by
  have h := append_calls none 0 [] x.f0 x.f1 x.f2 W (Kd.C_nil _ _) (Nat.le_refl _) (by decide) (by have := wide_size hx; omega)
  refine h.mono ?_
  rintro e w' ⟨v, rfl, hv, hb⟩
  rw [List.nil_append] at hv
  obtain ⟨A, c, rfl⟩ := Kd.R_slice hv
  obtain ⟨_, hc, hC⟩ := Kd.R_reads' hv
  obtain ⟨ad, rfl, _⟩ := hC.2.2 (List.length_pos_iff.2 (apV_ne x))
  exact ⟨ad, c, by rw [← hm]; rfl, hC, by rw [← hm]; exact hc, hb⟩
theorem appList_calls (l : List S28) (n m : Nat) (hn : l.length = n) (hm : (apLs l).length = m) (hw : ∀ x ∈ l, WideV x) (hl : l.length ≤ 4096) (A1 : Option Addr) (c1 : Nat) (W : World) (hr1 : Kd.C k28 W A1 l.length l) (hc1 : l.length ≤ c1) :
    Calls Tryz.prog 31 #[.slice none 0 0, .slice A1 n c1] W fun e w' => ∃ ad c, e = .returned (.slice (some ad) m c) ∧ Kd.C (Kd.int .u8) w' (some ad) (apLs l).length (apLs l) ∧ m ≤ c ∧ Below W.heap.size W w' := by
  have h := appendList_calls none 0 [] A1 c1 l W (Kd.C_nil _ _) (Nat.le_refl _) hr1 hc1 (by have := apLs_len hw; rw [List.nil_append]; omega) (fun x hx => by have := wide_size (hw x hx); omega) (by omega)
  rw [hn] at h
  refine h.mono ?_
  rintro e w' ⟨v, rfl, hv, hb⟩
  rw [List.nil_append] at hv
  obtain ⟨A, c, rfl⟩ := Kd.R_slice hv
  obtain ⟨_, hc, hC⟩ := Kd.R_reads' hv
  obtain ⟨ad, rfl, _⟩ := hC.2.2 (apLs_pos l)
  exact ⟨ad, c, by rw [← hm], hC, by rw [← hm]; exact hc, hb⟩
end Go.Proofs.YtngcljmjcbaidaaGreatDoor.H
end
section
/- chapmanlaw06.ValuePrefixes answers true. -/
namespace Go.Proofs.YtngcljmjcbaidaaGreatDoor.H
open Go.RowKit Go.Proofs.YtngcljmjcbaidaaGreatDoor.A Go.Proofs.YtngcljmjcbaidaaGreatDoor.C Go.Proofs.YtngcljmjcbaidaaGreatDoor.T Go.Proofs.YtngcljmjcbaidaaGreatDoorW.PrintWords Go.Proofs.YtngcljmjcbaidaaGreatDoorW.PrintLast Go.Proofs.YtngcljmjcbaidaaGreatDoorW.PrintMore
set_option linter.unusedVariables false
set_option linter.unusedSimpArgs false
set_option maxHeartbeats 16000000 in
set_option maxRecDepth 100000 in
theorem prefs_law (A0 : Option Addr) (c0 : Nat) (l0 : List S28) (n : Int) (w : World) (hgl : Gl w) (hr0 : Kd.C k28 w A0 l0.length l0) (hc0 : l0.length ≤ c0) (hwf : ∀ x ∈ l0, -9223372036854775808 ≤ x.f1 ∧ x.f1 ≤ 9223372036854775807) (hn0 : 0 ≤ n) (hn1 : n < 65536) :
    Calls Tryz.prog 8 #[.slice A0 l0.length c0, .int .u16 n] w fun e w' => e = .returned (.bool true) ∧ Below w.heap.size w w' := by
  have HGl := Aside0.mk hgl
  have HR0 := Aside0.mk hr0
  have HC0 := Aside0.mk hc0
  have HWF := Aside0.mk hwf
  have HN0 : Aside0 (0 ≤ n ∧ n < 65536) := ⟨hn0, hn1⟩
  have hu := Tryz.underlying28
  have hu3 := Tryz.underlying39
  obtain ⟨sa, qa, pa⟩ := short_f l0 (Kd.C_max hr0)
  have HA := Aside0.mk qa
  have HLE := Aside0.mk pa
  clear hr0 hc0 hgl hwf qa pa hn0 hn1
  go_enter Tryz.func8, Tryz.ntmps8
  go_upto_region 4 with (first | (go_at_call 9; refine (examples.calls _ HGl.out).mono ?_; rintro e W1 ⟨rfl, hb⟩; have HB := Aside0.mk hb; clear hb))
  obtain ⟨m0, hm0⟩ : ∃ m, l0.length = m := ⟨_, rfl⟩
  have HM := Aside0.mk hm0
  rw [hm0]
  clear hm0
  have hS0 : ∀ W, Below w.heap.size w W → Calls Tryz.prog 10 #[.slice A0 m0 c0] W fun e w' => e = .returned (.bool sa) ∧ Below W.heap.size W w' := fun W h => by
    have := chapmanlaw06_short.calls _ A0 c0 l0 sa W (Kd.C_below HR0.out h) HC0.out HA.out
    rw [HM.out] at this
    exact this.mono fun e w' h => ⟨h.1, h.2.below⟩
  have HS0 := Aside0.mk hS0
  clear hS0
  cases sa with
  | false =>
    go_wp2_with (first | (go_at_call 10; with_reducible refine (HS0.out _ HB.out).mono ?_; rintro e WW ⟨rfl, hb⟩; have HB' := Aside0.mk (below_step HB.out hb); clear HB hb; have HB := HB'; clear HB'))
    go_ret
    exact ⟨rfl, HB.out⟩
  | true =>
    have hm60 : m0 ≤ 60 := by rw [← HM.out]; exact HLE.out rfl
    have H60 := Aside0.mk hm60
    clear hm60 HLE HA
    go_wp2_with (first | (go_at_call 10; with_reducible refine (HS0.out _ HB.out).mono ?_; rintro e WW ⟨rfl, hb⟩; have HB' := Aside0.mk (below_step HB.out hb); clear HB hb; have HB := HB'; clear HB') | ((with_reducible refine gate_dst (N := 17) rfl ?_); refine Kd.R_lit k28 _ 28 ?hg (N := 17) ?hd (xs := ([] : List S28)) (inner := []) (ok := fun _ => True) (okp := fun _ => True) ?hr ?hp (fun _ hk => hk) trivial (Below.refl _ _) (Nat.le_refl _) (by simp) ?_; (case hd => rfl); (case hg => rfl); (case hr => first | (go_simp; done) | (go_simp; rfl)); (case hp => exact (Reps.none _ _)); intro v6 W6 ho hb hg_ hnew_; clear hg_ hnew_; have HO := Aside0.mk (Kd.R_lower ho HB.out.size); have HB' := Aside0.mk (below_step HB.out hb); clear HB ho hb; have HB := HB'; clear HB'))
    clear HS0
    go_loopg [6, 7] m0 (fun kq v6 v7 W => ∃ (i : Nat) (vs : List S28), v7 = .int .i64 i ∧ Aside0 (kq + i = m0) ∧ Aside0 (Kd.R k28 28 W w.heap.size (fun _ => True) v6 vs) ∧ Aside0 ((∀ x ∈ vs, WideV x) ∧ vs.length ≤ i) ∧ Aside0 (Below w.heap.size w W))
    case atStart => exact ⟨0, [], rfl, ⟨rfl⟩, HO, ⟨fun _ h => absurd h List.not_mem_nil, Nat.le_refl _⟩, HB⟩
    case round =>
      clear HO HB
      obtain ⟨i, vs, rfl, HK, HO, HV, HB⟩ := hrel
      by_cases hi : i < m0
      · cases gk with
        | zero => exact absurd HK.out (by omega)
        | succ g1 =>
        have d1 : decide ((i : Int) < (m0 : Int)) = true := decide_eq_true (by omega)
        have q1 : (i < m0) = True := eq_true hi
        have p0 : (0 ≤ (i : Int)) = True := eq_true (by omega)
        have z1 : ((i : Int) < (m0 : Int)) = True := eq_true (by omega)
        obtain ⟨ad0, e0, x00, x01, x02⟩ := at_T28 HR0.out (i : Int) (by omega) (by rw [HM.out]; omega)
        cases e0
        simp only [Int.toNat_natCast] at x00 x01 x02
        have Y0 := Aside0.mk x00
        have Y1 := Aside0.mk x01
        have Y2 := Aside0.mk x02
        replace x00 := pw_cell_below HB.out x00
        replace x01 := pw_cell_below HB.out x01
        replace x02 := pw_cell_below HB.out x02
        have hxm : rd_T28 l0 (i : Int) ∈ l0 := by
          have hi2 : i < l0.length := by rw [HM.out]; exact hi
          have e0 : rd_T28 l0 i = l0[i] := by simp [rd_T28, List.getD, hi2]
          rw [e0]
          exact List.getElem_mem hi2
        have hxb := HWF.out _ hxm
        generalize rd_T28 l0 (i : Int) = x at *
        obtain ⟨a, b, s⟩ := x
        dsimp only at x00 x01 x02 Y0 Y1 Y2 hxb
        have HW : Aside0 (IntKind.i64.wrap ((i : Int) + 1) = (i : Int) + 1 ∧ i < m0) := ⟨wrap_succ i (by have := H60.out; omega), hi⟩
        have hrw := rwide_f a b s hxb.1 hxb.2
        clear hi hxm
        cases hwb : wwB a b s with
        | false =>
          rw [hwb] at hrw
          have HRW := Aside0.mk hrw
          clear hrw hwb hxb
          have hw1 := HW.out.1
          go_wp2_with (first | (go_at_call 20; with_reducible refine (chapmanref06_Wide.calls _ a b s false _ HRW.out).mono ?_; rintro e WW ⟨rfl, hb⟩; have HB' := Aside0.mk (below_step HB.out hb); clear HB; have HB := HB'; clear HB'; have HO' := Aside0.mk (Kd.R_below HO.out hb); clear HO; have HO := HO'; clear HO'; clear x00 x01 x02; have x00 := pw_cell_below HB.out Y0.out; have x01 := pw_cell_below HB.out Y1.out; have x02 := pw_cell_below HB.out Y2.out; (try (have HC8' := Aside0.mk (Kd.C_below HC8.out hb); clear HC8; have HC8 := HC8'; clear HC8')); clear hb))
          go_roundg g1
          case measure => omega
          case rel => exact ⟨i + 1, vs, by simp, ⟨by have := HK.out; omega⟩, HO, ⟨HV.out.1, Nat.le_succ_of_le HV.out.2⟩, HB⟩
        | true =>
          rw [hwb] at hrw
          have HRW := Aside0.mk hrw
          have HX : Aside0 (WideV ⟨a, b, s⟩) := ⟨hwb, hxb.1, hxb.2⟩
          obtain ⟨m, hm⟩ : ∃ m, (apV ⟨a, b, s⟩).length = m := ⟨_, rfl⟩
          have hmp : 0 < m := by rw [← hm]; exact List.length_pos_iff.2 (apV_ne _)
          have dm : ((m : Int) == 0) = false := by rw [beq_eq_false_iff_ne]; omega
          have hj : n.toNat % m < m := Nat.mod_lt _ hmp
          have hmod : Int.tmod n (m : Int) = ((n.toNat % m : Nat) : Int) := by
            have := HN0.out
            rw [Int.tmod_eq_emod_of_nonneg this.1, Int.natCast_emod, Int.toNat_of_nonneg this.1]
          have hnw : IntKind.i64.wrap n = n := by have := HN0.out; rw [IntKind.wrap_i64]; omega
          generalize n.toNat % m = j at hj hmod
          have HJ : Aside0 (0 < m ∧ j < m ∧ Int.tmod n (m : Int) = (j : Int) ∧ IntKind.i64.wrap n = n ∧ ((m : Int) == 0) = false) := ⟨hmp, hj, hmod, hnw, dm⟩
          have HMM := Aside0.mk hm
          clear hrw hwb hxb hm hmp dm hj hmod hnw
          go_upto_region 11 with (first | (go_at_call 20; with_reducible refine (chapmanref06_Wide.calls _ a b s true _ HRW.out).mono ?_; rintro e WW ⟨rfl, hb⟩; have HB' := Aside0.mk (below_step HB.out hb); clear HB; have HB := HB'; clear HB'; have HO' := Aside0.mk (Kd.R_below HO.out hb); clear HO; have HO := HO'; clear HO'; clear x00 x01 x02; have x00 := pw_cell_below HB.out Y0.out; have x01 := pw_cell_below HB.out Y1.out; have x02 := pw_cell_below HB.out Y2.out; (try (have HC8' := Aside0.mk (Kd.C_below HC8.out hb); clear HC8; have HC8 := HC8'; clear HC8')); clear hb))
          go_upto_region 12 with (first | ((with_reducible refine gate_builtin (b := .append) (xs := #[.tmp 30, .tmp 35]) rfl ?_); at_builtin; refine Kd.R_append k28 (w0 := w) w.heap.size rfl (.tmp 30) (.tmp 35) 22 28 (.agg #[.int .i64 0, .int .i64 0, .string ⟨#[]⟩]) 32 rfl Tryz.underlying22 infoV rfl (by decide) (by decide) _ vs ⟨a, b, s⟩ [.int .i64 a, .int .i64 b, .string s] (fun _ => True) (fun _ => False) rfl rfl (k28_mkM _ _ _ ⟨a, b, s⟩) (fun _ hk => hk.elim) (fun _ _ => trivial) HO.out HB.out HB.out.size (by have h1 := HV.out.2; have h2 := H60.out; have h3 := HW.out.2; omega) ?_; intro v1 w1 hr1 hb1 hg1 hat1; clear hg1 hat1; clear HO; have HO := Aside0.mk hr1; clear hr1 HB; have HB := Aside0.mk hb1; clear hb1; clear x00 x01 x02; have x00 := pw_cell_below HB.out Y0.out; have x01 := pw_cell_below HB.out Y1.out; have x02 := pw_cell_below HB.out Y2.out))
          go_upto_region 13 with (first | (go_at_call 25; with_reducible refine (app_calls ⟨a, b, s⟩ m HMM.out HX.out _).mono ?_; rintro e WW ⟨ad8, c8, rfl, hC8, hc8, hb⟩; have HC8 := Aside0.mk hC8; have Hc8 := Aside0.mk hc8; clear hC8 hc8; have HB' := Aside0.mk (below_step HB.out hb); clear HB; have HB := HB'; clear HB'; have HO' := Aside0.mk (Kd.R_below HO.out hb); clear HO; have HO := HO'; clear HO'; clear x00 x01 x02; have x00 := pw_cell_below HB.out Y0.out; have x01 := pw_cell_below HB.out Y1.out; have x02 := pw_cell_below HB.out Y2.out; (try (have HC8' := Aside0.mk (Kd.C_below HC8.out hb); clear HC8; have HC8 := HC8'; clear HC8')); clear hb))
          obtain ⟨hmp, hj, hmod, hnw, dm⟩ := HJ.out
          have hw1 := HW.out.1
          have hjc : ((j : Int) ≤ (c8 : Int)) = True := eq_true (by have := Hc8.out; omega)
          have hj0 : (0 ≤ (j : Int)) = True := eq_true (by omega)
          go_wp2_with (first | (go_at_call 33; with_reducible refine (preRead_calls ⟨a, b, s⟩ HX.out j (by rw [HMM.out]; exact HJ.out.2.1) (some ad8) c8 _ (HGl.out.below HB.out) HC8.out (by rw [HMM.out]; exact Hc8.out)).mono ?_; rintro e WW ⟨A9, c9, rfl, hC9, hb⟩; have HC9 := Aside0.mk hC9; clear hC9; have HB' := Aside0.mk (below_step HB.out hb); clear HB; have HB := HB'; clear HB'; have HO' := Aside0.mk (Kd.R_below HO.out hb); clear HO; have HO := HO'; clear HO'; clear x00 x01 x02; have x00 := pw_cell_below HB.out Y0.out; have x01 := pw_cell_below HB.out Y1.out; have x02 := pw_cell_below HB.out Y2.out; (try (have HC8' := Aside0.mk (Kd.C_below HC8.out hb); clear HC8; have HC8 := HC8'; clear HC8')); clear hb) | (go_at_call 27; with_reducible refine (equal7_calls _ (Kd.C_nil _ _) HC9.out).mono ?_; rintro e WW ⟨rfl, hb⟩; have HB' := Aside0.mk (below_step HB.out hb); clear HB; have HB := HB'; clear HB'; have HO' := Aside0.mk (Kd.R_below HO.out hb); clear HO; have HO := HO'; clear HO'; clear x00 x01 x02; have x00 := pw_cell_below HB.out Y0.out; have x01 := pw_cell_below HB.out Y1.out; have x02 := pw_cell_below HB.out Y2.out; (try (have HC8' := Aside0.mk (Kd.C_below HC8.out hb); clear HC8; have HC8 := HC8'; clear HC8')); clear hb))
          go_roundg g1
          case measure => omega
          case rel => exact ⟨i + 1, vs ++ [⟨a, b, s⟩], by simp, ⟨by have := HK.out; omega⟩, HO, ⟨by
            refine ⟨fun x hx => ?_, by rw [List.length_append]; have := HV.out.2; simp; omega⟩
            rcases List.mem_append.1 hx with h | h
            · exact HV.out.1 x h
            · obtain rfl := List.mem_singleton.1 h
              exact HX.out⟩, HB⟩
      · have d1 : decide ((i : Int) < (m0 : Int)) = false := decide_eq_false (by omega)
        have q1 : (i < m0) = False := eq_false hi
        have HW2 : Aside0 ((∀ x ∈ vs, WideV x) ∧ vs.length ≤ 4096) := ⟨⟨HV.out.1, by have := HV.out.2; have := H60.out; have := HK.out; omega⟩⟩
        obtain ⟨A6, c6, rfl⟩ := Kd.R_slice HO.out
        obtain ⟨_, hc6, hC6⟩ := Kd.R_reads' HO.out
        have HC6 := Aside0.mk hC6
        have Hc6 := Aside0.mk hc6
        obtain ⟨nv, hnv⟩ : ∃ m, vs.length = m := ⟨_, rfl⟩
        have HNV := Aside0.mk hnv
        obtain ⟨m, hm⟩ : ∃ m, (apLs vs).length = m := ⟨_, rfl⟩
        have hmp : 0 < m := by rw [← hm]; exact apLs_pos vs
        have dm : decide (0 < (m : Int)) = true := decide_eq_true (by omega)
        have hj : n.toNat % m < m := Nat.mod_lt _ hmp
        have hmod : Int.tmod n (m : Int) = ((n.toNat % m : Nat) : Int) := by
          have := HN0.out
          rw [Int.tmod_eq_emod_of_nonneg this.1, Int.natCast_emod, Int.toNat_of_nonneg this.1]
        have hnw : IntKind.i64.wrap n = n := by have := HN0.out; rw [IntKind.wrap_i64]; omega
        generalize n.toNat % m = j at hj hmod
        have HJ : Aside0 (0 < m ∧ j < m) := ⟨hmp, hj⟩
        have HMM := Aside0.mk hm
        have qm : (0 < m) = True := eq_true hmp
        have dz : ((m : Int) == 0) = false := by rw [beq_eq_false_iff_ne]; omega
        have dz2 : ((m : Int) = 0) = False := eq_false (by omega)
        have dz3 : (m = 0) = False := eq_false (by omega)
        rw [hnv]
        clear hC6 hc6 hnv hm hmp hj HK HV hi
        go_upto_region 16 with (first | (go_at_call 31; with_reducible refine (appList_calls vs nv m HNV.out HMM.out HW2.out.1 HW2.out.2 A6 c6 _ HC6.out Hc6.out).mono ?_; rintro e W9 ⟨ad8, c8, rfl, hC8, hc8, hb⟩; have HC8 := Aside0.mk hC8; have Hc8 := Aside0.mk hc8; have HB' := Aside0.mk (below_step HB.out hb); clear hC8 hc8 hb HB; have HB := HB'; clear HB'))
        have hjc : ((j : Int) ≤ (c8 : Int)) = True := eq_true (by have := Hc8.out; have := HJ.out; omega)
        have hj0 : (0 ≤ (j : Int)) = True := eq_true (by omega)
        go_wp2_with (first | (go_at_call 35; with_reducible refine (preList_calls vs HW2.out.1 HW2.out.2 j (by rw [HMM.out]; exact HJ.out.2) (some ad8) c8 _ (HGl.out.below HB.out) HC8.out (by rw [HMM.out]; exact Hc8.out)).mono ?_; rintro e W10 ⟨A1, c1, A9, c9, rfl, hC1, hC9, hb⟩; have HC1 := Aside0.mk hC1; have HC9 := Aside0.mk hC9; clear hC1 hC9; have HB' := Aside0.mk (below_step HB.out hb); clear hb HB; have HB := HB'; clear HB') | (go_at_call 27; with_reducible refine (equal7_calls _ HC1.out HC9.out).mono ?_; rintro e W11 ⟨rfl, hb⟩; have HB' := Aside0.mk (below_step HB.out hb); clear hb HB; have HB := HB'; clear HB'))
        go_ret
        exact ⟨rfl, HB.out⟩
theorem prefs_law2 (A0 : Option Addr) (c0 : Nat) (l0 : List S28) (n : Int) (w : World) (hgl : Gl w) (hr0 : Kd.C k28 w A0 l0.length l0) (hc0 : l0.length ≤ c0) (hwf : ∀ x ∈ l0, (Lit.int .i64 x.f0).wf = true ∧ (Lit.int .i64 x.f1).wf = true) (hn : (Lit.int .u16 n).wf = true) :
    Calls Tryz.prog 8 #[.slice A0 l0.length c0, .int .u16 n] w fun e w' => e = .returned (.bool true) ∧ Below w.heap.size w w' := by
  have h : 0 ≤ n ∧ n ≤ 65535 := by simpa [Lit.wf, IntKind.min, IntKind.max, IntKind.signed, IntKind.bits] using hn
  refine prefs_law A0 c0 l0 n w hgl hr0 hc0 (fun x hx => ?_) h.1 (by omega)
  simpa [Lit.wf, IntKind.min, IntKind.max, IntKind.signed, IntKind.bits] using (hwf x hx).2
end Go.Proofs.YtngcljmjcbaidaaGreatDoor.H
end
section
/- A slice of values that comes in: opened, with the bounds of its numbers. -/
namespace Go.Proofs.YtngcljmjcbaidaaGreatDoor.H
open Go.RowKit Go.Proofs.YtngcljmjcbaidaaGreatDoorW.PrintWords Go.Proofs.YtngcljmjcbaidaaGreatDoorW.PrintLast Go.Proofs.YtngcljmjcbaidaaGreatDoorW.PrintMore
set_option linter.unusedVariables false
set_option maxRecDepth 100000 in
theorem open_valW {H : Type} {enc : TypeId × Value → H} {w : World} {base : Nat} {sp : Nat → Bool} {held : Bool} {fuel : Nat} {cs : List Value} {y : DataW H × List MemPlace} (h : DataW.trod enc Tryz.prog w base sp held fuel 28 cs = some y) : ∃ x : S28, cs = [.int .i64 x.f0, .int .i64 x.f1, .string x.f2] ∧ (Lit.int .i64 x.f0).wf = true ∧ (Lit.int .i64 x.f1).wf = true := by
  obtain ⟨xs, n, _, _, hl, hn, hall⟩ := DataW.trod_struct Tryz.underlying28 h
  rw [show Tryz.prog.cellsOf 28 = 3 by kernel_rfl] at hl
  have n3 : xs.length = 3 := hn
  match cs, hl with
  | [c0, c1, c2], _ =>
    have h0 := hall 0 _ rfl
    have h1 := hall 1 _ rfl
    have h2 := hall 2 _ rfl
    have e0 : Tryz.prog.cellsOf 3 = 1 := by kernel_rfl
    have e2 : Tryz.prog.cellsOf 9 = 1 := by kernel_rfl
    rw [List.getElem?_eq_getElem (by omega)] at h0 h1 h2
    obtain ⟨a, ea, _, wa⟩ := DataW.trod_int Tryz.underlying3 h0
    obtain ⟨b, eb, _, wb⟩ := DataW.trod_int Tryz.underlying3 h1
    obtain ⟨s, es, _, _⟩ := DataW.trod_string Tryz.underlying9 h2
    refine ⟨⟨a, b, s⟩, ?_, wa, wb⟩
    have ea' : [c0] = [Value.int .i64 a] := by rw [← ea]; show [c0] = List.take (Tryz.prog.cellsOf 3) [c0, c1, c2]; rw [e0]; rfl
    have eb' : [c1] = [Value.int .i64 b] := by rw [← eb]; show [c1] = List.take (Tryz.prog.cellsOf 3) [c1, c2]; rw [e0]; rfl
    have es' : [c2] = [Value.string s] := by rw [← es]; show [c2] = List.take (Tryz.prog.cellsOf 9) [c2]; rw [e2]; rfl
    injection ea' with q0
    injection eb' with q1
    injection es' with q2
    rw [q0, q1, q2]
theorem open_valsW {H : Type} {enc : TypeId × Value → H} {w : World} {base : Nat} {sp : Nat → Bool} {held : Bool} {fuel : Nat} {cs : List Value} {y : DataW H × List MemPlace} (h : DataW.trod enc Tryz.prog w base sp held fuel 22 cs = some y) :
    ∃ (A : Option Addr) (cap : Nat) (l : List S28), cs = [.slice A l.length cap] ∧ Kd.C k28 w A l.length l ∧ l.length ≤ cap ∧ ∀ x ∈ l, (Lit.int .i64 x.f0).wf = true ∧ (Lit.int .i64 x.f1).wf = true := by
  rcases DataW.trod_slice Tryz.underlying22 h with ⟨rfl, _⟩ | ⟨a, len, cap, elems, rest, n, _, rfl, _, _, hl, hm, hlen, hel, _⟩
  · exact ⟨none, 0, [], rfl, Kd.C_nil _ _, Nat.le_refl _, fun _ h => absurd h List.not_mem_nil⟩
  · have e3 : Tryz.prog.cellsOf 28 = 3 := by kernel_rfl
    rw [e3] at hel
    have each : ∀ i, i < len → ∃ x : S28, ((Lit.int .i64 x.f0).wf = true ∧ (Lit.int .i64 x.f1).wf = true) ∧ ∀ j u, ([.int .i64 x.f0, .int .i64 x.f1, .string x.f2] : List Value)[j]? = some u → w.cell? (a.add (i * 3 + j)) = some u := by
      intro i hi
      have h1 := hel i hi
      rw [List.getElem?_eq_getElem (by omega)] at h1
      obtain ⟨c, hc, h2⟩ := Option.bind_eq_some_iff.mp h1
      obtain ⟨x, rfl, hwf⟩ := open_valW h2
      obtain ⟨_, _, hcell⟩ := World.cells?_some hc
      refine ⟨x, hwf, fun j u hu => ?_⟩
      have hj : j < 3 := by have := (List.getElem?_eq_some_iff.1 hu).1; simpa using this
      have := hcell j hj
      rw [hu] at this
      have e : (a.add (i * 3)).add j = a.add (i * 3 + j) := Addr.add_add a (i * 3) j
      rw [← e]
      exact this
    have row : ∀ m, m ≤ len → ∃ l : List S28, l.length = m ∧ (∀ x ∈ l, (Lit.int .i64 x.f0).wf = true ∧ (Lit.int .i64 x.f1).wf = true) ∧ ∀ i x, l[i]? = some x → ∀ j u, ([.int .i64 x.f0, .int .i64 x.f1, .string x.f2] : List Value)[j]? = some u → w.cell? (a.add (i * 3 + j)) = some u := by
      intro m
      induction m with
      | zero => exact fun _ => ⟨[], rfl, fun _ h => absurd h List.not_mem_nil, fun i x hx => by cases hx⟩
      | succ m ih =>
        intro hm'
        obtain ⟨l, h1, h3, h2⟩ := ih (by omega)
        obtain ⟨x, hwf, hx⟩ := each m (by omega)
        refine ⟨l ++ [x], by simp [h1], fun z hz => ?_, fun i z hz => ?_⟩
        · rcases List.mem_append.1 hz with h | h
          · exact h3 z h
          · obtain rfl := List.mem_singleton.1 h
            exact hwf
        · by_cases hi : i < l.length
          · rw [List.getElem?_append_left hi] at hz
            exact h2 i z hz
          · have hi2 : i = m := by
              have := (List.getElem?_eq_some_iff.1 hz).1
              simp at this
              omega
            subst hi2
            rw [List.getElem?_append_right (by omega), h1] at hz
            simp at hz
            subst hz
            exact hx
    obtain ⟨l, h1, h3, h2⟩ := row len (Nat.le_refl _)
    have hb : len ≤ 9223372036854775807 := by unfold maxLen at hm; omega
    refine ⟨some a, cap, l, by rw [h1], ⟨rfl, by omega, fun _ => ⟨a, rfl, fun j p hp => ⟨_, rfl, k28_mk w p, fun i u hu => ?_⟩⟩⟩, by omega, h3⟩
    exact h2 j p hp i u hu
end Go.Proofs.YtngcljmjcbaidaaGreatDoor.H
end
