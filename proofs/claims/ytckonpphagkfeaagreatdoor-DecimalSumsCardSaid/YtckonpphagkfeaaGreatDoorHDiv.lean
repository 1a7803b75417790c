/- math/bits.Div64: the quotient and the remainder of a number of 128 bits. -/
import Derived.Test.YtckonpphagkfeaaGreatDoorDx1
import Derived.Test.YtckonpphagkfeaaGreatDoorPDiv
import Derived.Laws.Bits64b
namespace Go.Proofs.YtckonpphagkfeaaGreatDoor.H
open Go.RowKit Go.Proofs.YtckonpphagkfeaaGreatDoorW.PrintWords Go.Proofs.YtckonpphagkfeaaGreatDoorW.PrintMore Go.Proofs.YtckonpphagkfeaaGreatDoor.D
set_option linter.unusedVariables false

theorem w64 (n : Nat) (h : n < 18446744073709551616) : IntKind.u64.wrap (n : Int) = (n : Int) := by rw [IntKind.wrap_u64]; omega
theorem w64i (x : Int) (n : Nat) (hx : x = (n : Int)) (h : n < 18446744073709551616) : IntKind.u64.wrap x = (n : Int) := by rw [hx]; exact w64 n h

/-- The test of both loops. -/
theorem test_tells (q y0 r d : Nat) (hq : q < 4294967296) (hy0 : y0 < 4294967296) (hr : r < 4294967296) (hd : d < 4294967296) :
    decide (IntKind.u64.wrap ((q : Int) * (y0 : Int)) > IntKind.u64.wrap (IntKind.u64.wrap (4294967296 * (r : Int)) + (d : Int))) = decide (4294967296 * r + d < q * y0) := by
  have h1 : q * y0 ≤ 4294967295 * 4294967295 := Nat.mul_le_mul (by omega) (by omega)
  rw [w64i ((q : Int) * (y0 : Int)) (q * y0) (Int.natCast_mul q y0).symm (by omega), w64i (4294967296 * (r : Int)) (4294967296 * r) (by omega) (by omega),
    w64i (((4294967296 * r : Nat) : Int) + (d : Int)) (4294967296 * r + d) (by omega) (by omega)]
  generalize q * y0 = p
  by_cases h : 4294967296 * r + d < p
  · rw [decide_eq_true h]; exact decide_eq_true (by omega)
  · rw [decide_eq_false h]; exact decide_eq_false (by omega)

theorem less_one (u q y1 r : Nat) (hu : u = q * y1 + r) (hq : 1 ≤ q) : u = (q - 1) * y1 + (r + y1) := by
  obtain ⟨p, rfl⟩ : ∃ p, q = p + 1 := ⟨q - 1, by omega⟩
  rw [hu, Nat.add_sub_cancel, Nat.add_mul]
  omega

theorem l0_tells (v s y1 y0 u d e : Nat) (hv : v = y1 * 4294967296 + y0) (hy1 : 1 ≤ y1) (hy1' : y1 < 4294967296) (hy0 : y0 < 4294967296) (huv : u < v) (hd : d < 4294967296) :
    ∀ (n q r k : Nat), q ≤ (u * 4294967296 + d) / v + n → (u * 4294967296 + d) / v ≤ q → u = q * y1 + r → r < 4294967296 → q < 18446744073709551616 → 2 * n + 3 ≤ k →
      ∃ k', k ≤ k' + 2 * n + 2 ∧ bits_Div64.l0 k v s y1 y0 u d e q r = bits_Div64.j2 k' v s y1 y0 u d e (((u * 4294967296 + d) / v : Nat) : Int) := by
  intro n
  induction n with
  | zero =>
    intro q r k hn hQ hu hr hq hk
    obtain ⟨k, rfl⟩ : ∃ m, k = m + 2 := ⟨k - 2, by omega⟩
    have hqQ : q = (u * 4294967296 + d) / v := by omega
    have hlt := digit_lt u d v huv hd
    have hq2 : q < 4294967296 := by omega
    have ht : ¬ 4294967296 * r + d < q * y0 := fun h => by
      have := digit_less y1 y0 u d q r v hv (by omega) hu huv hd (Or.inr h)
      omega
    refine ⟨k, by omega, ?_⟩
    simp only [bits_Div64.l0, bits_Div64.j1]
    rw [if_neg (by omega), test_tells q y0 r d hq2 hy0 hr hd, decide_eq_false ht, if_neg (by decide), hqQ]
  | succ n ih =>
    intro q r k hn hQ hu hr hq hk
    obtain ⟨k, rfl⟩ : ∃ m, k = m + 2 := ⟨k - 2, by omega⟩
    by_cases hb : 4294967296 ≤ q ∨ 4294967296 * r + d < q * y0
    · have hless := digit_less y1 y0 u d q r v hv (by omega) hu huv hd hb
      have hq1 : 1 ≤ q := Nat.lt_of_le_of_lt (Nat.zero_le _) hless
      have hless' := Nat.le_sub_one_of_lt hless
      have hu' := less_one u q y1 r hu hq1
      have hc : (if (q : Int) ≥ 4294967296 then (bits_Div64.j1 (k + 1) v s y1 y0 u d e q r true) else (bits_Div64.j1 (k + 1) v s y1 y0 u d e q r (decide ((IntKind.u64.wrap ((q : Int) * (y0 : Int))) > (IntKind.u64.wrap ((IntKind.u64.wrap (4294967296 * (r : Int))) + (d : Int))))))) = bits_Div64.j1 (k + 1) v s y1 y0 u d e q r true := by
        by_cases hq2 : q < 4294967296
        · have ht : 4294967296 * r + d < q * y0 := by omega
          rw [if_neg (by omega), test_tells q y0 r d hq2 hy0 hr hd, decide_eq_true ht]
        · rw [if_pos (by omega)]
      have hw1 : IntKind.u64.wrap ((q : Int) - 1) = ((q - 1 : Nat) : Int) := w64i _ _ (by omega) (by omega)
      have hw2 : IntKind.u64.wrap ((r : Int) + (y1 : Int)) = ((r + y1 : Nat) : Int) := w64i _ _ (by omega) (by omega)
      by_cases hg : 4294967296 ≤ r + y1
      · have hd1 := digit_great y1 y0 u d (q - 1) (r + y1) v hv hy1 hy0 hu' huv hless' hg
        refine ⟨k, by omega, ?_⟩
        simp only [bits_Div64.l0]
        rw [hc]
        simp only [bits_Div64.j1]
        rw [if_pos trivial, hw2, if_pos (by omega), hw1, ← hd1]
      · obtain ⟨k', hk', he⟩ := ih (q - 1) (r + y1) k (by omega) hless' hu' (by omega) (by omega) (by omega)
        refine ⟨k', by omega, ?_⟩
        simp only [bits_Div64.l0]
        rw [hc]
        simp only [bits_Div64.j1]
        rw [if_pos trivial, hw2, if_neg (by omega), hw1, he]
    · have hq2 : q < 4294967296 := by omega
      have ht : ¬ 4294967296 * r + d < q * y0 := by omega
      have hdone := digit_done y1 y0 u d q r v hv (by omega) hu hQ (by omega)
      refine ⟨k, by omega, ?_⟩
      simp only [bits_Div64.l0, bits_Div64.j1]
      rw [if_neg (by omega), test_tells q y0 r d hq2 hy0 hr hd, decide_eq_false ht, if_neg (by decide), ← hdone]

/-- What the second loop ends in. -/
def fin (s v q1 u e q0 : Nat) : Option (Int × Int) :=
  some ((IntKind.u64.wrap ((IntKind.u64.wrap ((q1 : Int) * 4294967296)) + (q0 : Int))), shr .u64 (IntKind.u64.wrap ((IntKind.u64.wrap ((IntKind.u64.wrap ((u : Int) * 4294967296)) + (e : Int))) - (IntKind.u64.wrap ((q0 : Int) * (v : Int))))) s)

theorem l1_tells (v s y1 y0 u d q1 : Nat) (hv : v = y1 * 4294967296 + y0) (hy1 : 1 ≤ y1) (hy1' : y1 < 4294967296) (hy0 : y0 < 4294967296) (huv : u < v) (hd : d < 4294967296) :
    ∀ (n q r k : Nat), q ≤ (u * 4294967296 + d) / v + n → (u * 4294967296 + d) / v ≤ q → u = q * y1 + r → r < 4294967296 → q < 18446744073709551616 → 2 * n + 3 ≤ k →
      bits_Div64.l1 k v s y1 y0 d q1 r u q = fin s v q1 u d ((u * 4294967296 + d) / v) := by
  intro n
  induction n with
  | zero =>
    intro q r k hn hQ hu hr hq hk
    obtain ⟨k, rfl⟩ : ∃ m, k = m + 2 := ⟨k - 2, by omega⟩
    have hqQ : q = (u * 4294967296 + d) / v := by omega
    have hlt := digit_lt u d v huv hd
    have hq2 : q < 4294967296 := by omega
    have ht : ¬ 4294967296 * r + d < q * y0 := fun h => by
      have := digit_less y1 y0 u d q r v hv (by omega) hu huv hd (Or.inr h)
      omega
    simp only [bits_Div64.l1, bits_Div64.j4]
    rw [if_neg (by omega), test_tells q y0 r d hq2 hy0 hr hd, decide_eq_false ht, if_neg (by decide), if_pos (by omega), hqQ]
    rfl
  | succ n ih =>
    intro q r k hn hQ hu hr hq hk
    obtain ⟨k, rfl⟩ : ∃ m, k = m + 2 := ⟨k - 2, by omega⟩
    by_cases hb : 4294967296 ≤ q ∨ 4294967296 * r + d < q * y0
    · have hless := digit_less y1 y0 u d q r v hv (by omega) hu huv hd hb
      have hq1 : 1 ≤ q := Nat.lt_of_le_of_lt (Nat.zero_le _) hless
      have hless' := Nat.le_sub_one_of_lt hless
      have hu' := less_one u q y1 r hu hq1
      have hc : (if (q : Int) ≥ 4294967296 then (bits_Div64.j4 (k + 1) v s y1 y0 d q1 r u q true) else (bits_Div64.j4 (k + 1) v s y1 y0 d q1 r u q (decide ((IntKind.u64.wrap ((q : Int) * (y0 : Int))) > (IntKind.u64.wrap ((IntKind.u64.wrap (4294967296 * (r : Int))) + (d : Int))))))) = bits_Div64.j4 (k + 1) v s y1 y0 d q1 r u q true := by
        by_cases hq2 : q < 4294967296
        · have ht : 4294967296 * r + d < q * y0 := by omega
          rw [if_neg (by omega), test_tells q y0 r d hq2 hy0 hr hd, decide_eq_true ht]
        · rw [if_pos (by omega)]
      have hw1 : IntKind.u64.wrap ((q : Int) - 1) = ((q - 1 : Nat) : Int) := w64i _ _ (by omega) (by omega)
      have hw2 : IntKind.u64.wrap ((r : Int) + (y1 : Int)) = ((r + y1 : Nat) : Int) := w64i _ _ (by omega) (by omega)
      by_cases hg : 4294967296 ≤ r + y1
      · have hd1 := digit_great y1 y0 u d (q - 1) (r + y1) v hv hy1 hy0 hu' huv hless' hg
        simp only [bits_Div64.l1]
        rw [hc]
        simp only [bits_Div64.j4]
        rw [if_pos trivial, hw2, if_pos (by omega), hw1, if_pos (by omega), ← hd1]
        rfl
      · have he := ih (q - 1) (r + y1) k (by omega) hless' hu' (by omega) (by omega) (by omega)
        simp only [bits_Div64.l1]
        rw [hc]
        simp only [bits_Div64.j4]
        rw [if_pos trivial, hw2, if_neg (by omega), hw1, he]
    · have hq2 : q < 4294967296 := by omega
      have ht : ¬ 4294967296 * r + d < q * y0 := by omega
      have hdone := digit_done y1 y0 u d q r v hv (by omega) hu hQ (by omega)
      simp only [bits_Div64.l1, bits_Div64.j4]
      rw [if_neg (by omega), test_tells q y0 r d hq2 hy0 hr hd, decide_eq_false ht, if_neg (by decide), if_pos (by omega), ← hdone]
      rfl

theorem rest_tells (x d Q v r : Nat) (hr : r + Q * v = x * 4294967296 + d) (hlt : r < 18446744073709551616) :
    IntKind.u64.wrap ((IntKind.u64.wrap ((IntKind.u64.wrap ((x : Int) * 4294967296)) + (d : Int))) - (IntKind.u64.wrap ((Q : Int) * (v : Int)))) = (r : Int) := by
  have e : (Q : Int) * (v : Int) = ((Q * v : Nat) : Int) := (Int.natCast_mul Q v).symm
  rw [e]
  generalize Q * v = p at *
  simp only [IntKind.wrap_u64]
  omega
theorem first_q (u y1 : Nat) (h : u < 18446744073709551616) : IntKind.u64.wrap (Int.tdiv (u : Int) (y1 : Int)) = ((u / y1 : Nat) : Int) := by
  rw [← Int.ofNat_tdiv]
  exact w64 _ (Nat.lt_of_le_of_lt (Nat.div_le_self _ _) h)
theorem first_r (u y1 : Nat) (h : u < 18446744073709551616) : IntKind.u64.wrap ((u : Int) - IntKind.u64.wrap (((u / y1 : Nat) : Int) * (y1 : Int))) = ((u % y1 : Nat) : Int) := by
  have e : ((u / y1 : Nat) : Int) * (y1 : Int) = ((u / y1 * y1 : Nat) : Int) := (Int.natCast_mul _ _).symm
  rw [e]
  have h1 : u / y1 * y1 ≤ u := Nat.div_mul_le_self _ _
  have h2 : u % y1 = u - u / y1 * y1 := by
    have := Nat.div_add_mod u y1
    rw [Nat.mul_comm] at this
    omega
  rw [h2]
  generalize u / y1 * y1 = p at *
  rw [w64 p (by omega)]
  exact w64i _ _ (by omega) (by omega)

/-- Both loops, from the start on. -/
theorem loops_tell (v s y1 y0 u d e : Nat) (hv : v = y1 * 4294967296 + y0) (hv64 : v < 18446744073709551616) (hy1 : 1 ≤ y1) (hy1' : y1 < 4294967296) (hy0 : y0 < 4294967296) (huv : u < v) (hd : d < 4294967296) (he : e < 4294967296) (hs : s ≤ 63) :
    ∃ k, bits_Div64.l0 k v s y1 y0 u d e ((u / y1 : Nat) : Int) ((u % y1 : Nat) : Int) =
      some ((((u * 18446744073709551616 + (d * 4294967296 + e)) / v : Nat) : Int), (((u * 18446744073709551616 + (d * 4294967296 + e)) % v / 2 ^ s : Nat) : Int)) := by
  have hdm : ∀ a : Nat, a = a / y1 * y1 + a % y1 := fun a => by
    have := Nat.div_add_mod a y1
    rw [Nat.mul_comm] at this
    omega
  have hm : ∀ a : Nat, a % y1 < 4294967296 := fun a => Nat.lt_of_lt_of_le (Nat.mod_lt a (by omega)) (by omega)
  have hq64 : ∀ a : Nat, a < v → a / y1 < 18446744073709551616 := fun a ha => Nat.lt_of_le_of_lt (Nat.div_le_self _ _) (by omega)
  have hR : (u * 4294967296 + d) % v < v := Nat.mod_lt _ (by omega)
  obtain ⟨K, hK⟩ : ∃ K, K = 2 * (u / y1) + 3 + (2 * ((u * 4294967296 + d) % v / y1) + 4) := ⟨_, rfl⟩
  obtain ⟨k', hk', e0⟩ := l0_tells v s y1 y0 u d e hv hy1 hy1' hy0 huv hd (u / y1) (u / y1) (u % y1) K (Nat.le_add_left _ _) (digit_first y1 y0 u d v hv hy1 hd) (hdm u) (hm u) (hq64 u huv) (by omega)
  refine ⟨K, e0.trans ?_⟩
  clear e0
  obtain ⟨k, rfl⟩ : ∃ m, k' = m + 1 := ⟨k' - 1, by omega⟩
  have hrest := rest_tells u d ((u * 4294967296 + d) / v) v ((u * 4294967296 + d) % v) (by have := Nat.div_add_mod (u * 4294967296 + d) v; rw [Nat.mul_comm] at this; omega) (by omega)
  have hl1 := digit_lt u d v huv hd
  have hl2 := digit_lt ((u * 4294967296 + d) % v) e v hR he
  have ht := two_digits u d e v (by omega)
  obtain ⟨Q1, hQ1⟩ : ∃ Q1, Q1 = (u * 4294967296 + d) / v := ⟨_, rfl⟩
  obtain ⟨R1, hR1⟩ : ∃ R1, R1 = (u * 4294967296 + d) % v := ⟨_, rfl⟩
  rw [← hQ1, ← hR1] at hrest ht
  rw [← hQ1] at hl1
  rw [← hR1] at hl2 hR hK
  rw [← hQ1]
  clear hQ1 hR1
  have e1 := l1_tells v s y1 y0 R1 e Q1 hv hy1 hy1' hy0 hR he (R1 / y1) (R1 / y1) (R1 % y1) k (Nat.le_add_left _ _) (digit_first y1 y0 R1 e v hv hy1 he) (hdm R1) (hm R1) (hq64 R1 hR) (by omega)
  simp only [bits_Div64.j2]
  rw [if_neg (by omega), hrest, first_q R1 y1 (by omega), first_r R1 y1 (by omega), e1]
  have hrest2 := rest_tells R1 e ((R1 * 4294967296 + e) / v) v ((R1 * 4294967296 + e) % v) (by have := Nat.div_add_mod (R1 * 4294967296 + e) v; rw [Nat.mul_comm] at this; omega) (Nat.lt_trans (Nat.mod_lt _ (by omega)) hv64)
  unfold fin
  rw [hrest2, ht.2]
  have hq : (IntKind.u64.wrap ((IntKind.u64.wrap ((Q1 : Int) * 4294967296)) + (((R1 * 4294967296 + e) / v : Nat) : Int))) = (((u * 18446744073709551616 + (d * 4294967296 + e)) / v : Nat) : Int) := by
    rw [← ht.1]
    obtain ⟨Q0, hQ0⟩ : ∃ Q0, Q0 = (R1 * 4294967296 + e) / v := ⟨_, rfl⟩
    rw [← hQ0] at hl2 ⊢
    clear ht hrest hrest2 hK hQ0
    rw [w64i ((Q1 : Int) * 4294967296) (Q1 * 4294967296) (by omega) (by omega)]
    exact w64i _ _ (by omega) (by omega)
  rw [hq]
  generalize (u * 18446744073709551616 + (d * 4294967296 + e)) / v = A
  generalize (u * 18446744073709551616 + (d * 4294967296 + e)) % v = M
  have hsh : shr .u64 (M : Int) (s : Int) = ((M / 2 ^ s : Nat) : Int) := by
    unfold shr
    have : min (s : Int).toNat IntKind.u64.bits = s := by rw [Int.toNat_natCast]; exact Nat.min_eq_left (by show s ≤ 64; omega)
    rw [this, Int.natCast_ediv]
    simp
  rw [hsh]

theorem shl_tells (a s : Nat) (hs : s ≤ 64) (h : a * 2 ^ s < 18446744073709551616) : shl .u64 (a : Int) (s : Int) = ((a * 2 ^ s : Nat) : Int) := by
  unfold shl
  have : min (s : Int).toNat IntKind.u64.bits = s := by rw [Int.toNat_natCast]; exact Nat.min_eq_left (by show s ≤ 64; omega)
  rw [this]
  exact w64i _ _ (by rw [Int.natCast_mul]; simp) h
theorem shl_mod (a s : Nat) (hs : s ≤ 64) : shl .u64 (a : Int) (s : Int) = ((a * 2 ^ s % 18446744073709551616 : Nat) : Int) := by
  unfold shl
  have : min (s : Int).toNat IntKind.u64.bits = s := by rw [Int.toNat_natCast]; exact Nat.min_eq_left (by show s ≤ 64; omega)
  have e : (a : Int) * 2 ^ s = ((a * 2 ^ s : Nat) : Int) := by rw [Int.natCast_mul]; simp
  rw [this, e, IntKind.wrap_u64]
  generalize a * 2 ^ s = p
  omega
theorem shr_tells (a s : Nat) (hs : s ≤ 64) : shr .u64 (a : Int) (s : Int) = ((a / 2 ^ s : Nat) : Int) := by
  unfold shr
  have : min (s : Int).toNat IntKind.u64.bits = s := by rw [Int.toNat_natCast]; exact Nat.min_eq_left (by show s ≤ 64; omega)
  rw [this, Int.natCast_ediv]
  simp

theorem lz_tells (y : Nat) (h1 : 1 ≤ y) (h2 : y < 18446744073709551616) : ∃ s : Nat, s ≤ 63 ∧ bits_LeadingZeros64.f (y : Int) = some (s : Int) ∧ y * 2 ^ s < 18446744073709551616 ∧ 9223372036854775808 ≤ y * 2 ^ s := by
  obtain ⟨a1, a2, a3, a4⟩ := bitLen_bounds 64 y h2 (Nat.le_refl _) h1
  refine ⟨64 - Lib.bitLen y, by omega, ?_, ?_, ?_⟩
  · unfold bits_LeadingZeros64.f bits_Len64.f
    rw [if_pos (by omega)]
    simp only [Option.bind_some, Int.toNat_natCast, Option.some.injEq]
    unfold wrap64
    omega
  · have : y * 2 ^ (64 - Lib.bitLen y) < 2 ^ Lib.bitLen y * 2 ^ (64 - Lib.bitLen y) := Nat.mul_lt_mul_of_pos_right a4 (Nat.two_pow_pos _)
    rw [← Nat.pow_add, show Lib.bitLen y + (64 - Lib.bitLen y) = 64 by omega] at this
    exact this
  · have : 2 ^ (Lib.bitLen y - 1) * 2 ^ (64 - Lib.bitLen y) ≤ y * 2 ^ (64 - Lib.bitLen y) := Nat.mul_le_mul_right _ a3
    rw [← Nat.pow_add, show Lib.bitLen y - 1 + (64 - Lib.bitLen y) = 63 by omega] at this
    exact this

theorem digits_join (a : Nat) : a / 4294967296 * 4294967296 + a % 4294967296 = a := by omega

theorem div64_pure (hi lo y : Nat) (h : hi < y) (hl : lo < 18446744073709551616) (hy : y < 18446744073709551616) :
    ∃ k, bits_Div64.f k hi lo y = some ((((hi * 18446744073709551616 + lo) / y : Nat) : Int), (((hi * 18446744073709551616 + lo) % y : Nat) : Int)) := by
  by_cases h0 : hi = 0
  · subst h0
    refine ⟨0, ?_⟩
    unfold bits_Div64.f
    rw [if_neg (by omega), if_neg (by omega), if_pos (show ((0 : Nat) : Int) = 0 from rfl)]
    have e1 : IntKind.u64.wrap (Int.tdiv (lo : Int) (y : Int)) = ((lo / y : Nat) : Int) := first_q lo y hl
    have e2 : Int.tmod (lo : Int) (y : Int) = ((lo % y : Nat) : Int) := (Int.ofNat_tmod lo y).symm
    rw [e1, e2, Nat.zero_mul, Nat.zero_add]
  · obtain ⟨s, hs, hlz, hv1, hv2⟩ := lz_tells y (by omega) hy
    have hp1 : 1 ≤ 2 ^ s := Nat.two_pow_pos s
    have hpp : 2 ^ s * 2 ^ (64 - s) = 18446744073709551616 := by rw [← Nat.pow_add, show s + (64 - s) = 64 by omega]
    have hhp : (hi + 1) * 2 ^ s ≤ y * 2 ^ s := Nat.mul_le_mul_right _ h
    rw [Nat.add_mul, Nat.one_mul] at hhp
    have hlo1 : lo / 2 ^ (64 - s) < 2 ^ s := by
      rw [Nat.div_lt_iff_lt_mul (Nat.two_pow_pos _), hpp]
      exact hl
    have hw1 : IntKind.u64.wrap (s : Int) = (s : Int) := w64 s (by omega)
    have hw2 : IntKind.u64.wrap (64 - (s : Int)) = ((64 - s : Nat) : Int) := w64i _ _ (by omega) (by omega)
    have hor : Go.bits .or .u64 ((hi * 2 ^ s : Nat) : Int) ((lo / 2 ^ (64 - s) : Nat) : Int) = ((hi * 2 ^ s + lo / 2 ^ (64 - s) : Nat) : Int) := by
      rw [u64_or_nat _ _ (by omega) (by omega)]
      have := Nat.two_pow_add_eq_or_of_lt hlo1 hi
      rw [Nat.mul_comm] at this
      rw [this]
    have hand : ∀ a : Nat, a < 18446744073709551616 → Go.bits .and .u64 (a : Int) 4294967295 = ((a % 4294967296 : Nat) : Int) := fun a ha => by
      have e := bits_and_u64_nat a 4294967295 ha (by decide)
      have e2 : a &&& 4294967295 = a % 4294967296 := Nat.and_two_pow_sub_one_eq_mod a 32
      rw [e2] at e
      exact e
    have hdiv : ∀ a : Nat, (a : Int) / 4294967296 = ((a / 4294967296 : Nat) : Int) := fun a => by omega
    have hm64 : lo * 2 ^ s % 18446744073709551616 < 18446744073709551616 := Nat.mod_lt _ (by decide)
    have hkey : (hi * 2 ^ s + lo / 2 ^ (64 - s)) * 18446744073709551616 + lo * 2 ^ s % 18446744073709551616 = (hi * 18446744073709551616 + lo) * 2 ^ s := by
      have e1 : lo * 2 ^ s % 18446744073709551616 = lo % 2 ^ (64 - s) * 2 ^ s := by
        rw [← hpp, Nat.mul_comm (2 ^ s) (2 ^ (64 - s)), Nat.mul_mod_mul_right]
      have e2 := Nat.div_add_mod lo (2 ^ (64 - s))
      have e3 : lo * 2 ^ s = lo / 2 ^ (64 - s) * 18446744073709551616 + lo % 2 ^ (64 - s) * 2 ^ s := by
        rw [← hpp]
        calc lo * 2 ^ s = (2 ^ (64 - s) * (lo / 2 ^ (64 - s)) + lo % 2 ^ (64 - s)) * 2 ^ s := by rw [e2]
          _ = _ := by rw [Nat.add_mul]; congr 1; rw [Nat.mul_comm (2 ^ (64 - s)), Nat.mul_assoc, Nat.mul_comm (2 ^ (64 - s))]
      have e4 : hi * 18446744073709551616 * 2 ^ s = hi * 2 ^ s * 18446744073709551616 := by rw [Nat.mul_assoc, Nat.mul_comm 18446744073709551616, Nat.mul_assoc]
      rw [e1, Nat.add_mul, Nat.add_mul, e4, e3]
      omega
    obtain ⟨k, hk⟩ := loops_tell (y * 2 ^ s) s (y * 2 ^ s / 4294967296) (y * 2 ^ s % 4294967296) (hi * 2 ^ s + lo / 2 ^ (64 - s)) (lo * 2 ^ s % 18446744073709551616 / 4294967296) (lo * 2 ^ s % 18446744073709551616 % 4294967296)
      (by omega) hv1 (by omega) (by omega) (by omega) (by omega) (by omega) (by omega) hs
    refine ⟨k, ?_⟩
    unfold bits_Div64.f
    rw [if_neg (by omega), if_neg (by omega), if_neg (by omega), hlz]
    simp only [Option.bind_some]
    rw [hw1, hw2, if_pos (by omega), if_pos (by omega), shl_tells y s (by omega) hv1, shl_tells hi s (by omega) (by omega), shr_tells lo (64 - s) (by omega), shl_mod lo s (by omega), hor]
    simp only [hdiv, hand _ hv1, hand _ hm64]
    rw [if_neg (by omega), first_q _ _ (by omega), first_r _ _ (by omega), hk]
    have hsc := scaled_div (hi * 18446744073709551616 + lo) y (2 ^ s) hp1
    have e5 : ∀ a : Nat, a / 4294967296 * 4294967296 + a % 4294967296 = a := digits_join
    rw [e5, hkey, hsc.1, hsc.2]

theorem div64_calls (hi lo y : Nat) (h : hi < y) (hl : lo < 18446744073709551616) (hy : y < 18446744073709551616) (w : World) :
    Calls Tryz.prog 75 #[.int .u64 hi, .int .u64 lo, .int .u64 y] w fun e w' => e = .returned (.tuple #[.int .u64 (((hi * 18446744073709551616 + lo) / y : Nat) : Int), .int .u64 (((hi * 18446744073709551616 + lo) % y : Nat) : Int)]) ∧ Drawn0 w w' := by
  obtain ⟨k, hk⟩ := div64_pure hi lo y h hl hy
  exact bits_Div64.calls k _ _ _ _ _ w hk
end Go.Proofs.YtckonpphagkfeaaGreatDoor.H
