/- Plain facts on division digit by digit, in base 2 to the 32. -/
import Derived.Lib.BitFns
import Derived.Laws.BitsAllLaws
set_option linter.unusedVariables false
namespace Go.Proofs.YtckonpphagkfeaaGreatDoor.H

theorem bitLen_zero : Lib.bitLen 0 = 0 := by decide
theorem bitLen_bounds : ∀ (n x : Nat), x < 2 ^ n → n ≤ 64 → 1 ≤ x → 1 ≤ Lib.bitLen x ∧ Lib.bitLen x ≤ n ∧ 2 ^ (Lib.bitLen x - 1) ≤ x ∧ x < 2 ^ Lib.bitLen x
  | 0, x, h, _, h1 => by simp at h; omega
  | n + 1, x, h, hn, h1 => by
    have hx : x < 2 ^ 64 := Nat.lt_of_lt_of_le h (Nat.pow_le_pow_right (by decide) hn)
    rw [Lib.bitLen_half x (by omega) hx]
    by_cases h2 : x = 1
    · subst h2
      simp [bitLen_zero]
    · have h3 : x / 2 < 2 ^ n := by rw [Nat.pow_succ] at h; omega
      obtain ⟨a1, a2, a3, a4⟩ := bitLen_bounds n (x / 2) h3 (by omega) (by omega)
      generalize Lib.bitLen (x / 2) = L at *
      obtain ⟨l, rfl⟩ : ∃ l, L = l + 1 := ⟨L - 1, by omega⟩
      refine ⟨by omega, by omega, ?_, ?_⟩
      · have e : 1 + (l + 1) - 1 = l + 1 := by omega
        rw [e, Nat.pow_succ]
        simp only [Nat.add_sub_cancel] at a3
        omega
      · have e : 1 + (l + 1) = (l + 1) + 1 := by omega
        rw [e, Nat.pow_succ]
        omega

/-- With q at least the digit: if the test doesn't strike, q is the digit. -/
theorem digit_done (y1 y0 u d q r v : Nat) (hv : v = y1 * 4294967296 + y0) (hv1 : 1 ≤ v) (hu : u = q * y1 + r) (hQ : (u * 4294967296 + d) / v ≤ q)
    (h2 : q * y0 ≤ 4294967296 * r + d) : q = (u * 4294967296 + d) / v := by
  refine Nat.le_antisymm ?_ hQ
  rw [Nat.le_div_iff_mul_le hv1]
  have e1 : q * v = q * y1 * 4294967296 + q * y0 := by rw [hv, Nat.mul_add, Nat.mul_assoc]
  have e2 : u * 4294967296 = q * y1 * 4294967296 + r * 4294967296 := by rw [hu, Nat.add_mul]
  rw [e1, e2]
  omega
/-- If it strikes, the digit is less than q. -/
theorem digit_less (y1 y0 u d q r v : Nat) (hv : v = y1 * 4294967296 + y0) (hv1 : 1 ≤ v) (hu : u = q * y1 + r) (huv : u < v) (hd : d < 4294967296)
    (h2 : 4294967296 ≤ q ∨ 4294967296 * r + d < q * y0) : (u * 4294967296 + d) / v < q := by
  rw [Nat.div_lt_iff_lt_mul hv1]
  rcases h2 with h2 | h2
  · have e1 : 4294967296 * v ≤ q * v := Nat.mul_le_mul_right _ h2
    omega
  · have e1 : q * v = q * y1 * 4294967296 + q * y0 := by rw [hv, Nat.mul_add, Nat.mul_assoc]
    have e2 : u * 4294967296 = q * y1 * 4294967296 + r * 4294967296 := by rw [hu, Nat.add_mul]
    rw [e1, e2]
    omega
/-- If the rest is great behind a step down, the digit is found. -/
theorem digit_great (y1 y0 u d q r v : Nat) (hv : v = y1 * 4294967296 + y0) (hy1 : 1 ≤ y1) (hy0 : y0 < 4294967296) (hu : u = q * y1 + r) (huv : u < v) (hQ : (u * 4294967296 + d) / v ≤ q)
    (h2 : 4294967296 ≤ r) : q = (u * 4294967296 + d) / v := by
  have hq : q < 4294967296 := by
    rcases Nat.lt_or_ge q 4294967296 with h | h
    · exact h
    · have : 4294967296 * y1 ≤ q * y1 := Nat.mul_le_mul_right _ h
      omega
  have hq0 : q * y0 ≤ 4294967296 * y0 := Nat.mul_le_mul_right _ (by omega)
  refine digit_done y1 y0 u d q r v hv (by omega) hu hQ ?_
  omega
theorem digit_lt (u d v : Nat) (huv : u < v) (hd : d < 4294967296) : (u * 4294967296 + d) / v < 4294967296 := by
  rw [Nat.div_lt_iff_lt_mul (by omega)]
  have : 4294967296 * (u + 1) ≤ 4294967296 * v := Nat.mul_le_mul_left _ huv
  omega
theorem digit_first (y1 y0 u d v : Nat) (hv : v = y1 * 4294967296 + y0) (hy1 : 1 ≤ y1) (hd : d < 4294967296) : (u * 4294967296 + d) / v ≤ u / y1 := by
  rw [Nat.le_div_iff_mul_le hy1]
  have h1 : (u * 4294967296 + d) / v * v ≤ u * 4294967296 + d := Nat.div_mul_le_self _ _
  generalize (u * 4294967296 + d) / v = q at *
  have e1 : q * v = q * y1 * 4294967296 + q * y0 := by rw [hv, Nat.mul_add, Nat.mul_assoc]
  rw [e1] at h1
  generalize q * y1 = a at *
  generalize q * y0 = b at *
  omega
/-- Two digits make the quotient. -/
theorem two_digits (u d1 d0 v : Nat) (hv : 1 ≤ v) :
    ((u * 4294967296 + d1) % v * 4294967296 + d0) / v + (u * 4294967296 + d1) / v * 4294967296 = (u * 18446744073709551616 + (d1 * 4294967296 + d0)) / v ∧
    ((u * 4294967296 + d1) % v * 4294967296 + d0) % v = (u * 18446744073709551616 + (d1 * 4294967296 + d0)) % v := by
  have e : u * 18446744073709551616 + (d1 * 4294967296 + d0) = ((u * 4294967296 + d1) % v * 4294967296 + d0) + v * ((u * 4294967296 + d1) / v * 4294967296) := by
    have := Nat.div_add_mod (u * 4294967296 + d1) v
    generalize (u * 4294967296 + d1) % v = m at *
    generalize (u * 4294967296 + d1) / v = q at *
    have e2 : v * (q * 4294967296) = v * q * 4294967296 := by rw [Nat.mul_assoc]
    rw [e2]
    generalize v * q = p at *
    omega
  rw [e]
  exact ⟨(Nat.add_mul_div_left _ _ hv).symm, (Nat.add_mul_mod_self_left _ _ _).symm⟩
/-- Scaling both sides leaves the quotient, and scales the rest. -/
theorem scaled_div (a y p : Nat) (hp : 1 ≤ p) : a * p / (y * p) = a / y ∧ a * p % (y * p) / p = a % y := by
  refine ⟨Nat.mul_div_mul_right _ _ hp, ?_⟩
  rw [Nat.mul_mod_mul_right]
  exact Nat.mul_div_cancel _ hp
end Go.Proofs.YtckonpphagkfeaaGreatDoor.H
