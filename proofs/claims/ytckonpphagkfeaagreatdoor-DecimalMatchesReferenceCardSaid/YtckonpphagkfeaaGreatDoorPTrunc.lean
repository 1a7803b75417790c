/- Plain facts on truncation. -/
import Derived.Test.YtckonpphagkfeaaGreatDoorHTab
import Derived.Test.YtckonpphagkfeaaGreatDoorPRound
set_option linter.unusedVariables false
set_option linter.unusedSimpArgs false
namespace Go.Proofs.YtckonpphagkfeaaGreatDoor.H
open Go.RowKit

def truncR (a : Int) (s : Nat) : Int := Int.tdiv a (stepOf (s : Int)) * stepOf (s : Int)
theorem stepOf_nat (s : Nat) (hs : s < 7) : stepOf (s : Int) = ((10 ^ (6 - s) : Nat) : Int) := by
  have : ∀ i : Fin 7, stepsTab.getD i.val 0 = ((10 ^ (6 - i.val) : Nat) : Int) := by decide
  have := this ⟨s, hs⟩
  unfold stepOf
  rw [Int.toNat_natCast]
  exact this
theorem step_bounds (s : Nat) (hs : s < 7) : 1 ≤ stepOf (s : Int) ∧ stepOf (s : Int) ≤ 1000000 := by
  have := stepOf_pos s hs
  unfold stepOf
  rw [Int.toNat_natCast]
  exact this
theorem trunc_sum (a : Int) (s : Nat) : truncR a s + Int.tmod a (stepOf (s : Int)) = a := by
  unfold truncR
  exact Int.tdiv_mul_add_tmod a _
theorem trunc_pos (a : Int) (s : Nat) (hs : s < 7) (h : 0 ≤ a) : 0 ≤ truncR a s ∧ truncR a s ≤ a ∧ a - truncR a s < stepOf (s : Int) := by
  have hb := step_bounds s hs
  have h1 := trunc_sum a s
  have h2 := Int.tmod_nonneg (stepOf (s : Int)) h
  have h3 := Int.tmod_lt_of_pos a (show 0 < stepOf (s : Int) by omega)
  refine ⟨?_, by omega, by omega⟩
  exact Int.mul_nonneg (Int.tdiv_nonneg h (by omega)) (by omega)
theorem trunc_neg (a : Int) (s : Nat) : truncR (-a) s = -truncR a s := by
  unfold truncR
  rw [Int.neg_tdiv, Int.neg_mul]
theorem trunc_min (a : Int) (s : Nat) (hs : s < 7) (h : a < 0) : truncR a s ≤ 0 ∧ a ≤ truncR a s ∧ truncR a s - a < stepOf (s : Int) := by
  have := trunc_pos (-a) s hs (by omega)
  rw [trunc_neg] at this
  omega
theorem trunc_f (a : Int) (s : Nat) (hs : s < 7) (h0 : -9223372036854775808 ≤ a) (h1 : a ≤ 9223372036854775807) : decimal_Trunc.f a (s : Int) = some (truncR a s) := by
  unfold decimal_Trunc.f
  rw [if_pos (by omega)]
  have hb := step_bounds s hs
  have e : -9223372036854775808 ≤ truncR a s ∧ truncR a s ≤ 9223372036854775807 := by
    by_cases h : 0 ≤ a
    · have := trunc_pos a s hs h; omega
    · have := trunc_min a s hs (by omega); omega
  have hd : -9223372036854775808 ≤ Int.tdiv a (stepOf (s : Int)) ∧ Int.tdiv a (stepOf (s : Int)) ≤ 9223372036854775807 := by
    by_cases h : 0 ≤ a
    · have h2 := Int.tdiv_nonneg h (show 0 ≤ stepOf (s : Int) by omega)
      have h3 : Int.tdiv a (stepOf (s : Int)) ≤ a := by rw [Int.tdiv_eq_ediv_of_nonneg h]; exact Int.ediv_le_self _ h
      omega
    · have h4 : 0 ≤ -a := by omega
      have h2 := Int.tdiv_nonneg h4 (show 0 ≤ stepOf (s : Int) by omega)
      have h3 : Int.tdiv (-a) (stepOf (s : Int)) ≤ -a := by rw [Int.tdiv_eq_ediv_of_nonneg h4]; exact Int.ediv_le_self _ h4
      rw [Int.neg_tdiv] at h2 h3
      omega
  rw [wrap64_id _ hd]
  unfold truncR at e
  rw [wrap64_id _ e]
  rfl
theorem trunc_mod (a : Int) (s : Nat) : Int.tmod (truncR a s) (stepOf (s : Int)) = 0 := by
  unfold truncR
  exact Int.mul_tmod_left _ _
theorem fits_f' (a : Int) (s : Nat) (hs : s < 7) : decimal_Fits.f a (s : Int) = some (Int.tmod a (stepOf (s : Int)) == 0) := by
  unfold decimal_Fits.f
  rw [if_pos (by omega)]
theorem trunc_same (a : Int) (s : Nat) : (truncR a s == a) = (Int.tmod a (stepOf (s : Int)) == 0) := by
  have := trunc_sum a s
  rw [Bool.eq_iff_iff, beq_iff_eq, beq_iff_eq]
  omega
theorem trunc_mono (a b : Int) (s : Nat) (hs : s < 7) (h : a ≤ b) : truncR a s ≤ truncR b s := by
  have hb := step_bounds s hs
  unfold truncR
  refine Int.mul_le_mul_of_nonneg_right ?_ (by omega)
  by_cases h0 : 0 ≤ a
  · rw [Int.tdiv_eq_ediv_of_nonneg h0, Int.tdiv_eq_ediv_of_nonneg (by omega)]
    exact Int.ediv_le_ediv (by omega) h
  · by_cases h1 : 0 ≤ b
    · have h2 := Int.tdiv_nonneg h1 (show 0 ≤ stepOf (s : Int) by omega)
      have h3 := Int.tdiv_nonneg (show 0 ≤ -a by omega) (show 0 ≤ stepOf (s : Int) by omega)
      rw [Int.neg_tdiv] at h3
      omega
    · have h3 : Int.tdiv (-b) (stepOf (s : Int)) ≤ Int.tdiv (-a) (stepOf (s : Int)) := by
        rw [Int.tdiv_eq_ediv_of_nonneg (by omega), Int.tdiv_eq_ediv_of_nonneg (by omega)]
        exact Int.ediv_le_ediv (by omega) (by omega)
      rw [Int.neg_tdiv, Int.neg_tdiv] at h3
      omega
theorem step_split (s t : Nat) (ht : t < 7) (h : s ≤ t) : stepOf (s : Int) = stepOf (t : Int) * ((10 ^ (t - s) : Nat) : Int) := by
  rw [stepOf_nat s (by omega), stepOf_nat t ht, ← Int.natCast_mul, ← Nat.pow_add]
  congr 2
  omega
theorem tdiv_tdiv (a m n : Int) (hm : 0 < m) (hn : 0 < n) : (a.tdiv m).tdiv n = a.tdiv (m * n) := by
  have hp : ∀ x : Int, 0 ≤ x → (x.tdiv m).tdiv n = x.tdiv (m * n) := fun x hx => by
    have := Int.tdiv_nonneg hx (show 0 ≤ m by omega)
    rw [Int.tdiv_eq_ediv_of_nonneg this, Int.tdiv_eq_ediv_of_nonneg hx, Int.tdiv_eq_ediv_of_nonneg hx, Int.ediv_ediv_of_nonneg (by omega)]
  by_cases h : 0 ≤ a
  · exact hp a h
  · have := hp (-a) (by omega)
    rw [Int.neg_tdiv, Int.neg_tdiv, Int.neg_tdiv] at this
    omega
theorem trunc_twice (a : Int) (s t : Nat) (hs : s < 7) (ht : t < 7) : truncR (truncR a s) t = truncR a (min s t) := by
  have hbs := step_bounds s hs
  have hbt := step_bounds t ht
  rcases Nat.le_total s t with h | h
  · rw [Nat.min_eq_left h]
    have hd : Int.tmod (truncR a s) (stepOf (t : Int)) = 0 := by
      unfold truncR
      rw [step_split s t ht h, ← Int.mul_assoc, Int.mul_right_comm]
      exact Int.mul_tmod_left _ _
    have := trunc_sum (truncR a s) t
    omega
  · rw [Nat.min_eq_right h]
    have he := step_split t s hs h
    have hp : (0 : Int) < ((10 ^ (s - t) : Nat) : Int) := by
      have : 0 < 10 ^ (s - t) := Nat.pow_pos (by decide)
      omega
    have : Int.tdiv (truncR a s) (stepOf (t : Int)) = Int.tdiv a (stepOf (t : Int)) := by
      unfold truncR
      rw [he, Int.mul_comm (a.tdiv _), Int.mul_tdiv_mul_of_pos _ _ (by omega)]
      rw [← tdiv_tdiv a _ _ (by omega) hp]
    unfold truncR at this ⊢
    rw [this]
end Go.Proofs.YtckonpphagkfeaaGreatDoor.H
