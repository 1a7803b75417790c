/- Plain facts on the rounded fraction: how far it is from the exact one, when it is an error, its sign. -/
import Derived.Test.YtckonpphagkfeaaGreatDoorHFrac
set_option linter.unusedVariables false
set_option linter.unusedSimpArgs false
namespace Go.Proofs.YtckonpphagkfeaaGreatDoor.H
open Go.RowKit

theorem wrap64_id (n : Int) (h : -9223372036854775808 ≤ n ∧ n ≤ 9223372036854775807) : wrap64 n = n := by unfold wrap64; omega

/-- The rounded fraction's size. -/
def roundN (num den : Nat) : Nat := if num % den > den - num % den ∨ (num % den = den - num % den ∧ num / den % 2 = 1) then num / den + 1 else num / den

theorem roundR_eq (num den : Nat) (m : Bool) : roundR num den m = if 1000000000000000 < roundN num den then (0, 2) else (if m then -(roundN num den : Int) else (roundN num den : Int), 0) := by
  unfold roundR roundN
  split
  · rename_i h
    rw [if_pos]
    split <;> omega
  · split
    · split <;> rfl
    · rfl

theorem roundN_spec (num den : Nat) (hd : 0 < den) :
    2 * num ≤ 2 * (roundN num den * den) + den ∧ 2 * (roundN num den * den) ≤ 2 * num + den ∧ ((2 * num = 2 * (roundN num den * den) + den ∨ 2 * (roundN num den * den) = 2 * num + den) → roundN num den % 2 = 0) := by
  have h1 := Nat.div_add_mod num den
  have h2 := Nat.mod_lt num hd
  unfold roundN
  generalize num / den = q at *
  generalize num % den = r at *
  rw [Nat.mul_comm] at h1
  split
  · have e : (q + 1) * den = q * den + den := by rw [Nat.add_mul, Nat.one_mul]
    rw [e]
    generalize q * den = D at *
    rename_i h
    refine ⟨by omega, by omega, fun h' => ?_⟩
    rcases h with h | ⟨h, h3⟩ <;> omega
  · generalize hD : q * den = D at *
    rename_i h
    refine ⟨by omega, by omega, fun h' => ?_⟩
    omega

theorem roundN_exact (q den : Nat) (hd : 0 < den) : roundN (q * den) den = q := by
  unfold roundN
  rw [Nat.mul_mod_left, Nat.mul_div_cancel _ hd, if_neg]
  omega

theorem roundN_zero (den : Nat) (hd : 0 < den) : roundN 0 den = 0 := by
  have := roundN_exact 0 den hd
  rwa [Nat.zero_mul] at this

theorem okN_true {n : Int} (h0 : -1000000000000000 ≤ n) (h1 : n ≤ 1000000000000000) : okN n = true := by
  simp [okN, h0, h1]

/-- A product of numbers in range. -/
theorem mulR_in {a b : Int} (ha : -1000000000000000 ≤ a ∧ a ≤ 1000000000000000) (hb : -1000000000000000 ≤ b ∧ b ≤ 1000000000000000) :
    mulR a b = if 1000000000000000 < roundN (a.natAbs * b.natAbs) 1000000 then (0, 2) else (if (decide (a < 0) != decide (b < 0)) then -(roundN (a.natAbs * b.natAbs) 1000000 : Int) else (roundN (a.natAbs * b.natAbs) 1000000 : Int), 0) := by
  unfold mulR
  rw [okN_true ha.1 ha.2, okN_true hb.1 hb.2, Bool.and_self, if_pos rfl, roundR_eq]

theorem mulR_comm (a b : Int) : mulR a b = mulR b a := by
  unfold mulR
  rw [Nat.mul_comm, Bool.and_comm]
  cases okN b <;> cases okN a <;> cases decide (a < 0) <;> cases decide (b < 0) <;> rfl

theorem mulR_neg {a b : Int} (ha : -1000000000000000 ≤ a ∧ a ≤ 1000000000000000) (hb : -1000000000000000 ≤ b ∧ b ≤ 1000000000000000) :
    mulR (-a) b = (-(mulR a b).1, (mulR a b).2) := by
  rw [mulR_in ha hb, mulR_in (by omega) hb, Int.natAbs_neg]
  rcases Int.lt_trichotomy a 0 with h | h | h
  · rw [decide_eq_true h, decide_eq_false (show ¬ -a < 0 by omega)]
    split
    · rfl
    · cases decide (b < 0) <;> simp
  · subst h
    rw [Int.natAbs_zero, Nat.zero_mul, roundN_zero _ (by decide)]
    cases decide (b < 0) <;> simp
  · rw [decide_eq_false (show ¬ a < 0 by omega), decide_eq_true (show -a < 0 by omega)]
    split
    · rfl
    · cases decide (b < 0) <;> simp

theorem mulR_unit {a : Int} (ha : -1000000000000000 ≤ a ∧ a ≤ 1000000000000000) : mulR a 1000000 = (a, 0) := by
  rw [mulR_in ha (by decide)]
  have e : (1000000 : Int).natAbs = 1000000 := rfl
  rw [e, roundN_exact _ _ (by decide), if_neg (by omega)]
  by_cases h : a < 0
  · rw [decide_eq_true h]
    simp only [Int.reduceLT, decide_false]
    rw [if_pos (by decide)]
    congr 1; omega
  · rw [decide_eq_false h]
    simp only [Int.reduceLT, decide_false]
    rw [if_neg (by decide)]
    congr 1; omega

theorem mulR_zero {a : Int} (ha : -1000000000000000 ≤ a ∧ a ≤ 1000000000000000) : mulR a 0 = (0, 0) := by
  rw [mulR_in ha (by decide), Int.natAbs_zero, Nat.mul_zero, roundN_zero _ (by decide)]
  by_cases h : a < 0 <;> simp [h]

/-- The size of what is returned. -/
theorem mulR_bound (a b : Int) : -1000000000000000 ≤ (mulR a b).1 ∧ (mulR a b).1 ≤ 1000000000000000 := by
  unfold mulR
  split
  · rw [roundR_eq]
    split
    · exact ⟨by decide, by decide⟩
    · split
      · constructor <;> simp only <;> omega
      · constructor <;> simp only <;> omega
  · exact ⟨by decide, by decide⟩

theorem tmod_in (a : Int) (k : Int) (hk : 0 < k) : -(k - 1) ≤ a.tmod k ∧ a.tmod k ≤ k - 1 := by
  have h1 := Int.tmod_lt_of_pos a hk
  have h2 := Int.tmod_lt_of_pos (-a) hk
  rw [Int.neg_tmod] at h2
  omega

/-- A product of small numbers: no error, and at most half a unit from the exact one. -/
theorem mulR_near {u v : Int} (hu : -3000000000 ≤ u ∧ u ≤ 3000000000) (hv : -3000000000 ≤ v ∧ v ≤ 3000000000) :
    ∃ n : Int, mulR u v = (n, 0) ∧ -9000000000000000000 ≤ u * v ∧ u * v ≤ 9000000000000000000 ∧ 2 * (u * v - n * 1000000) ≤ 1000000 ∧ -1000000 ≤ 2 * (u * v - n * 1000000) ∧
      ((2 * (u * v - n * 1000000) = 1000000 ∨ 2 * (u * v - n * 1000000) = -1000000) → n.tmod 2 = 0) := by
  rw [mulR_in (by omega) (by omega)]
  have hab : u.natAbs * v.natAbs = (u * v).natAbs := (Int.natAbs_mul u v).symm
  have hle : u.natAbs * v.natAbs ≤ 3000000000 * 3000000000 := Nat.mul_le_mul (by omega) (by omega)
  obtain ⟨h1, h2, h3⟩ := roundN_spec (u.natAbs * v.natAbs) 1000000 (by decide)
  have hs : (decide (u < 0) != decide (v < 0)) = true → u * v ≤ 0 := by
    intro h
    by_cases hu0 : u < 0
    · rw [decide_eq_true hu0] at h
      have hv0 : ¬ v < 0 := by intro hv0; rw [decide_eq_true hv0] at h; cases h
      exact Int.mul_nonpos_of_nonpos_of_nonneg (by omega) (by omega)
    · rw [decide_eq_false hu0] at h
      have hv0 : v < 0 := by
        by_cases hv0 : v < 0
        · exact hv0
        · rw [decide_eq_false hv0] at h; cases h
      exact Int.mul_nonpos_of_nonneg_of_nonpos (by omega) (by omega)
  have ht : (decide (u < 0) != decide (v < 0)) = false → 0 ≤ u * v := by
    intro h
    by_cases hu0 : u < 0
    · rw [decide_eq_true hu0] at h
      have hv0 : v < 0 := by
        by_cases hv0 : v < 0
        · exact hv0
        · rw [decide_eq_false hv0] at h; cases h
      exact Int.mul_nonneg_of_nonpos_of_nonpos (by omega) (by omega)
    · rw [decide_eq_false hu0] at h
      have hv0 : ¬ v < 0 := by intro hv0; rw [decide_eq_true hv0] at h; cases h
      exact Int.mul_nonneg (by omega) (by omega)
  rw [hab] at *
  generalize u * v = P at *
  generalize roundN P.natAbs 1000000 = Q at *
  rw [if_neg (by omega)]
  cases hb : (decide (u < 0) != decide (v < 0))
  · have hP := ht hb
    refine ⟨(Q : Int), by simp, by omega, by omega, by omega, by omega, fun h => ?_⟩
    have := h3 (by omega)
    rw [Int.tmod_eq_emod_of_nonneg (by omega)]
    omega
  · have hP := hs hb
    refine ⟨-(Q : Int), by simp, by omega, by omega, by omega, by omega, fun h => ?_⟩
    have := h3 (by omega)
    rw [Int.neg_tmod, Int.tmod_eq_emod_of_nonneg (by omega)]
    omega
end Go.Proofs.YtckonpphagkfeaaGreatDoor.H
