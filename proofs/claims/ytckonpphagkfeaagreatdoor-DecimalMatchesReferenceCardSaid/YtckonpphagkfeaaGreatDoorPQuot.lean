/- Plain facts on quotients: how far from the exact one, when an error, the quotient of an exact product, the quotient by one. -/
import Derived.Test.YtckonpphagkfeaaGreatDoorPRound
set_option linter.unusedVariables false
set_option linter.unusedSimpArgs false
namespace Go.Proofs.YtckonpphagkfeaaGreatDoor.H
open Go.RowKit

theorem divR_in {a b : Int} (ha : -1000000000000000 ≤ a ∧ a ≤ 1000000000000000) (hb : -1000000000000000 ≤ b ∧ b ≤ 1000000000000000) (h0 : b ≠ 0) :
    divR a b = if 1000000000000000 < roundN (a.natAbs * 1000000) b.natAbs then (0, 2) else (if (decide (a < 0) != decide (b < 0)) then -(roundN (a.natAbs * 1000000) b.natAbs : Int) else (roundN (a.natAbs * 1000000) b.natAbs : Int), 0) := by
  unfold divR
  rw [okN_true ha.1 ha.2, okN_true hb.1 hb.2, Bool.and_self, if_pos rfl, if_neg h0, roundR_eq]

theorem divR_zero {a : Int} (ha : -1000000000000000 ≤ a ∧ a ≤ 1000000000000000) : divR a 0 = (0, 3) := by
  unfold divR
  rw [okN_true ha.1 ha.2]
  rfl

theorem divR_near {x y : Int} (hx : -9000000000000 ≤ x ∧ x ≤ 9000000000000) (hy : -1000000000000000 ≤ y ∧ y ≤ 1000000000000000) (h0 : y ≠ 0) :
    (divR x y = (0, 2) ∧ 1000000000 * (y.natAbs : Int) ≤ (x.natAbs : Int)) ∨
    ∃ n : Int, divR x y = (n, 0) ∧ -9100000000000000000 ≤ n * y ∧ n * y ≤ 9100000000000000000 ∧ 2 * (x * 1000000 - n * y) ≤ (y.natAbs : Int) ∧ -(y.natAbs : Int) ≤ 2 * (x * 1000000 - n * y) ∧
      ((2 * (x * 1000000 - n * y) = (y.natAbs : Int) ∨ 2 * (x * 1000000 - n * y) = -(y.natAbs : Int)) → n.tmod 2 = 0) := by
  rw [divR_in (by omega) hy h0]
  have hd : 0 < y.natAbs := by omega
  obtain ⟨h1, h2, h3⟩ := roundN_spec (x.natAbs * 1000000) y.natAbs hd
  generalize roundN (x.natAbs * 1000000) y.natAbs = Q at *
  by_cases hQ : 1000000000000000 < Q
  · rw [if_pos hQ]
    refine .inl ⟨rfl, ?_⟩
    have hm : 1000000000000001 * y.natAbs ≤ Q * y.natAbs := Nat.mul_le_mul_right _ (by omega)
    generalize Q * y.natAbs = D at *
    omega
  · rw [if_neg hQ]
    right
    have ev : ∀ m : Nat, (m : Int).tmod 2 = 0 ↔ m % 2 = 0 := fun m => by
      rw [Int.tmod_eq_emod_of_nonneg (by omega)]
      omega
    obtain ⟨D, hD⟩ : ∃ D, Q * y.natAbs = D := ⟨_, rfl⟩
    rw [hD] at h1 h2 h3
    have hDI : (Q : Int) * (y.natAbs : Int) = (D : Int) := by rw [← hD]; simp
    by_cases hx0 : x < 0
    · by_cases hy0 : y < 0
      · rw [decide_eq_true hx0, decide_eq_true hy0]
        have e : (Q : Int) * y = -(D : Int) := by
          rw [← hDI, show (y.natAbs : Int) = -y by omega, Int.mul_neg, Int.neg_neg]
        refine ⟨(Q : Int), by simp, ?_⟩
        rw [e]
        refine ⟨by omega, by omega, by omega, by omega, fun h => (ev Q).2 (h3 (by omega))⟩
      · rw [decide_eq_true hx0, decide_eq_false hy0]
        have e : -(Q : Int) * y = -(D : Int) := by
          rw [← hDI, show (y.natAbs : Int) = y by omega, Int.neg_mul]
        refine ⟨-(Q : Int), by simp, ?_⟩
        rw [e]
        refine ⟨by omega, by omega, by omega, by omega, fun h => by rw [Int.neg_tmod, (ev Q).2 (h3 (by omega))]; rfl⟩
    · by_cases hy0 : y < 0
      · rw [decide_eq_false hx0, decide_eq_true hy0]
        have e : -(Q : Int) * y = (D : Int) := by
          rw [← hDI, show (y.natAbs : Int) = -y by omega, Int.mul_neg, Int.neg_mul]
        refine ⟨-(Q : Int), by simp, ?_⟩
        rw [e]
        refine ⟨by omega, by omega, by omega, by omega, fun h => by rw [Int.neg_tmod, (ev Q).2 (h3 (by omega))]; rfl⟩
      · rw [decide_eq_false hx0, decide_eq_false hy0]
        have e : (Q : Int) * y = (D : Int) := by
          rw [← hDI, show (y.natAbs : Int) = y by omega]
        refine ⟨(Q : Int), by simp, ?_⟩
        rw [e]
        refine ⟨by omega, by omega, by omega, by omega, fun h => (ev Q).2 (h3 (by omega))⟩

theorem divR_unit {z : Int} (hz : -1000000000000000 ≤ z ∧ z ≤ 1000000000000000) : divR z 1000000 = (z, 0) := by
  rw [divR_in hz (by decide) (by decide)]
  have e : (1000000 : Int).natAbs = 1000000 := rfl
  rw [e, roundN_exact _ _ (by decide), if_neg (by omega)]
  by_cases h : z < 0
  · rw [decide_eq_true h]
    simp only [Int.reduceLT, decide_false]
    rw [if_pos (by decide)]
    congr 1; omega
  · rw [decide_eq_false h]
    simp only [Int.reduceLT, decide_false]
    rw [if_neg (by decide)]
    congr 1; omega

theorem divR_minus {z : Int} (hz : -1000000000000000 ≤ z ∧ z ≤ 1000000000000000) : divR z (-1000000) = (-z, 0) := by
  rw [divR_in hz (by decide) (by decide)]
  have e : (-1000000 : Int).natAbs = 1000000 := rfl
  rw [e, roundN_exact _ _ (by decide), if_neg (by omega)]
  by_cases h : z < 0
  · rw [decide_eq_true h]
    simp only [show ((-1000000 : Int) < 0) = True by simp, decide_true]
    rw [if_neg (by decide)]
    congr 1; omega
  · rw [decide_eq_false h]
    simp only [show ((-1000000 : Int) < 0) = True by simp, decide_true]
    rw [if_pos (by decide)]
    congr 1; omega

/-- The quotient of an exact product by a factor is the other factor. -/
theorem divR_exact {u v n : Int} (hu : -3000000000 ≤ u ∧ u ≤ 3000000000) (hv : -3000000000 ≤ v ∧ v ≤ 3000000000) (h0 : v ≠ 0) (hn : u * v = n * 1000000) : divR n v = (u, 0) := by
  have hle : u.natAbs * v.natAbs ≤ 3000000000 * 3000000000 := Nat.mul_le_mul (by omega) (by omega)
  have ha : u.natAbs * v.natAbs = n.natAbs * 1000000 := by
    rw [← Int.natAbs_mul, hn, Int.natAbs_mul]
    rfl
  rw [divR_in (by omega) (by omega) h0, ← ha, roundN_exact _ _ (by omega), if_neg (by omega)]
  congr 1
  by_cases hv0 : v < 0
  · rw [decide_eq_true hv0]
    by_cases hu0 : u < 0
    · have : 0 < u * v := Int.mul_pos_of_neg_of_neg hu0 hv0
      rw [decide_eq_false (by omega), if_pos (by decide)]; omega
    · by_cases hu1 : u = 0
      · subst hu1
        have : n = 0 := by omega
        subst this
        simp
      · have : u * v < 0 := Int.mul_neg_of_pos_of_neg (by omega) hv0
        rw [decide_eq_true (by omega), if_neg (by decide)]; omega
  · rw [decide_eq_false hv0]
    by_cases hu0 : u < 0
    · have : u * v < 0 := Int.mul_neg_of_neg_of_pos hu0 (by omega)
      rw [decide_eq_true (by omega), if_pos (by decide)]; omega
    · have : 0 ≤ u * v := Int.mul_nonneg (by omega) (by omega)
      rw [decide_eq_false (by omega), if_neg (by decide)]; omega
end Go.Proofs.YtckonpphagkfeaaGreatDoor.H
