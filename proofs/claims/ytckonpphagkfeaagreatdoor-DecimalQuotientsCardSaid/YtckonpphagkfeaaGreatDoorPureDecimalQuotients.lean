/- The plain law of quotients. -/
import Derived.Test.YtckonpphagkfeaaGreatDoorRx4
import Derived.Test.YtckonpphagkfeaaGreatDoorPQuot
set_option linter.unusedVariables false
set_option linter.unusedSimpArgs false
namespace Go.Proofs.YtckonpphagkfeaaGreatDoor.Pure
open Go.RowKit Go.Proofs.YtckonpphagkfeaaGreatDoor.R Go.Proofs.YtckonpphagkfeaaGreatDoor.Q Go.Proofs.YtckonpphagkfeaaGreatDoor.H Go.Proofs.YtckonpphagkfeaaGreatDoorW.PrintMore Go.Proofs.YtckonpphagkfeaaGreatDoorW.PrintLast Go.Proofs.YtckonpphagkfeaaGreatDoorW.PrintWords

theorem product_q (a b : Int) : chapmanlaw02_product.f a b = some (mulR a b) := rfl
theorem quotient_q (a b : Int) : chapmanlaw02_quotient.f a b = some (divR a b) := rfl

theorem quot_end (k : Nat) (b : Int) : chapmanlaw02_DecimalQuotients.j2 (k + 1) b true false = some true := by
  have hz := tmod_in b 1000000000000001 (by decide)
  simp only [chapmanlaw02_DecimalQuotients.j2, quotient_q, Option.bind_some]
  generalize Int.tmod b 1000000000000001 = z at *
  rw [divR_unit (by omega), divR_minus (by omega), wrap64_id (-z) (by omega)]
  simp

theorem quot_mid (k : Nat) (a b : Int) : chapmanlaw02_DecimalQuotients.j1 (k + 2) a b true false = some true := by
  have hu := tmod_in a 3000000001 (by decide)
  have hv := tmod_in b 3000000001 (by decide)
  have he := quot_end k b
  simp only [chapmanlaw02_DecimalQuotients.j1, quotient_q, product_q, Option.bind_some, he]
  generalize Int.tmod a 3000000001 = u at *
  generalize Int.tmod b 3000000001 = v at *
  obtain ⟨n, hn, h1, h2, h3, h4, h5⟩ := mulR_near (u := u) (v := v) (by omega) (by omega)
  rw [hn, wrap64_id (u * v) (by omega)]
  simp only [Bool.false_eq_true, if_false, if_true]
  by_cases hv0 : v = 0
  · rw [if_pos hv0]
  · rw [if_neg hv0]
    by_cases hm : (u * v).tmod 1000000 = 0
    · rw [if_pos hm]
      have hx : u * v = n * 1000000 := by
        generalize u * v = P at *
        have := Int.mul_tdiv_add_tmod P 1000000
        omega
      rw [divR_exact (by omega) (by omega) hv0 hx]
      simp only [beq_self_eq_true, Bool.not_true, Bool.or_self]
      exact he
    · rw [if_neg hm]

theorem mx_abs (y : Int) (hy : -1000000000000000 ≤ y ∧ y ≤ 1000000000000000) : mx y (wrap64 (-y)) = (y.natAbs : Int) := by
  rw [wrap64_id (-y) (by omega)]
  unfold mx
  split <;> omega

theorem DecimalQuotients : chapmanlaw02_DecimalQuotients.Pure := by
  intro a0 a1 w0 w1
  refine ⟨3, ?_⟩
  have hm := quot_mid 0 a0 a1
  have hx := tmod_in a0 9000000000001 (by decide)
  have hy := tmod_in a1 1000000000000001 (by decide)
  simp only [chapmanlaw02_DecimalQuotients.f, chapmanlaw02_DecimalQuotients.j0, quotient_q, Option.bind_some, chapmanlaw02_examples.f, if_true]
  generalize Int.tmod a0 9000000000001 = x at *
  generalize Int.tmod a1 1000000000000001 = y at *
  by_cases hy0 : y = 0
  · rw [if_pos hy0]
    subst hy0
    rw [divR_zero (by omega)]
    rfl
  · rw [if_neg hy0, mx_abs y (by omega), mx_abs x (by omega)]
    have hl : (1 : Int) ≤ (y.natAbs : Int) := by omega
    have hl2 : (y.natAbs : Int) ≤ 1000000000000000 := by omega
    rcases divR_near (x := x) (y := y) (by omega) (by omega) hy0 with ⟨hd, hbig⟩ | ⟨n, hd, h1, h2, h3, h4, h5⟩
    · rw [hd]
      simp only []
      rw [if_neg (by decide)]
      have hq : (1000000000 : Int) ≤ Int.tdiv (x.natAbs : Int) (y.natAbs : Int) := by
        rw [Int.tdiv_eq_ediv_of_nonneg (by omega)]
        exact Int.le_ediv_of_mul_le (by omega) hbig
      have hq2 : Int.tdiv (x.natAbs : Int) (y.natAbs : Int) ≤ (x.natAbs : Int) := by
        rw [Int.tdiv_eq_ediv_of_nonneg (by omega)]
        exact Int.ediv_le_self _ (by omega)
      rw [wrap64_id _ (by omega)]
      simp only [Bool.false_eq_true, if_false]
      rw [if_neg (by decide), if_neg (by decide), if_neg (by omega), decide_eq_false (by omega)]
      exact hm
    · rw [hd]
      simp only [if_true, Bool.false_eq_true, if_false]
      rw [wrap64_id (x * 1000000) (by omega)]
      generalize n * y = D at *
      rw [wrap64_id D (by omega), wrap64_id (x * 1000000 - D) (by omega), wrap64_id (2 * (x * 1000000 - D)) (by omega), wrap64_id (-(y.natAbs : Int)) (by omega)]
      generalize 2 * (x * 1000000 - D) = R at *
      rw [if_neg (show ¬ R > (y.natAbs : Int) by omega), if_neg (show ¬ R < -(y.natAbs : Int) by omega)]
      by_cases hR : R = (y.natAbs : Int)
      · rw [if_pos hR, h5 (.inl hR)]
        exact hm
      · rw [if_neg hR]
        by_cases hR2 : R = -(y.natAbs : Int)
        · rw [if_pos hR2, h5 (.inr hR2)]
          exact hm
        · rw [if_neg hR2]
          exact hm
end Go.Proofs.YtckonpphagkfeaaGreatDoor.Pure
