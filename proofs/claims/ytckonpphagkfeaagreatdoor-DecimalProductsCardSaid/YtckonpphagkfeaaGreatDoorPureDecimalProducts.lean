/- The plain law of products. -/
import Derived.Test.YtckonpphagkfeaaGreatDoorRx3
import Derived.Test.YtckonpphagkfeaaGreatDoorPRound
set_option linter.unusedVariables false
set_option linter.unusedSimpArgs false
namespace Go.Proofs.YtckonpphagkfeaaGreatDoor.Pure
open Go.RowKit Go.Proofs.YtckonpphagkfeaaGreatDoor.R Go.Proofs.YtckonpphagkfeaaGreatDoor.Q Go.Proofs.YtckonpphagkfeaaGreatDoor.H

theorem product_f (a b : Int) : chapmanlaw02_product.f a b = some (mulR a b) := rfl

theorem DecimalProducts : chapmanlaw02_DecimalProducts.Pure := by
  intro a0 a1 w0 w1
  refine ⟨1, ?_⟩
  have hx := tmod_in a0 1000000000000001 (by decide)
  have hy := tmod_in a1 1000000000000001 (by decide)
  have hu := tmod_in a0 3000000001 (by decide)
  have hv := tmod_in a1 3000000001 (by decide)
  simp only [chapmanlaw02_DecimalProducts.f, chapmanlaw02_DecimalProducts.j0, product_f, Option.bind_some, chapmanlaw02_examples.f, if_true]
  generalize Int.tmod a0 1000000000000001 = x at *
  generalize Int.tmod a1 1000000000000001 = y at *
  generalize Int.tmod a0 3000000001 = u at *
  generalize Int.tmod a1 3000000001 = v at *
  have hx' : -1000000000000000 ≤ x ∧ x ≤ 1000000000000000 := by omega
  have hy' : -1000000000000000 ≤ y ∧ y ≤ 1000000000000000 := by omega
  have hb := mulR_bound x y
  obtain ⟨n, hn, h1, h2, h3, h4, h5⟩ := mulR_near (u := u) (v := v) (by omega) (by omega)
  rw [wrap64_id (-x) (by omega), mulR_neg hx' hy', mulR_comm y x, mulR_unit hx', mulR_zero hx', hn]
  generalize mulR x y = p at *
  obtain ⟨p1, p2⟩ := p
  dsimp only at hb ⊢
  rw [wrap64_id (- -p1) (by omega), Int.neg_neg]
  rw [wrap64_id (u * v) (by omega)]
  generalize u * v = P at *
  rw [wrap64_id (n * 1000000) (by omega), wrap64_id (P - n * 1000000) (by omega), wrap64_id (2 * (P - n * 1000000)) (by omega)]
  generalize 2 * (P - n * 1000000) = R at *
  simp only [beq_self_eq_true, Bool.not_true, Bool.or_self, Bool.false_eq_true, if_false, if_true]
  rw [if_neg (show ¬ R > 1000000 by omega), if_neg (show ¬ R < -1000000 by omega)]
  by_cases hR : R = 1000000
  · rw [if_pos hR, h5 (.inl hR)]; rfl
  · rw [if_neg hR]
    by_cases hR2 : R = -1000000
    · rw [if_pos hR2, h5 (.inr hR2)]; rfl
    · rw [if_neg hR2]
end Go.Proofs.YtckonpphagkfeaaGreatDoor.Pure
