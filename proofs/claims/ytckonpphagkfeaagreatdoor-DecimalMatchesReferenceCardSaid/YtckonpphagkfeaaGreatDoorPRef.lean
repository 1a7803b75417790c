/- Plain facts: the reference's functions come to what decimal's functions come to: sums of two and of lists, products, quotients, truncations, comparisons, texts, and what is parsed. -/
import Derived.Test.YtckonpphagkfeaaGreatDoorMx1
import Derived.Test.YtckonpphagkfeaaGreatDoorMx2
import Derived.Test.YtckonpphagkfeaaGreatDoorMx3
import Derived.Test.YtckonpphagkfeaaGreatDoorMx5
import Derived.Test.YtckonpphagkfeaaGreatDoorPQuot
import Derived.Test.YtckonpphagkfeaaGreatDoorPTrunc
import Derived.Test.YtckonpphagkfeaaGreatDoorPText
import Derived.Test.YtckonpphagkfeaaGreatDoorMx4
/- Plain facts: the reference's functions come to what decimal's functions come to: sums of two, products, quotients, truncations, comparisons. -/
set_option linter.unusedVariables false
set_option linter.unusedSimpArgs false
namespace Go.Proofs.YtckonpphagkfeaaGreatDoor.H
open Go.RowKit Go.Proofs.YtckonpphagkfeaaGreatDoor.M Go.Proofs.YtckonpphagkfeaaGreatDoor.Q Go.Proofs.YtckonpphagkfeaaGreatDoorW.PrintWords Go.Proofs.YtckonpphagkfeaaGreatDoorW.PrintLast Go.Proofs.YtckonpphagkfeaaGreatDoorW.PrintMore

theorem rvalid_f (n : Int) : chapmanref02_Valid.f n = some (okN n) := by
  unfold chapmanref02_Valid.f okN
  split
  · rename_i h
    rw [decide_eq_true h, Bool.true_and]
  · rename_i h
    rw [decide_eq_false h, Bool.false_and]
theorem dvalid_f (n : Int) : decimal_Valid.f n = some (okN n) := by
  unfold decimal_Valid.f okN
  split
  · rename_i h
    rw [decide_eq_true h, Bool.true_and]
  · rename_i h
    rw [decide_eq_false h, Bool.false_and]
theorem rchecked_f (n : Int) : chapmanref02_checked.f n = some (if okN n then (n, 0) else (0, 2)) := by
  unfold chapmanref02_checked.f
  rw [rvalid_f, Option.bind_some]
  split <;> rfl
theorem dchecked_f (n : Int) : decimal_checked.f n = some (if okN n then (n, 0) else (0, 2)) := by
  unfold decimal_checked.f
  rw [dvalid_f, Option.bind_some]
  split <;> rfl
theorem radd (a b : Int) : chapmanref02_AddIn.f a b = chapmanlaw02_added.f a b := by
  unfold chapmanref02_AddIn.f chapmanlaw02_added.f decimal_Add.f
  simp only [rvalid_f, dvalid_f, Option.bind_some, rchecked_f, dchecked_f]
  cases okN a <;> cases okN b <;> simp
theorem rsub (a b : Int) : chapmanref02_SubIn.f a b = chapmanlaw02_less.f a b := by
  unfold chapmanref02_SubIn.f chapmanlaw02_less.f decimal_Sub.f
  simp only [rvalid_f, dvalid_f, Option.bind_some, rchecked_f, dchecked_f]
  cases okN a <;> cases okN b <;> simp
theorem rabs {a : Int} (h : -1000000000000000 ≤ a ∧ a ≤ 1000000000000000) : chapmanref02_abs.f a = some (a.natAbs : Int) := by
  unfold chapmanref02_abs.f
  split
  · rw [wrap64_id _ (by omega)]; congr 1; omega
  · congr 1; omega
theorem rsigned {n a b : Int} (h0 : 0 ≤ n) (h1 : n ≤ 4000000000000000000) : chapmanref02_signed.f n a b = some (if (decide (a < 0) != decide (b < 0)) then -n else n) := by
  unfold chapmanref02_signed.f
  split
  · rw [wrap64_id _ (by omega)]
  · rfl
theorem reven {q t o : Nat} (h : q ≤ 4000000000000000000) : chapmanref02_even.f (q : Int) (t : Int) (o : Int) = some (((if t > o ∨ (t = o ∧ q % 2 = 1) then q + 1 else q : Nat)) : Int) := by
  unfold chapmanref02_even.f
  rw [wrap64_id _ (by omega), Int.tmod_eq_emod_of_nonneg (by omega)]
  by_cases h1 : (t : Int) > (o : Int)
  · rw [if_pos h1, if_pos (by omega)]; rfl
  · rw [if_neg h1]
    by_cases h2 : (t : Int) = (o : Int)
    · rw [if_pos h2]
      by_cases h3 : (q : Int) % 2 = 1
      · rw [if_pos h3, if_pos (by omega)]; rfl
      · rw [if_neg h3, if_neg (by omega)]
    · rw [if_neg h2, if_neg (by omega)]
/-- Rounding by the doubled remainder. -/
theorem round_even (num den : Nat) (hd : 0 < den) : (if 2 * (num % den) > den ∨ (2 * (num % den) = den ∧ num / den % 2 = 1) then num / den + 1 else num / den) = roundN num den := by
  have h := Nat.mod_lt num hd
  unfold roundN
  generalize num / den = q
  generalize num % den = r at *
  split <;> split <;> omega
/-- A signed, checked size. -/
theorem rlast (Q : Nat) (a b : Int) (h : Q ≤ 4000000000000000000) :
    ((chapmanref02_signed.f (Q : Int) a b).bind fun t => (chapmanref02_checked.f t).bind fun bt => some (bt.1, bt.2)) = some (if 1000000000000000 < Q then (0, 2) else (if (decide (a < 0) != decide (b < 0)) then -(Q : Int) else (Q : Int), 0)) := by
  rw [rsigned (by omega) (by omega), Option.bind_some, rchecked_f, Option.bind_some]
  by_cases hQ : 1000000000000000 < Q
  · have : okN (if (decide (a < 0) != decide (b < 0)) then -(Q : Int) else (Q : Int)) = false := by
      unfold okN
      split
      · rw [decide_eq_false (by omega)]; rfl
      · rw [decide_eq_false (show ¬ (Q : Int) ≤ 1000000000000000 by omega), Bool.and_false]
    rw [this, if_pos hQ]
    rfl
  · have : okN (if (decide (a < 0) != decide (b < 0)) then -(Q : Int) else (Q : Int)) = true := by
      split
      · exact okN_true (by omega) (by omega)
      · exact okN_true (by omega) (by omega)
    rw [this, if_neg hQ]
    rfl

theorem wdiv {n : Nat} (d : Nat) (h : n ≤ 9000000000000000000) : wrap64 (Int.tdiv (n : Int) (d : Int)) = ((n / d : Nat) : Int) := by
  have := Nat.div_le_self n d
  rw [Int.tdiv_eq_ediv_of_nonneg (Int.natCast_nonneg n), ← Int.natCast_ediv]
  generalize n / d = q at *
  exact wrap64_id _ (by omega)
theorem wdivU {n : Nat} (h : n ≤ 9000000000000000000) : wrap64 (Int.tdiv (n : Int) 1000000) = ((n / 1000000 : Nat) : Int) := by
  rw [Int.tdiv_eq_ediv_of_nonneg (Int.natCast_nonneg n), wrap64_id _ (by omega)]; omega
theorem nmodU (n : Nat) : Int.tmod (n : Int) 1000000 = ((n % 1000000 : Nat) : Int) := by
  rw [Int.tmod_eq_emod_of_nonneg (Int.natCast_nonneg n)]; omega
theorem wtwo {n : Nat} (h : n ≤ 1000000000000000000) : wrap64 (2 * (n : Int)) = ((2 * n : Nat) : Int) := by
  rw [wrap64_id _ (by omega)]; omega
theorem revenU {q t : Nat} (h : q ≤ 4000000000000000000) : chapmanref02_even.f (q : Int) (t : Int) 1000000 = some (((if t > 1000000 ∨ (t = 1000000 ∧ q % 2 = 1) then q + 1 else q : Nat)) : Int) := by
  unfold chapmanref02_even.f
  rw [wrap64_id _ (by omega), Int.tmod_eq_emod_of_nonneg (by omega)]
  by_cases h1 : (t : Int) > 1000000
  · rw [if_pos h1, if_pos (by omega)]; rfl
  · rw [if_neg h1]
    by_cases h2 : (t : Int) = 1000000
    · rw [if_pos h2]
      by_cases h3 : (q : Int) % 2 = 1
      · rw [if_pos h3, if_pos (by omega)]; rfl
      · rw [if_neg h3, if_neg (by omega)]
    · rw [if_neg h2, if_neg (by omega)]
theorem nmod (n d : Nat) : Int.tmod (n : Int) (d : Int) = ((n % d : Nat) : Int) := by
  rw [Int.tmod_eq_emod_of_nonneg (Int.natCast_nonneg n), ← Int.natCast_emod]
theorem wmul {m n : Nat} (h : m * n ≤ 9000000000000000000) : wrap64 ((m : Int) * (n : Int)) = ((m * n : Nat) : Int) := by
  rw [← Int.natCast_mul, wrap64_id _ (by omega)]
theorem wadd {m n : Nat} (h : m + n ≤ 9000000000000000000) : wrap64 ((m : Int) + (n : Int)) = ((m + n : Nat) : Int) := by
  rw [← Int.natCast_add, wrap64_id _ (by omega)]
theorem wbig (r : Nat) : wrap64 (Int.tdiv 1000000000000000 (r : Int)) = ((1000000000000000 / r : Nat) : Int) := by
  have h := Nat.div_le_self 1000000000000000 r
  have e : (1000000000000000 : Int) / (r : Int) = ((1000000000000000 / r : Nat) : Int) := (Int.natCast_ediv 1000000000000000 r).symm
  rw [Int.tdiv_eq_ediv_of_nonneg (by decide), e]
  generalize 1000000000000000 / r = q at *
  exact wrap64_id _ (by omega)
theorem mul_parts (x y : Nat) : x * y / 1000000 = x * (y / 1000000) + x / 1000000 * (y % 1000000) + x % 1000000 * (y % 1000000) / 1000000 ∧ x * y % 1000000 = x % 1000000 * (y % 1000000) % 1000000 := by
  have hx := Nat.div_add_mod x 1000000
  have hy := Nat.div_add_mod y 1000000
  have e : x * y = 1000000 * (x * (y / 1000000) + x / 1000000 * (y % 1000000)) + x % 1000000 * (y % 1000000) := by
    conv => lhs; rw [← hy, Nat.mul_add]
    rw [Nat.mul_left_comm, Nat.mul_add, Nat.add_assoc]
    congr 1
    conv => lhs; rw [← hx, Nat.add_mul, Nat.mul_assoc]
  rw [e]
  constructor
  · rw [Nat.mul_add_div (by decide)]
  · rw [Nat.mul_add_mod]
theorem unit_div {n : Nat} (h : n ≤ 1000000000000000) : n / 1000000 ≤ 1000000000 := by omega
theorem small_div {n : Nat} (h : n ≤ 1000000000000) : n / 1000000 ≤ 1000000 := by omega
theorem small_mod (n : Nat) : n % 1000000 ≤ 1000000 := by omega
set_option maxHeartbeats 1000000 in
theorem mul_tail (k : Nat) (a b : Int) (x p q r s num : Nat) (h1 : x * r ≤ 1000000000000000) (h2 : p * s ≤ 1000000000000000) (h3 : q * s ≤ 1000000000000)
    (m1 : num / 1000000 = x * r + p * s + q * s / 1000000) (m2 : num % 1000000 = q * s % 1000000) (hQS : q * s / 1000000 ≤ 1000000) (hm : num % 1000000 ≤ 1000000) (hle : num / 1000000 ≤ 3000000000000000) :
    chapmanref02_MulIn.j1 (k + 1) a b (x : Int) (p : Int) (q : Int) (r : Int) (s : Int) false = some (if 1000000000000000 < roundN num 1000000 then (0, 2) else (if (decide (a < 0) != decide (b < 0)) then -(roundN num 1000000 : Int) else (roundN num 1000000 : Int), 0)) := by
  have f1 : wrap64 ((x : Int) * (r : Int)) = ((x * r : Nat) : Int) := wmul (Nat.le_trans h1 (by decide))
  have f2 : wrap64 ((p : Int) * (s : Int)) = ((p * s : Nat) : Int) := wmul (Nat.le_trans h2 (by decide))
  have f3 : wrap64 ((q : Int) * (s : Int)) = ((q * s : Nat) : Int) := wmul (Nat.le_trans h3 (by decide))
  simp only [chapmanref02_MulIn.j1, Bool.false_eq_true, if_false]
  rw [f1, f2, f3]
  clear f1 f2 f3
  generalize x * r = XR at *
  generalize p * s = PS at *
  generalize q * s = QS at *
  have f4 : wrap64 (Int.tdiv (QS : Int) 1000000) = ((QS / 1000000 : Nat) : Int) := wdivU (Nat.le_trans h3 (by decide))
  have f5 : Int.tmod (QS : Int) 1000000 = ((QS % 1000000 : Nat) : Int) := nmodU QS
  have f6 : wrap64 ((XR : Int) + (PS : Int)) = ((XR + PS : Nat) : Int) := wadd (Nat.le_trans (Nat.add_le_add h1 h2) (by decide))
  have hr := round_even num 1000000 (by decide)
  rw [f4, f5, f6, ← m2]
  have f7 : wrap64 (((XR + PS : Nat) : Int) + ((QS / 1000000 : Nat) : Int)) = ((num / 1000000 : Nat) : Int) := by rw [m1]; exact wadd (by rw [← m1]; exact Nat.le_trans hle (by decide))
  have f8 : wrap64 (2 * ((num % 1000000 : Nat) : Int)) = ((2 * (num % 1000000) : Nat) : Int) := wtwo (Nat.le_trans hm (by decide))
  rw [f7, f8, revenU (Nat.le_trans hle (by decide)), hr, Option.bind_some]
  refine rlast _ a b ?_
  rw [← hr]
  clear hr f4 f5 f6 f7 f8 m1 m2
  generalize num / 1000000 = A at *
  generalize num % 1000000 = B at *
  split <;> omega

theorem rmul (k : Nat) (a b : Int) : chapmanref02_MulIn.f ((k + 1) + 1) a b = some (mulR a b) := by
  unfold chapmanref02_MulIn.f
  rw [rvalid_f, rvalid_f]
  simp only [Option.bind_some]
  cases ha : okN a
  · simp [chapmanref02_MulIn.j0, mulR, ha]
  · cases hb : okN b
    · simp [chapmanref02_MulIn.j0, mulR, ha, hb]
    · have ha' := okN_yes ha
      have hb' := okN_yes hb
      rw [mulR_in ha' hb']
      rw [if_pos rfl, Bool.not_true, chapmanref02_MulIn.j0, if_neg Bool.false_ne_true, rabs ha', Option.bind_some, rabs hb', Option.bind_some]
      obtain ⟨m1, m2⟩ := mul_parts a.natAbs b.natAbs
      have hge0 : a.natAbs * (b.natAbs / 1000000) ≤ a.natAbs * b.natAbs / 1000000 := by rw [m1, Nat.add_assoc]; exact Nat.le_add_right _ _
      have hge1 : a.natAbs * b.natAbs / 1000000 ≤ roundN (a.natAbs * b.natAbs) 1000000 := by
        unfold roundN
        split
        · exact Nat.le_succ _
        · exact Nat.le_refl _
      have hxb : a.natAbs ≤ 1000000000000000 := by omega
      have hyb : b.natAbs ≤ 1000000000000000 := by omega
      generalize a.natAbs = x at *
      generalize b.natAbs = y at *
      have e1 : wrap64 (Int.tdiv (x : Int) 1000000) = ((x / 1000000 : Nat) : Int) := wdivU (Nat.le_trans hxb (by decide))
      have e2 : wrap64 (Int.tdiv (y : Int) 1000000) = ((y / 1000000 : Nat) : Int) := wdivU (Nat.le_trans hyb (by decide))
      have e3 : Int.tmod (x : Int) 1000000 = ((x % 1000000 : Nat) : Int) := nmodU x
      have e4 : Int.tmod (y : Int) 1000000 = ((y % 1000000 : Nat) : Int) := nmodU y
      rw [e1, e2, e3, e4]
      clear e1 e2 e3 e4
      have hp : x / 1000000 ≤ 1000000000 := unit_div hxb
      have hq : x % 1000000 ≤ 1000000 := small_mod x
      have hs : y % 1000000 ≤ 1000000 := small_mod y
      have hps : x / 1000000 * (y % 1000000) ≤ 1000000000 * 1000000 := Nat.mul_le_mul hp hs
      have hqs : x % 1000000 * (y % 1000000) ≤ 1000000 * 1000000 := Nat.mul_le_mul hq hs
      generalize x / 1000000 = p at *
      generalize x % 1000000 = q at *
      generalize y / 1000000 = r at *
      generalize y % 1000000 = s at *
      have tail : x * r ≤ 1000000000000000 → chapmanref02_MulIn.j1 (k + 1) a b (x : Int) (p : Int) (q : Int) (r : Int) (s : Int) false = some (if 1000000000000000 < roundN (x * y) 1000000 then (0, 2) else (if (decide (a < 0) != decide (b < 0)) then -(roundN (x * y) 1000000 : Int) else (roundN (x * y) 1000000 : Int), 0)) := by
        intro hxr
        exact mul_tail k a b x p q r s (x * y) hxr (Nat.le_trans hps (by decide)) (Nat.le_trans hqs (by decide)) m1 m2 (small_div (Nat.le_trans hqs (by decide))) (small_mod _) (by rw [m1]; exact Nat.le_trans (Nat.add_le_add (Nat.add_le_add hxr hps) (small_div (Nat.le_trans hqs (by decide)))) (by decide))
      by_cases hr0 : r = 0
      · subst hr0
        rw [if_neg (by decide)]
        exact tail (by rw [Nat.mul_zero]; exact Nat.zero_le _)
      · have hr1 : (0 : Int) < (r : Int) := by omega
        rw [if_pos hr1, if_neg (by omega)]
        have g1 := wbig r
        rw [g1]
        by_cases hbig : 1000000000000000 / r < x
        · have hgt : 1000000000000000 < x * r := (Nat.div_lt_iff_lt_mul (by omega)).mp hbig
          rw [decide_eq_true (show (x : Int) > ((1000000000000000 / r : Nat) : Int) by omega)]
          have hge : 1000000000000000 < roundN (x * y) 1000000 := Nat.lt_of_lt_of_le hgt (Nat.le_trans hge0 hge1)
          rw [if_pos hge]
          simp [chapmanref02_MulIn.j1]
        · have hle : x * r ≤ 1000000000000000 := by
            rcases Nat.lt_or_ge 1000000000000000 (x * r) with h | h
            · exact absurd ((Nat.div_lt_iff_lt_mul (by omega)).mpr h) hbig
            · exact h
          rw [decide_eq_false (show ¬ (x : Int) > ((1000000000000000 / r : Nat) : Int) by omega)]
          exact tail hle
/-- One more decimal place of a quotient. -/
theorem div_digit (z y : Nat) (hy : 0 < y) : 10 * (z / y) + 10 * (z % y) / y = 10 * z / y ∧ 10 * (z % y) % y = 10 * z % y := by
  have h := Nat.div_add_mod z y
  have e : 10 * z = y * (10 * (z / y)) + 10 * (z % y) := by
    conv => lhs; rw [← h, Nat.mul_add, Nat.mul_left_comm]
  rw [e]
  exact ⟨(Nat.mul_add_div hy _ _).symm, (Nat.mul_add_mod _ _ _).symm⟩
theorem wten {n : Nat} (h : n ≤ 900000000000000000) : wrap64 (10 * (n : Int)) = ((10 * n : Nat) : Int) := by
  rw [wrap64_id _ (by omega)]; omega
theorem wsucc {n : Nat} (h : n ≤ 900000000000000000) : wrap64 ((n : Int) + 1) = ((n + 1 : Nat) : Int) := by
  rw [wrap64_id _ (by omega)]; omega
/-- One round of the digits. -/
theorem div_round (k : Nat) (a b : Int) (y z i : Nat) (hy : 0 < y) (hyb : y ≤ 1000000000000000) (hz : z / y ≤ 100000000000000000) (hi : i < 6) :
    chapmanref02_DivIn.l0 (k + 1) a b (y : Int) ((z / y : Nat) : Int) ((z % y : Nat) : Int) (i : Int) = chapmanref02_DivIn.l0 k a b (y : Int) ((10 * z / y : Nat) : Int) ((10 * z % y : Nat) : Int) ((i + 1 : Nat) : Int) := by
  obtain ⟨d1, d2⟩ := div_digit z y hy
  have hr : z % y < y := Nat.mod_lt _ hy
  rw [← d1, ← d2]
  generalize z / y = q at *
  generalize z % y = r at *
  clear d1 d2
  have h10 : 10 * r / y ≤ 10 * r := Nat.div_le_self _ _
  rw [chapmanref02_DivIn.l0, if_pos (by omega), if_neg (by omega), wten (by omega), wten (by omega), wdiv y (by omega), nmod, wadd (by omega), wsucc (by omega)]
theorem wdbl {n : Nat} (h : n ≤ 1000000000000000000) : wrap64 (2 * (n : Int)) = ((2 * n : Nat) : Int) := wtwo h
theorem div_last (k : Nat) (a b : Int) (num y : Nat) (hy : 0 < y) (hyb : y ≤ 1000000000000000) (hz : num / y ≤ 3000000000000000) :
    chapmanref02_DivIn.l0 (k + 1) a b (y : Int) ((num / y : Nat) : Int) ((num % y : Nat) : Int) 6 = some (if 1000000000000000 < roundN num y then (0, 2) else (if (decide (a < 0) != decide (b < 0)) then -(roundN num y : Int) else (roundN num y : Int), 0)) := by
  have hr : num % y < y := Nat.mod_lt _ hy
  have he := round_even num y hy
  rw [chapmanref02_DivIn.l0, if_neg (by decide), wdbl (by omega), reven (by omega), he, Option.bind_some]
  refine rlast _ a b ?_
  rw [← he]
  clear he
  generalize num / y = q at *
  generalize num % y = r at *
  split <;> omega
theorem div_step_le {z y c : Nat} (hy : 0 < y) (h : z / y ≤ c) : 10 * z / y ≤ 10 * c + 9 := by
  have h1 : z < y * (c + 1) := by
    have := Nat.lt_mul_div_succ z hy
    exact Nat.lt_of_lt_of_le this (Nat.mul_le_mul_left _ (by omega))
  have h2 : 10 * z < y * (10 * c + 10) := by
    have : y * (10 * c + 10) = 10 * (y * (c + 1)) := by rw [show 10 * c + 10 = 10 * (c + 1) by omega, Nat.mul_left_comm]
    omega
  have := (Nat.div_lt_iff_lt_mul hy).mpr (show 10 * z < (10 * c + 10) * y by rw [Nat.mul_comm (10 * c + 10) y]; exact h2)
  omega
theorem rdiv (k : Nat) (a b : Int) : chapmanref02_DivIn.f ((((((((k + 1) + 1) + 1) + 1) + 1) + 1) + 1) + 1) a b = some (divR a b) := by
  unfold chapmanref02_DivIn.f
  rw [rvalid_f, rvalid_f, Option.bind_some]
  cases ha : okN a
  · rw [if_neg Bool.false_ne_true, chapmanref02_DivIn.j0, if_pos rfl]
    simp [divR, ha]
  · rw [if_pos rfl, Option.bind_some]
    cases hb : okN b
    · rw [Bool.not_false, chapmanref02_DivIn.j0, if_pos rfl]
      simp [divR, ha, hb]
    · have ha' := okN_yes ha
      have hb' := okN_yes hb
      rw [Bool.not_true, chapmanref02_DivIn.j0, if_neg Bool.false_ne_true]
      by_cases h0 : b = 0
      · subst h0
        rw [if_pos rfl, divR_zero ha']
      · rw [if_neg h0, rabs ha', Option.bind_some, rabs hb', Option.bind_some, divR_in ha' hb' h0]
        have hy : 0 < b.natAbs := by omega
        have hxb : a.natAbs ≤ 1000000000000000 := by omega
        have hyb : b.natAbs ≤ 1000000000000000 := by omega
        generalize a.natAbs = x at *
        generalize b.natAbs = y at *
        rw [if_neg (by omega), wdiv y (by omega), nmod]
        by_cases hbig : 1000000000 < x / y
        · have hlow : 1000000001 * y ≤ x := (Nat.le_div_iff_mul_le hy).mp hbig
          have hq : 1000000001000000 ≤ x * 1000000 / y := (Nat.le_div_iff_mul_le hy).mpr (by omega)
          have hge : x * 1000000 / y ≤ roundN (x * 1000000) y := by
            unfold roundN
            split
            · exact Nat.le_succ _
            · exact Nat.le_refl _
          rw [if_pos (by omega), if_pos (by omega)]
        · have c0 : x / y ≤ 1000000000 := by omega
          rw [if_neg (by omega)]
          have c1 := div_step_le hy c0
          have c2 := div_step_le hy c1
          have c3 := div_step_le hy c2
          have c4 := div_step_le hy c3
          have c5 := div_step_le hy c4
          have c6 := div_step_le hy c5
          have e : 10 * (10 * (10 * (10 * (10 * (10 * x))))) = x * 1000000 := by omega
          refine (div_round _ a b y x 0 hy hyb (by omega) (by decide)).trans ?_
          refine (div_round _ a b y _ 1 hy hyb (by omega) (by decide)).trans ?_
          refine (div_round _ a b y _ 2 hy hyb (by omega) (by decide)).trans ?_
          refine (div_round _ a b y _ 3 hy hyb (by omega) (by decide)).trans ?_
          refine (div_round _ a b y _ 4 hy hyb (by omega) (by decide)).trans ?_
          refine (div_round _ a b y _ 5 hy hyb (by omega) (by decide)).trans ?_
          rw [e] at c6 ⊢
          exact div_last k a b (x * 1000000) y hy hyb (by omega)
theorem rstep_l (k : Nat) (p i : Nat) (hp : p ≤ 1000000000) (hi : i < 6) : chapmanref02_Step.l0 (k + 1) (p : Int) (i : Int) = chapmanref02_Step.l0 k ((10 * p : Nat) : Int) ((i + 1 : Nat) : Int) := by
  rw [chapmanref02_Step.l0, if_pos (by omega), wten (by omega), wsucc (by omega)]
theorem rstep_e (k : Nat) (p : Int) : chapmanref02_Step.l0 (k + 1) p 6 = some p := by
  rw [chapmanref02_Step.l0, if_neg (by decide)]
theorem rstep (k s : Nat) (hs : s < 7) : chapmanref02_Step.f (k + 7) (s : Int) = some (stepOf (s : Int)) := by
  have h : ∀ (n k s p : Nat), s + n = 6 → p * 10 ^ n ≤ 1000000 → chapmanref02_Step.l0 (k + n + 1) (p : Int) (s : Int) = some ((p * 10 ^ n : Nat) : Int) := by
    intro n
    induction n with
    | zero =>
      intro k s p h _
      obtain rfl : s = 6 := by omega
      rw [Nat.pow_zero, Nat.mul_one]
      exact rstep_e k p
    | succ n ih =>
      intro k s p h hp
      have e : p * 10 ^ (n + 1) = 10 * p * 10 ^ n := by rw [Nat.pow_succ, Nat.mul_comm (10 ^ n), ← Nat.mul_assoc, Nat.mul_comm p 10]
      rw [e] at hp ⊢
      have hpow : 0 < 10 ^ n := Nat.pow_pos (by decide)
      have hle : 10 * p ≤ 10 * p * 10 ^ n := Nat.le_mul_of_pos_right _ hpow
      rw [show k + (n + 1) + 1 = (k + n + 1) + 1 by omega, rstep_l _ p s (by omega) (by omega)]
      exact ih k (s + 1) (10 * p) (by omega) hp
  unfold chapmanref02_Step.f
  rw [stepOf_nat s hs]
  have := h (6 - s) (k + s) s 1 (by omega) (by
    rw [Nat.one_mul]
    exact Nat.le_trans (Nat.pow_le_pow_right (by decide) (show 6 - s ≤ 6 by omega)) (by decide))
  rw [Nat.one_mul] at this
  rw [show k + 7 = k + s + (6 - s) + 1 by omega]
  exact this
theorem rscaled (s : Int) : chapmanref02_Scaled.f s = some (decide (0 ≤ s ∧ s < 7)) := by
  unfold chapmanref02_Scaled.f
  by_cases h : s ≥ 0
  · rw [if_pos h]; congr 1; rw [decide_eq_decide]; omega
  · rw [if_neg h]; congr 1; symm; rw [decide_eq_false_iff_not]; omega
theorem rtrunc (k : Nat) (a s : Int) (h0 : -9223372036854775808 ≤ a) (h1 : a ≤ 9223372036854775807) : chapmanref02_Trunc.f (k + 7) a s = decimal_Trunc.f a s := by
  unfold chapmanref02_Trunc.f
  rw [rscaled, Option.bind_some]
  by_cases h : 0 ≤ s ∧ s < 7
  · obtain ⟨n, rfl⟩ : ∃ n : Nat, s = n := ⟨s.toNat, by omega⟩
    have hn : n < 7 := by omega
    have hb := step_bounds n hn
    rw [decide_eq_true h, if_pos rfl, rstep k n hn, Option.bind_some, trunc_f a n hn h0 h1, if_neg (by omega)]
    have hs := trunc_sum a n
    have e : a - Int.tmod a (stepOf (n : Int)) = truncR a n := by omega
    rw [e, wrap64_id]
    by_cases hp : 0 ≤ a
    · have := trunc_pos a n hn hp; omega
    · have := trunc_min a n hn (by omega); omega
  · rw [decide_eq_false h, if_neg Bool.false_ne_true]
    unfold decimal_Trunc.f
    rw [if_neg h]
theorem rfits (k : Nat) (a s : Int) : chapmanref02_Fits.f (k + 7) a s = decimal_Fits.f a s := by
  unfold chapmanref02_Fits.f decimal_Fits.f
  rw [rscaled, Option.bind_some]
  by_cases h : 0 ≤ s ∧ s < 7
  · obtain ⟨n, rfl⟩ : ∃ n : Nat, s = n := ⟨s.toNat, by omega⟩
    have hn : n < 7 := by omega
    have hb := step_bounds n hn
    rw [decide_eq_true h, if_pos rfl, rstep k n hn, Option.bind_some, if_neg (by omega), if_pos h]
  · rw [decide_eq_false h, if_neg Bool.false_ne_true, if_neg h]
theorem rcmp (a b : Int) : decimal_Cmp.f a b = chapmanref02_Cmp.f a b := by
  unfold decimal_Cmp.f cmp_Compare_int.f cmp_isNaN_int.f chapmanref02_Cmp.f
  simp only [bne_self_eq_false, Option.bind_some, Bool.false_eq_true, if_false]
  by_cases h : a < b
  · simp [h]
  · by_cases h2 : a > b
    · simp [h, h2]
    · simp [h, h2]
end Go.Proofs.YtckonpphagkfeaaGreatDoor.H

/- Plain facts: the reference's sum of a list and its text of a number come to decimal's. -/
set_option linter.unusedVariables false
set_option linter.unusedSimpArgs false
namespace Go.Proofs.YtckonpphagkfeaaGreatDoor.H
open Go.RowKit Go.Proofs.YtckonpphagkfeaaGreatDoor.M Go.Proofs.YtckonpphagkfeaaGreatDoor.Q Go.Proofs.YtckonpphagkfeaaGreatDoorW.PrintWords Go.Proofs.YtckonpphagkfeaaGreatDoorW.PrintLast Go.Proofs.YtckonpphagkfeaaGreatDoorW.PrintMore

/-! ### The sum of a list -/
theorem tdm (x : Int) : 1000000000 * Int.tdiv x 1000000000 + Int.tmod x 1000000000 = x ∧ -1000000000 < Int.tmod x 1000000000 ∧ Int.tmod x 1000000000 < 1000000000 :=
  ⟨Int.mul_tdiv_add_tmod x 1000000000, by have := tmod_in x 1000000000 (by decide); omega, by have := tmod_in x 1000000000 (by decide); omega⟩
theorem sum_step (h lo x : Int) (hx : -4000000000000000000 ≤ x ∧ x ≤ 4000000000000000000) (hlo : -1000000000 < lo ∧ lo < 1000000000) (hh : -1000000000000 ≤ h ∧ h ≤ 1000000000000) :
    ∃ h' lo', wrap64 (wrap64 (h + wrap64 (Int.tdiv x 1000000000)) + wrap64 (Int.tdiv (wrap64 (lo + Int.tmod x 1000000000)) 1000000000)) = h' ∧ Int.tmod (wrap64 (lo + Int.tmod x 1000000000)) 1000000000 = lo' ∧
      h' * 1000000000 + lo' = h * 1000000000 + lo + x ∧ (-1000000000 < lo' ∧ lo' < 1000000000) ∧ h - 4000000002 ≤ h' ∧ h' ≤ h + 4000000002 := by
  obtain ⟨t1, t2, t3⟩ := tdm x
  generalize Int.tdiv x 1000000000 = d at *
  generalize Int.tmod x 1000000000 = m at *
  rw [wrap64_id (lo + m) (by omega), wrap64_id d (by omega)]
  obtain ⟨u1, u2, u3⟩ := tdm (lo + m)
  generalize Int.tdiv (lo + m) 1000000000 = e at *
  generalize Int.tmod (lo + m) 1000000000 = n at *
  rw [wrap64_id (h + d) (by omega), wrap64_id e (by omega), wrap64_id (h + d + e) (by omega)]
  exact ⟨_, _, rfl, rfl, by omega, by omega, by omega, by omega⟩
theorem sumR_bad {l : List Int} {k : Nat} (hk : k < l.length) (hx : okS (rd l (k : Int)) = false) : sumR l = (0, 2) := by
  have hall : l.all okS = false := by
    rw [List.all_eq_false]
    refine ⟨l[k], List.getElem_mem hk, ?_⟩
    have : rd l (k : Int) = l[k] := by simp [rd, hk]
    rw [← this, hx]
    simp
  unfold sumR
  rw [hall, Bool.false_and]
  rfl
theorem rsum_end (l : List Int) (k : Nat) (h lo : Int) (hall : l.all okS = true) (hs : h * 1000000000 + lo = l.sum) (hlo : -1000000000 < lo ∧ lo < 1000000000) :
    chapmanref02_SumIn.l0 (k + 2) l h lo (l.length : Int) = some (sumR l) := by
  rw [chapmanref02_SumIn.l0, if_neg (by omega)]
  have hr : sumR l = if okS l.sum then (l.sum, 0) else (0, 2) := by
    unfold sumR
    rw [hall, Bool.true_and]
  rw [hr, ← hs]
  clear hr hs hall
  by_cases h1 : h > 5000000000
  · rw [if_pos h1, chapmanref02_SumIn.j1, if_pos rfl]
    have : okS (h * 1000000000 + lo) = false := by
      simp only [okS, Bool.and_eq_false_iff, decide_eq_false_iff_not]; omega
    rw [this]; rfl
  · rw [if_neg h1, chapmanref02_SumIn.j1]
    by_cases h2 : h < -5000000000
    · rw [decide_eq_true h2, if_pos rfl]
      have : okS (h * 1000000000 + lo) = false := by
        simp only [okS, Bool.and_eq_false_iff, decide_eq_false_iff_not]; omega
      rw [this]; rfl
    · rw [decide_eq_false h2, if_neg Bool.false_ne_true, wrap64_id (h * 1000000000) (by omega), wrap64_id (h * 1000000000 + lo) (by omega)]
      generalize h * 1000000000 + lo = n
      by_cases h3 : n < -4000000000000000000
      · rw [if_pos h3]
        have : okS n = false := by
          simp only [okS, Bool.and_eq_false_iff, decide_eq_false_iff_not]; omega
        rw [this]; rfl
      · rw [if_neg h3]
        by_cases h4 : n > 4000000000000000000
        · rw [if_pos h4]
          have : okS n = false := by
            simp only [okS, Bool.and_eq_false_iff, decide_eq_false_iff_not]; omega
          rw [this]; rfl
        · rw [if_neg h4]
          have : okS n = true := by
            simp only [okS, Bool.and_eq_true, decide_eq_true_eq]; omega
          rw [this]; rfl
theorem rsum_l (l : List Int) (hl : l.length ≤ 60) : ∀ (n i k : Nat) (h lo : Int), i + n = l.length → (l.take i).all okS = true → h * 1000000000 + lo = (l.take i).sum → (-1000000000 < lo ∧ lo < 1000000000) →
    -4000000002 * (i : Int) ≤ h → h ≤ 4000000002 * (i : Int) → chapmanref02_SumIn.l0 (k + 2 + n) l h lo (i : Int) = some (sumR l) := by
  intro n
  induction n with
  | zero =>
    intro i k h lo hi hall hs hlo _ _
    obtain rfl : i = l.length := by omega
    rw [List.take_length] at hall hs
    exact rsum_end l k h lo hall hs hlo
  | succ n ih =>
    intro i k h lo hi hall hs hlo h1 h2
    have hil : i < l.length := by omega
    rw [show k + 2 + (n + 1) = (k + 2 + n) + 1 by omega, chapmanref02_SumIn.l0, if_pos (by omega), if_pos (by omega)]
    by_cases hok : okS (rd l (i : Int)) = true
    · have hb := hok
      simp only [okS, Bool.and_eq_true, decide_eq_true_eq] at hb
      rw [if_neg (by omega), if_neg (by omega)]
      obtain ⟨h', lo', e1, e2, e3, e4, e5, e6⟩ := sum_step h lo (rd l (i : Int)) hb hlo (by omega)
      rw [e1, e2, wrap64_id ((i : Int) + 1) (by omega), show (i : Int) + 1 = ((i + 1 : Nat) : Int) by omega]
      refine ih (i + 1) k h' lo' (by omega) ?_ ?_ e4 (by omega) (by omega)
      · rw [take_at l i hil]; simp [hall, hok]
      · rw [sum_at l i hil, e3, hs]
    · have hf : okS (rd l (i : Int)) = false := by simpa using hok
      rw [sumR_bad hil hf]
      simp only [okS, Bool.and_eq_false_iff, decide_eq_false_iff_not] at hf
      by_cases h3 : rd l (i : Int) < -4000000000000000000
      · rw [if_pos h3]
      · rw [if_neg h3, if_pos (by omega)]
theorem rsum (l : List Int) (hl : l.length ≤ 60) (k : Nat) : chapmanref02_SumIn.f (k + 2 + l.length) l = some (sumR l) := by
  unfold chapmanref02_SumIn.f
  exact rsum_l l hl l.length 0 k 0 0 (by omega) rfl rfl (by omega) (by omega) (by omega)

/-! ### Digits -/
theorem u64_in (n : Nat) (h : n < 18446744073709551616) : IntKind.u64.wrap (n : Int) = (n : Int) := by rw [IntKind.wrap_u64]; omega
theorem str_digit (n : Nat) : strOfNums [(IntKind.u64.wrap (48 + Int.tmod (n : Int) 10)) % 256] = ⟨[UInt8.ofNat (48 + n % 10)].toArray⟩ := by
  have e : Int.tmod (n : Int) 10 = ((n % 10 : Nat) : Int) := by rw [Int.tmod_eq_emod_of_nonneg (Int.natCast_nonneg n)]; omega
  have h : n % 10 < 10 := Nat.mod_lt _ (by decide)
  rw [e]
  generalize n % 10 = d at *
  have e2 : (IntKind.u64.wrap (48 + (d : Int))) % 256 = ((48 + d : Nat) : Int) := by
    rw [show (48 : Int) + (d : Int) = ((48 + d : Nat) : Int) by omega, u64_in _ (by omega)]
    omega
  rw [e2]
  rfl
/-- Digits, at least so many, no more than are wanted. -/
def DigitsOf (least n : Nat) (D : List UInt8) : Prop := D.all isDig = true ∧ valB D = n ∧ least ≤ D.length ∧ (D.length = least ∨ D.head? ≠ some 48) ∧ D.length ≤ 20
theorem digits_step (k n least : Nat) (hn : n < 18446744073709551616) (E : List UInt8) (hE : E.length ≤ 100) (hgo : 0 < n ∨ E.length < least) :
    chapmanref02_digits.l0 (k + 1) (n : Int) (least : Int) ⟨E.toArray⟩ = chapmanref02_digits.l0 k ((n / 10 : Nat) : Int) (least : Int) ⟨(UInt8.ofNat (48 + n % 10) :: E).toArray⟩ := by
  have hd : IntKind.u64.wrap (Int.tdiv (n : Int) 10) = ((n / 10 : Nat) : Int) := by
    rw [Int.tdiv_eq_ediv_of_nonneg (Int.natCast_nonneg n), show (n : Int) / 10 = ((n / 10 : Nat) : Int) by omega]
    exact u64_in _ (by omega)
  have hs : (⟨E.toArray⟩ : ByteArray).size = E.length := by show E.toArray.size = _; rw [List.size_toArray]
  have hz : (strOfNums [(IntKind.u64.wrap (48 + Int.tmod (n : Int) 10)) % 256]).size + (⟨E.toArray⟩ : ByteArray).size ≤ 9223372036854775807 := by
    rw [str_digit, hs]
    show 1 + _ ≤ _
    omega
  have ha : strOfNums [(IntKind.u64.wrap (48 + Int.tmod (n : Int) 10)) % 256] ++ (⟨E.toArray⟩ : ByteArray) = ⟨(UInt8.ofNat (48 + n % 10) :: E).toArray⟩ := by
    rw [str_digit, ba_append]
    rfl
  rw [chapmanref02_digits.l0]
  simp only [Option.bind_some]
  rw [if_pos hz, hd, ha, hs]
  by_cases h0 : 0 < n
  · rw [if_pos (by omega)]
  · rw [if_neg (by omega), if_pos (by omega)]
theorem digits_stop (k least : Nat) (E : List UInt8) (hE : least ≤ E.length) : chapmanref02_digits.l0 (k + 1) 0 (least : Int) ⟨E.toArray⟩ = some ⟨E.toArray⟩ := by
  have hs : (⟨E.toArray⟩ : ByteArray).size = E.length := by show E.toArray.size = _; rw [List.size_toArray]
  rw [chapmanref02_digits.l0, if_neg (by decide), hs, if_neg (by omega)]
/-- The digits that are wanted ahead of those that there are. -/
def front : Nat → Nat → Nat → List UInt8
  | 0, _, _ => []
  | d + 1, n, least => if 0 < n ∨ 0 < least then front d (n / 10) (least - 1) ++ [UInt8.ofNat (48 + n % 10)] else []
theorem digits_run : ∀ (d n least k : Nat) (E : List UInt8), n < 10 ^ d → n < 18446744073709551616 → least ≤ E.length + d → E.length + d ≤ 100 → least ≤ 100 →
    chapmanref02_digits.l0 (k + d + 1) (n : Int) (least : Int) ⟨E.toArray⟩ = some ⟨(front d n (least - E.length) ++ E).toArray⟩ := by
  intro d
  induction d with
  | zero =>
    intro n least k E h _ hl _ _
    obtain rfl : n = 0 := by simp at h; omega
    exact digits_stop k least E (by omega)
  | succ d ih =>
    intro n least k E h hu hl hE hle
    by_cases hgo : 0 < n ∨ E.length < least
    · have hdiv : n / 10 < 10 ^ d := by
        rw [Nat.pow_succ] at h
        omega
      rw [show k + (d + 1) + 1 = (k + d + 1) + 1 by omega, digits_step (k + d + 1) n least hu E (by omega) hgo]
      rw [ih (n / 10) least k (UInt8.ofNat (48 + n % 10) :: E) hdiv (by omega) (by simp; omega) (by simp; omega) hle]
      have : front (d + 1) n (least - E.length) = front d (n / 10) (least - E.length - 1) ++ [UInt8.ofNat (48 + n % 10)] := by
        rw [front, if_pos (by omega)]
      rw [this, List.append_assoc, List.length_cons, Nat.sub_add_eq]
      rfl
    · have hn0 : n = 0 := by omega
      subst hn0
      have : front (d + 1) 0 (least - E.length) = [] := by
        rw [front, if_neg (by omega)]
      rw [this, show k + (d + 1) + 1 = (k + d + 1) + 1 by omega]
      exact digits_stop _ least E (by omega)
theorem front_spec : ∀ (d n least : Nat), n < 10 ^ d → least ≤ d → (front d n least).all isDig = true ∧ valB (front d n least) = n ∧ least ≤ (front d n least).length ∧ (front d n least).length ≤ d ∧ ((front d n least).length = least ∨ (front d n least).head? ≠ some 48) ∧ (n ≠ 0 → front d n least ≠ []) := by
  intro d
  induction d with
  | zero =>
    intro n least h hl
    obtain rfl : n = 0 := by simp at h; omega
    obtain rfl : least = 0 := by omega
    exact ⟨rfl, rfl, Nat.le_refl _, Nat.le_refl _, .inl rfl, fun h => absurd rfl h⟩
  | succ d ih =>
    intro n least h hl
    rw [front]
    by_cases hgo : 0 < n ∨ 0 < least
    · have hdiv : n / 10 < 10 ^ d := by
        rw [Nat.pow_succ] at h
        omega
      obtain ⟨i1, i2, i3, i4, i5, i6⟩ := ih (n / 10) (least - 1) hdiv (by omega)
      obtain ⟨d1, d2, d3⟩ := digit_of (n % 10) (Nat.mod_lt _ (by decide))
      rw [if_pos hgo]
      refine ⟨by rw [List.all_append, i1, List.all_cons, d1]; rfl, by rw [valB_append, i2, valB_one, d2]; simp; omega, by simp; omega, by simp; omega, ?_, by simp⟩
      by_cases hz : n / 10 = 0
      · rcases i5 with i5 | i5
        · by_cases hl0 : least = 0
          · right
            have : front d (n / 10) (least - 1) = [] := List.eq_nil_of_length_eq_zero (by omega)
            rw [this]
            simp only [List.nil_append, List.head?_cons, ne_eq, Option.some.injEq]
            exact d3 (by omega)
          · left
            simp
            omega
        · cases hF : front d (n / 10) (least - 1) with
          | nil =>
            rw [hF] at i3
            have i3' : least - 1 ≤ 0 := i3
            by_cases hl0 : least = 0
            · right
              simp only [List.nil_append, List.head?_cons, ne_eq, Option.some.injEq]
              exact d3 (by omega)
            · left
              simp
              omega
          | cons c r =>
            right
            rw [hF] at i5
            simpa using i5
      · have hne := i6 hz
        rcases i5 with i5 | i5
        · by_cases hl0 : least = 0
          · subst hl0
            exact absurd (List.eq_nil_of_length_eq_zero i5) hne
          · left
            simp
            omega
        · right
          cases hF : front d (n / 10) (least - 1) with
          | nil => exact absurd hF hne
          | cons c r =>
            rw [hF] at i5
            simpa using i5
    · rw [if_neg hgo]
      exact ⟨rfl, by show 0 = n; omega, by omega, Nat.zero_le _, .inl (by simp; omega), fun h => by omega⟩
theorem digits_f (k n least : Nat) (hn : n < 10 ^ 19) (hl : least ≤ 19) : chapmanref02_digits.f (k + 20) (n : Int) (least : Int) = some ⟨(front 19 n least).toArray⟩ := by
  have h := digits_run 19 n least k [] hn (Nat.lt_trans hn (by decide)) (by simp; omega) (by simp) (by omega)
  rw [List.append_nil, List.length_nil, Nat.sub_zero] at h
  unfold chapmanref02_digits.f
  rw [show k + 20 = k + 19 + 1 by omega]
  exact h

/-! ### The text of a number -/
theorem rsize (a : Int) (h0 : -9223372036854775808 ≤ a) (h1 : a ≤ 9223372036854775807) : chapmanref02_size.f a = some (a.natAbs : Int) := by
  unfold chapmanref02_size.f
  split
  · rw [wrap64_id (a + 1) (by omega), wrap64_id (-(a + 1)) (by omega)]
    congr 1
    rw [IntKind.wrap_u64, IntKind.wrap_u64]; omega
  · congr 1
    rw [IntKind.wrap_u64]; omega
theorem size_arr (l : List UInt8) : (⟨l.toArray⟩ : ByteArray).size = l.length := by show l.toArray.size = _; rw [List.size_toArray]
theorem bt_at (l : List UInt8) (i : Nat) (hi : i < l.length) : bt ⟨l.toArray⟩ (i : Int) = ((l[i]).toNat : Int) := by
  have hs : i < (⟨l.toArray⟩ : ByteArray).size := by rw [size_arr]; exact hi
  simp only [bt, Int.toNat_natCast]
  rw [dif_pos hs]
  rfl
theorem text_round (k : Nat) (S Y : List UInt8) (z : UInt8) (hS : S.length ≤ 100) (hY : Y.length ≤ 200) :
    chapmanref02_Text.l0 (k + 1) ⟨S.toArray⟩ ⟨(Y ++ [z]).toArray⟩ = if z = 48 then chapmanref02_Text.l0 k ⟨S.toArray⟩ ⟨Y.toArray⟩ else some ⟨(S ++ 46 :: (Y ++ [z])).toArray⟩ := by
  have hsz : (⟨(Y ++ [z]).toArray⟩ : ByteArray).size = Y.length + 1 := by rw [size_arr]; simp
  have hw : wrap64 (((⟨(Y ++ [z]).toArray⟩ : ByteArray).size : Int) - 1) = ((Y.length : Nat) : Int) := by rw [hsz, wrap64_id _ (by omega)]; omega
  have hb : bt ⟨(Y ++ [z]).toArray⟩ ((Y.length : Nat) : Int) = (z.toNat : Int) := by
    rw [bt_at _ _ (by simp)]
    simp
  rw [chapmanref02_Text.l0, hw, hb, hsz, if_pos (by omega), if_pos (by omega), Int.toNat_natCast]
  by_cases hz : z = 48
  · subst hz
    have h48 : ((UInt8.toNat 48 : Nat) : Int) = 48 := rfl
    rw [if_pos h48, if_pos (show (48 : UInt8) = 48 from rfl), if_pos (by omega), ba_extract]
    simp
  · have hne : ¬ (z.toNat : Int) = 48 := fun h => hz (UInt8.toNat_inj.mp (by show z.toNat = 48; omega))
    rw [if_neg hz, if_neg hne]
    have ha : (⟨S.toArray⟩ : ByteArray) ++ (⟨#[46]⟩ : ByteArray) = ⟨(S ++ [46]).toArray⟩ := ba_append S [46]
    rw [ha, ba_append, size_arr, size_arr, if_pos (by omega), if_pos (by simp; omega), List.append_assoc]
    rfl
theorem text_loop (S X : List UInt8) (c : UInt8) (hc : c ≠ 48) (hS : S.length ≤ 100) : ∀ (m k : Nat), X.length + m ≤ 100 →
    chapmanref02_Text.l0 (k + m + 1) ⟨S.toArray⟩ ⟨(X ++ [c] ++ List.replicate m 48).toArray⟩ = some ⟨(S ++ 46 :: (X ++ [c])).toArray⟩
  | 0, k, h => by
    rw [List.replicate_zero, List.append_nil, text_round _ S X c hS (by omega), if_neg hc]
  | m + 1, k, h => by
    rw [List.replicate_succ', ← List.append_assoc, show k + (m + 1) + 1 = (k + m + 1) + 1 by omega, text_round _ S _ 48 hS (by simp; omega), if_pos rfl]
    exact text_loop S X c hc hS m k (by omega)
theorem pad_front (n : Int) (h : n.natAbs < 10 ^ 19) : padB n = front 19 (n.natAbs / 1000000) 1 ++ front 19 (n.natAbs % 1000000) 6 ∧ (front 19 (n.natAbs % 1000000) 6).length = 6 ∧ (front 19 (n.natAbs / 1000000) 1).length ≤ 19 := by
  obtain ⟨c1, c2⟩ := padB_canon n (Nat.lt_trans h (by decide))
  generalize n.natAbs = u at *
  obtain ⟨a1, a2, a3, a4, a5, a6⟩ := front_spec 19 (u / 1000000) 1 (by omega) (by decide)
  obtain ⟨b1, b2, b3, b4, b5, b6⟩ := front_spec 19 (u % 1000000) 6 (by omega) (by decide)
  generalize front 19 (u / 1000000) 1 = A at *
  generalize front 19 (u % 1000000) 6 = B at *
  have hB : B.length = 6 := by
    rcases b5 with h | h
    · exact h
    · cases B with
      | nil => simp at b3
      | cons c r =>
        have hc : c ≠ 48 := fun e => h (by rw [e]; rfl)
        simp only [List.all_cons, Bool.and_eq_true] at b1
        have hg := valB_ge (r := r) b1.1 hc
        rw [b2] at hg
        simp only [List.length_cons] at b3 ⊢
        rcases Nat.lt_or_ge 5 r.length with h5 | h5
        · have : 10 ^ 6 ≤ 10 ^ r.length := Nat.pow_le_pow_right (by decide) h5
          omega
        · omega
  refine ⟨(canon_uniq ?_ c1 ?_).symm, hB, a4⟩
  · refine ⟨by rw [List.all_append, a1, b1]; rfl, by rw [List.length_append]; omega, ?_⟩
    rcases a5 with h | h
    · left; rw [List.length_append]; omega
    · right
      cases A with
      | nil => simp at a3
      | cons c r => simpa using h
  · rw [valB_append, a2, b2, hB, c2]
    omega
theorem rtext (k : Nat) (a : Int) (h0 : -9223372036854775808 ≤ a) (h1 : a ≤ 9223372036854775807) : chapmanref02_Text.f (k + 100) a = some ⟨(textL a).toArray⟩ := by
  have hu : a.natAbs < 10 ^ 19 := Nat.lt_of_le_of_lt (show a.natAbs ≤ 9223372036854775808 by omega) (by decide)
  obtain ⟨hp, hB, hA⟩ := pad_front a hu
  have hW : wholeB a = front 19 (a.natAbs / 1000000) 1 := by
    unfold wholeB
    rw [hp, List.length_append, hB, Nat.add_sub_cancel, List.take_left]
  have hP : partB a = Lib.trimRightB (front 19 (a.natAbs % 1000000) 6) 48 := by
    unfold partB
    rw [hp, List.length_append, hB, Nat.add_sub_cancel, List.drop_left]
  have hsize := rsize a h0 h1
  have hb2 := (front_spec 19 (a.natAbs % 1000000) 6 (by omega) (by decide)).2.1
  have hb1 := (front_spec 19 (a.natAbs % 1000000) 6 (by omega) (by decide)).1
  have hd1 := digits_f (k + 80) (a.natAbs / 1000000) 1 (by omega) (by decide)
  have hd2 := digits_f (k + 79) (a.natAbs % 1000000) 6 (by omega) (by decide)
  have e1 : IntKind.u64.wrap (Int.tdiv (a.natAbs : Int) 1000000) = ((a.natAbs / 1000000 : Nat) : Int) := by
    rw [Int.tdiv_eq_ediv_of_nonneg (Int.natCast_nonneg _), show (a.natAbs : Int) / 1000000 = ((a.natAbs / 1000000 : Nat) : Int) by omega]
    exact u64_in _ (by omega)
  have e2 : Int.tmod (a.natAbs : Int) 1000000 = ((a.natAbs % 1000000 : Nat) : Int) := by
    rw [Int.tmod_eq_emod_of_nonneg (Int.natCast_nonneg _)]; omega
  have htl : textL a = (signB a ++ front 19 (a.natAbs / 1000000) 1) ++ (if partB a = [] then [] else 46 :: partB a) := by
    unfold textL
    rw [hW]
  have hj : ∀ S : List UInt8, S.length ≤ 100 → chapmanref02_Text.j0 (k + 100) (a.natAbs : Int) ⟨S.toArray⟩ = some ⟨(S ++ (if partB a = [] then [] else 46 :: partB a)).toArray⟩ := by
    intro S hS
    rw [show k + 100 = (k + 99) + 1 by omega, chapmanref02_Text.j0, e2]
    obtain ⟨m, t1, t2⟩ := trim_spec (front 19 (a.natAbs % 1000000) 6)
    rw [← hP] at t1 t2
    rw [show k + 99 = k + 79 + 20 by omega, show ((6 : Int)) = ((6 : Nat) : Int) from rfl, hd2]
    simp only [Option.bind_some]
    have hlen : (partB a).length + m = 6 := by rw [← hB, t1]; simp
    by_cases hr : a.natAbs % 1000000 = 0
    · rw [if_pos (by omega)]
      have hnil : partB a = [] := by
        rcases t2 with t2 | ⟨X, c, t2, hc⟩
        · exact t2
        · exfalso
          rw [t1, List.all_append, Bool.and_eq_true, t2, List.all_append, Bool.and_eq_true] at hb1
          have hcd : isDig c = true := by simpa using hb1.1.2
          rw [t1, t2, valB_append, valB_append, valB_one, hr] at hb2
          have h1 := digV_pos hcd hc
          have h2 : 0 < 10 ^ (List.replicate m (48 : UInt8)).length := Nat.pow_pos (by decide)
          have h3 : 0 < (valB X * 10 ^ [c].length + digV c) * 10 ^ (List.replicate m (48 : UInt8)).length := Nat.mul_pos (by omega) h2
          omega
      rw [if_pos hnil, List.append_nil]
    · rw [if_neg (by omega)]
      rcases t2 with t2 | ⟨X, c, t2, hc⟩
      · exfalso
        rw [t1, t2, List.nil_append, zeros_val] at hb2
        omega
      · rw [if_neg (by rw [t2]; simp), t1, t2]
        rw [t2] at hlen
        simp only [List.length_append, List.length_cons, List.length_nil] at hlen
        have := text_loop S X c hc hS m (k + 98 - m) (by omega)
        rw [show k + 98 - m + m + 1 = k + 79 + 20 by omega] at this
        exact this
  unfold chapmanref02_Text.f
  rw [hsize, Option.bind_some, e1, show k + 100 = k + 80 + 20 by omega, show ((1 : Int)) = ((1 : Nat) : Int) from rfl, hd1, Option.bind_some, htl]
  rw [show k + 80 + 20 = k + 100 by omega]
  by_cases hn : a < 0
  · rw [if_pos hn]
    have hs : signB a = [45] := if_pos hn
    have ha : (⟨#[45]⟩ : ByteArray) ++ (⟨(front 19 (a.natAbs / 1000000) 1).toArray⟩ : ByteArray) = ⟨([45] ++ front 19 (a.natAbs / 1000000) 1).toArray⟩ := ba_append [45] _
    rw [size_arr, if_pos (by omega), ha, hs]
    exact hj _ (by simp; omega)
  · rw [if_neg hn]
    have hs : signB a = [] := if_neg hn
    rw [hs, List.nil_append]
    exact hj _ (by omega)
end Go.Proofs.YtckonpphagkfeaaGreatDoor.H

/- Plain facts: the reference's parts of a string and its numerals come to decimal's. -/
set_option linter.unusedVariables false
set_option linter.unusedSimpArgs false
namespace Go.Proofs.YtckonpphagkfeaaGreatDoor.H
open Go.RowKit Go.Proofs.YtckonpphagkfeaaGreatDoor.M Go.Proofs.YtckonpphagkfeaaGreatDoor.Q Go.Proofs.YtckonpphagkfeaaGreatDoorW.PrintWords Go.Proofs.YtckonpphagkfeaaGreatDoorW.PrintLast Go.Proofs.YtckonpphagkfeaaGreatDoorW.PrintMore

/-! ### Numerals -/
theorem rnum_l (l : List UInt8) (hl : l.length ≤ 1000) : ∀ (n i k : Nat), i + n = l.length → chapmanref02_numeral.l0 (k + n + 1) ⟨l.toArray⟩ (i : Int) = some (!l.isEmpty && (l.drop i).all isDig) := by
  intro n
  induction n with
  | zero =>
    intro i k h
    obtain rfl : i = l.length := by omega
    rw [chapmanref02_numeral.l0, size_arr, if_neg (by omega)]
    cases l <;> simp
  | succ n ih =>
    intro i k h
    have hi : i < l.length := by omega
    have he : l.isEmpty = false := by cases l <;> simp_all
    rw [show k + (n + 1) + 1 = (k + n + 1) + 1 by omega, chapmanref02_numeral.l0, size_arr, if_pos (by omega), if_pos (by omega), bt_at l i hi, he, List.drop_eq_getElem_cons hi, List.all_cons]
    by_cases h1 : ((l[i]).toNat : Int) < 48
    · have : isDig l[i] = false := by unfold isDig; rw [decide_eq_false (by omega), Bool.false_and]
      rw [if_pos h1, this]; rfl
    · rw [if_neg h1]
      by_cases h2 : ((l[i]).toNat : Int) > 57
      · have : isDig l[i] = false := by unfold isDig; rw [decide_eq_false (show ¬ (l[i]).toNat ≤ 57 by omega), Bool.and_false]
        rw [if_pos h2, this]; rfl
      · have : isDig l[i] = true := by unfold isDig; rw [decide_eq_true (by omega), decide_eq_true (by omega)]; rfl
        rw [if_neg h2, this, wrap64_id ((i : Int) + 1) (by omega), show (i : Int) + 1 = ((i + 1 : Nat) : Int) by omega, ih (i + 1) k (by omega), he]
        rfl
theorem rnum (l : List UInt8) (hl : l.length ≤ 1000) (k : Nat) (hk : l.length < k) : chapmanref02_numeral.f k ⟨l.toArray⟩ = some (numB l) := by
  have := rnum_l l hl l.length 0 (k - l.length - 1) (by omega)
  unfold chapmanref02_numeral.f numB
  rw [show k - l.length - 1 + l.length + 1 = k by omega, List.drop_zero] at this
  exact this

/-! ### The parts of a string -/
theorem split_rest (l W Pt : ByteArray) (mn : Bool) (hl : l.size ≤ 1000) : ∀ (n i k : Nat), i + n = l.size → chapmanref02_split.l0 (k + n + 1) l (i : Int) mn true W Pt = some (mn, true, W, Pt) := by
  intro n
  induction n with
  | zero =>
    intro i k h
    rw [chapmanref02_split.l0, if_neg (by omega), if_pos rfl]
  | succ n ih =>
    intro i k h
    rw [show k + (n + 1) + 1 = (k + n + 1) + 1 by omega, chapmanref02_split.l0, if_pos (by omega), if_pos (by omega), wrap64_id ((i : Int) + 1) (by omega), show (i : Int) + 1 = ((i + 1 : Nat) : Int) by omega, ih (i + 1) k (by omega)]
    split <;> rfl
theorem split_none (l : List UInt8) (mn : Bool) (e1 e2 : ByteArray) (hl : l.length ≤ 1000) (hp : (46 : UInt8) ∉ l) : ∀ (n i k : Nat), i + n = l.length →
    chapmanref02_split.l0 (k + n + 1) ⟨l.toArray⟩ (i : Int) mn false e1 e2 = some (mn, false, ⟨l.toArray⟩, e2) := by
  intro n
  induction n with
  | zero =>
    intro i k h
    rw [chapmanref02_split.l0, size_arr, if_neg (by omega), if_neg Bool.false_ne_true]
  | succ n ih =>
    intro i k h
    have hi : i < l.length := by omega
    have hne : ¬ ((l[i]).toNat : Int) = 46 := fun he => hp (by
      have : l[i] = 46 := UInt8.toNat_inj.mp (by show (l[i]).toNat = 46; omega)
      rw [← this]; exact List.getElem_mem hi)
    rw [show k + (n + 1) + 1 = (k + n + 1) + 1 by omega, chapmanref02_split.l0, size_arr, if_pos (by omega), if_pos (by omega), bt_at l i hi, if_neg hne, wrap64_id ((i : Int) + 1) (by omega), show (i : Int) + 1 = ((i + 1 : Nat) : Int) by omega]
    exact ih (i + 1) k (by omega)
theorem split_find (W Pt : List UInt8) (mn : Bool) (e1 e2 : ByteArray) (hl : W.length + Pt.length ≤ 900) (hp : (46 : UInt8) ∉ W) : ∀ (n i k : Nat), i + n = W.length →
    chapmanref02_split.l0 (k + n + Pt.length + 2) ⟨(W ++ 46 :: Pt).toArray⟩ (i : Int) mn false e1 e2 = some (mn, true, ⟨W.toArray⟩, ⟨Pt.toArray⟩) := by
  intro n
  have hz : (W ++ 46 :: Pt).length = W.length + Pt.length + 1 := by simp; omega
  induction n with
  | zero =>
    intro i k h
    obtain rfl : i = W.length := by omega
    have hb : (((W ++ 46 :: Pt)[W.length]'(by omega)).toNat : Int) = 46 := by simp
    rw [show k + 0 + Pt.length + 2 = (k + Pt.length + 1) + 1 by omega, chapmanref02_split.l0, size_arr, hz, if_pos (by omega), if_pos (by omega), bt_at _ _ (by omega), if_pos hb, if_neg Bool.false_ne_true, wrap64_id ((W.length : Int) + 1) (by omega), show (W.length : Int) + 1 = ((W.length + 1 : Nat) : Int) by omega, if_pos (by omega), if_pos (by omega), if_pos (by omega), Int.toNat_natCast, Int.toNat_natCast, ba_extract, ba_extract]
    have hW : ((W ++ 46 :: Pt).drop 0).take (W.length - 0) = W := by simp
    have hP : ((W ++ 46 :: Pt).drop (W.length + 1)).take (W.length + Pt.length + 1 - (W.length + 1)) = Pt := by
      rw [List.drop_append, List.drop_eq_nil_of_le (by omega)]
      simp
    rw [hW, hP]
    exact split_rest _ _ _ mn (by rw [size_arr, hz]; omega) Pt.length (W.length + 1) k (by rw [size_arr, hz]; omega)
  | succ n ih =>
    intro i k h
    have hi : i < W.length := by omega
    have hg : (W ++ 46 :: Pt)[i]'(by omega) = W[i] := List.getElem_append_left hi
    have hne : ¬ ((W[i]).toNat : Int) = 46 := fun he => hp (by
      have : W[i] = 46 := UInt8.toNat_inj.mp (by show (W[i]).toNat = 46; omega)
      rw [← this]; exact List.getElem_mem hi)
    rw [show k + (n + 1) + Pt.length + 2 = (k + n + Pt.length + 2) + 1 by omega, chapmanref02_split.l0, size_arr, hz, if_pos (by omega), if_pos (by omega), bt_at _ _ (by omega), hg, if_neg hne, wrap64_id ((i : Int) + 1) (by omega), show (i : Int) + 1 = ((i + 1 : Nat) : Int) by omega]
    exact ih (i + 1) k (by omega)
theorem split_cut (l : List UInt8) (mn : Bool) (k : Nat) (hl : l.length ≤ 900) (hk : l.length + 2 ≤ k) :
    chapmanref02_split.l0 k ⟨l.toArray⟩ 0 mn false (⟨#[]⟩ : ByteArray) (⟨#[]⟩ : ByteArray) = some (mn, (Lib.cut l [46]).2.2, ⟨(Lib.cut l [46]).1.toArray⟩, ⟨(Lib.cut l [46]).2.1.toArray⟩) := by
  by_cases hp : (46 : UInt8) ∈ l
  · obtain ⟨W, Pt, hs, hW⟩ : ∃ W Pt, l = W ++ 46 :: Pt ∧ (46 : UInt8) ∉ W := by
      obtain ⟨W, Pt, h1, h2⟩ := List.eq_append_cons_of_mem hp
      exact ⟨W, Pt, h1, h2⟩
    subst hs
    have hz : (W ++ 46 :: Pt).length = W.length + Pt.length + 1 := by simp; omega
    rw [cut_point hW]
    have := split_find W Pt mn (⟨#[]⟩ : ByteArray) (⟨#[]⟩ : ByteArray) (by omega) hW W.length 0 (k - W.length - Pt.length - 2) (by omega)
    rw [show k - W.length - Pt.length - 2 + W.length + Pt.length + 2 = k by omega] at this
    exact this
  · rw [cut_plain hp]
    have := split_none l mn (⟨#[]⟩ : ByteArray) (⟨#[]⟩ : ByteArray) (by omega) hp l.length 0 (k - l.length - 1) (by omega)
    rw [show k - l.length - 1 + l.length + 1 = k by omega] at this
    exact this
def minusB (l : List UInt8) : Bool := Lib.hasPrefix l [45]
theorem rsplit (l : List UInt8) (k : Nat) (hl : l.length ≤ 900) (hk : l.length + 4 ≤ k) :
    chapmanref02_split.f k ⟨l.toArray⟩ = some (Lib.hasPrefix l [45], (Lib.cut (Lib.trimPrefix l [45]) [46]).2.2, ⟨(Lib.cut (Lib.trimPrefix l [45]) [46]).1.toArray⟩, ⟨(Lib.cut (Lib.trimPrefix l [45]) [46]).2.1.toArray⟩) := by
  obtain ⟨k, rfl⟩ : ∃ j, k = j + 1 + 1 := ⟨k - 2, by omega⟩
  unfold chapmanref02_split.f
  cases l with
  | nil =>
    rw [if_neg (by rw [size_arr]; simp)]
    rw [chapmanref02_split.j0, if_neg Bool.false_ne_true, chapmanref02_split.j1]
    exact split_cut [] false k (by simp) (by simp at hk ⊢; omega)
  | cons c t =>
    have hc : bt ⟨(c :: t).toArray⟩ 0 = (c.toNat : Int) := bt_at (c :: t) 0 (by simp)
    rw [if_pos (by rw [size_arr]; simp), if_pos (by rw [size_arr]; simp), hc, chapmanref02_split.j0]
    by_cases h45 : c = 45
    · subst h45
      have e1 : Lib.hasPrefix (45 :: t) [45] = true := by simp [Lib.hasPrefix]
      have e2 : Lib.trimPrefix (45 :: t) [45] = t := by simp [Lib.trimPrefix, Lib.hasPrefix]
      have hx : (⟨(45 :: t).toArray⟩ : ByteArray).extract 1 (⟨(45 :: t).toArray⟩ : ByteArray).size = ⟨t.toArray⟩ := by
        rw [ba_extract, size_arr]
        simp
      rw [if_pos (by rfl), if_pos (by rw [size_arr]; simp; omega), hx, e1, e2, chapmanref02_split.j1]
      exact split_cut t true k (by simp at hl; omega) (by simp at hk; omega)
    · have e1 : Lib.hasPrefix (c :: t) [45] = false := by
        rw [Bool.eq_false_iff]
        intro h
        simp [Lib.hasPrefix] at h
        exact h45 h.symm
      have e2 : Lib.trimPrefix (c :: t) [45] = c :: t := by simp [Lib.trimPrefix, e1]
      have hne : ((c.toNat : Int) == 45) = false := by
        rw [beq_eq_false_iff_ne]
        exact fun h => h45 (UInt8.toNat_inj.mp (by show c.toNat = 45; omega))
      rw [hne, if_neg Bool.false_ne_true, e1, e2, chapmanref02_split.j1]
      exact split_cut (c :: t) false k hl (by omega)
end Go.Proofs.YtckonpphagkfeaaGreatDoor.H

/- Plain facts: what the reference parses is what decimal parses. -/
set_option linter.unusedVariables false
set_option linter.unusedSimpArgs false
namespace Go.Proofs.YtckonpphagkfeaaGreatDoor.H
open Go.RowKit Go.Proofs.YtckonpphagkfeaaGreatDoor.M Go.Proofs.YtckonpphagkfeaaGreatDoor.Q Go.Proofs.YtckonpphagkfeaaGreatDoorW.PrintWords Go.Proofs.YtckonpphagkfeaaGreatDoorW.PrintLast Go.Proofs.YtckonpphagkfeaaGreatDoorW.PrintMore

theorem minus_zero (l : List UInt8) : (l == [45, 48]) = (Lib.trimPrefix l [45] == [48] && Lib.hasPrefix l [45]) := by
  cases l with
  | nil => rfl
  | cons c t =>
    by_cases h : c = 45
    · subst h
      simp [Lib.trimPrefix, Lib.hasPrefix]
    · have e1 : Lib.hasPrefix (c :: t) [45] = false := by
        rw [Bool.eq_false_iff]
        intro h'
        simp [Lib.hasPrefix] at h'
        exact h h'.symm
      rw [e1, Bool.and_false, beq_eq_false_iff_ne]
      intro h'
      simp at h'
      exact h h'.1
theorem suffix_last (Y : List UInt8) (z : UInt8) : Lib.hasSuffix (Y ++ [z]) [48] = (z == 48) := by
  unfold Lib.hasSuffix
  by_cases h : z = 48
  · subst h
    simp [List.isSuffixOf]
  · have : (z == 48) = false := by simpa using h
    rw [this, Bool.eq_false_iff]
    intro h'
    simp [List.isSuffixOf] at h'
    exact h h'.symm
theorem numB_all {l : List UInt8} (h : numB l = true) : l.all isDig = true ∧ l ≠ [] := by
  unfold numB at h
  rw [Bool.and_eq_true] at h
  exact ⟨h.2, fun e => by rw [e] at h; simp at h⟩
theorem pj0 (k : Nat) (W Pt : List UInt8) (mn pt b : Bool) (s : Int) (hs : 0 ≤ s) (hP : Pt.length ≤ 900) :
    chapmanref02_ParseIn.j0 (k + Pt.length + 2) s b mn pt ⟨W.toArray⟩ ⟨Pt.toArray⟩ = if b = true then some (0, 5) else chapmanref02_ParseIn.j1 (k + Pt.length + 1) (bad2 Pt pt s.toNat) mn pt ⟨W.toArray⟩ ⟨Pt.toArray⟩ := by
  rw [show k + Pt.length + 2 = (k + Pt.length + 1) + 1 by omega, chapmanref02_ParseIn.j0]
  cases b with
  | true => rw [if_pos rfl, if_pos rfl]
  | false =>
    rw [if_neg Bool.false_ne_true, if_neg Bool.false_ne_true]
    cases pt with
    | false => rw [if_neg Bool.false_ne_true]; rfl
    | true =>
      rw [if_pos rfl, rnum Pt (by omega) _ (by omega), Option.bind_some]
      cases hn : numB Pt with
      | false =>
        have hb : bad2 Pt true s.toNat = true := by simp [bad2, hn]
        rw [if_neg Bool.false_ne_true, hb]
      | true =>
        rw [if_pos rfl, size_arr]
        by_cases hl : (Pt.length : Int) > s
        · have hb : bad2 Pt true s.toNat = true := by
            unfold bad2
            rw [decide_eq_true (show s.toNat < Pt.length by omega)]
            simp
          rw [if_pos hl, hb]
        · have hne := (numB_all hn).2
          have hpos : 0 < Pt.length := by
            cases Pt with
            | nil => exact absurd rfl hne
            | cons c r => simp
          have hw : wrap64 ((Pt.length : Int) - 1) = ((Pt.length - 1 : Nat) : Int) := by rw [wrap64_id _ (by omega)]; omega
          rw [if_neg hl, hw, if_pos (by omega), if_pos (by omega), bt_at Pt (Pt.length - 1) (by omega)]
          have hb : bad2 Pt true s.toNat = (((Pt[Pt.length - 1]'(by omega)).toNat : Int) == 48) := by
            have hd := List.dropLast_concat_getLast hne
            have hg : Pt.getLast hne = Pt[Pt.length - 1]'(by omega) := List.getLast_eq_getElem hne
            have hsuf : Lib.hasSuffix Pt [48] = (Pt[Pt.length - 1]'(by omega) == 48) := by
              rw [← hg]
              conv => lhs; rw [← hd]
              exact suffix_last _ _
            unfold bad2
            rw [hn, decide_eq_false (show ¬ s.toNat < Pt.length by omega), hsuf]
            simp only [Bool.not_true, Bool.false_or, Bool.true_and]
            rw [Bool.eq_iff_iff]
            simp only [beq_iff_eq]
            constructor
            · intro h; rw [h]; rfl
            · intro h; exact UInt8.toNat_inj.mp (by show _ = 48; omega)
          rw [hb]
theorem pval (l W Pt : List UInt8) (mn pt : Bool) (hall : l.all isDig = true) (hl : l.length ≤ 16) : ∀ (n i k : Nat), i + n = l.length →
    chapmanref02_ParseIn.l0 (k + n) ((valB (l.take i) : Nat) : Int) ⟨l.toArray⟩ (i : Int) mn pt ⟨W.toArray⟩ ⟨Pt.toArray⟩ = chapmanref02_ParseIn.l0 k ((valB l : Nat) : Int) ⟨l.toArray⟩ ((l.length : Nat) : Int) mn pt ⟨W.toArray⟩ ⟨Pt.toArray⟩ := by
  intro n
  induction n with
  | zero =>
    intro i k h
    obtain rfl : i = l.length := by omega
    rw [List.take_length]
    rfl
  | succ n ih =>
    intro i k h
    have hi : i < l.length := by omega
    have hd : isDig l[i] = true := List.all_eq_true.mp hall _ (List.getElem_mem hi)
    have hb := isDig_bounds hd
    have hlt := valB_lt (l.take i) (List.all_eq_true.mpr fun x hx => List.all_eq_true.mp hall x (List.mem_of_mem_take hx))
    rw [List.length_take, Nat.min_eq_left (by omega)] at hlt
    have hp : 10 ^ i ≤ 10 ^ 15 := Nat.pow_le_pow_right (by decide) (by omega)
    have hv : valB (l.take (i + 1)) = 10 * valB (l.take i) + ((l[i]).toNat - 48) := by
      rw [List.take_succ_eq_append_getElem hi, valB_append, valB_one, digV_eq]
      simp
      omega
    rw [show k + (n + 1) = (k + n) + 1 by omega, chapmanref02_ParseIn.l0, size_arr, if_pos (by omega), if_pos (by omega), bt_at l i hi]
    generalize valB (l.take i) = v at *
    generalize (l[i]).toNat = c at *
    have e : wrap64 (wrap64 (10 * (v : Int)) + ((c : Int) - 48) % 256) = ((valB (l.take (i + 1)) : Nat) : Int) := by
      rw [wrap64_id (10 * (v : Int)) (by omega), wrap64_id _ (by omega), hv]
      omega
    rw [e, wrap64_id ((i : Int) + 1) (by omega), show (i : Int) + 1 = ((i + 1 : Nat) : Int) by omega]
    exact ih (i + 1) k (by omega)
theorem pend (k : Nat) (l W Pt : List UInt8) (mn pt : Bool) (hP : Pt.length ≤ 6) (hv : valB l * 10 ^ (6 - Pt.length) ≤ 10 ^ 16) :
    chapmanref02_ParseIn.l0 (k + 8) ((valB l : Nat) : Int) ⟨l.toArray⟩ ((l.length : Nat) : Int) mn pt ⟨W.toArray⟩ ⟨Pt.toArray⟩ =
      some (if 1000000000000000 < valB l * 10 ^ (6 - Pt.length) then (0, 2) else (if mn then -((valB l * 10 ^ (6 - Pt.length) : Nat) : Int) else ((valB l * 10 ^ (6 - Pt.length) : Nat) : Int), 0)) := by
  rw [chapmanref02_ParseIn.l0, size_arr, if_neg (by omega), size_arr, rstep k Pt.length (by omega), stepOf_nat Pt.length (by omega)]
  have e : (valB l : Int) * ((10 ^ (6 - Pt.length) : Nat) : Int) = ((valB l * 10 ^ (6 - Pt.length) : Nat) : Int) := (Int.natCast_mul _ _).symm
  simp only [Option.bind_some]
  rw [e]
  generalize valB l * 10 ^ (6 - Pt.length) = V at *
  rw [wrap64_id (V : Int) (by omega), wrap64_id (-(V : Int)) (by omega), rvalid_f, rvalid_f]
  simp only [Option.bind_some]
  by_cases hb : 1000000000000000 < V
  · have h1 : okN (V : Int) = false := by unfold okN; rw [decide_eq_false (show ¬ (V : Int) ≤ 1000000000000000 by omega), Bool.and_false]
    have h2 : okN (-(V : Int)) = false := by unfold okN; rw [decide_eq_false (show ¬ -(V : Int) ≥ -1000000000000000 by omega), Bool.false_and]
    rw [h1, h2, if_pos hb]
    cases mn <;> rfl
  · have h1 : okN (V : Int) = true := okN_true (by omega) (by omega)
    have h2 : okN (-(V : Int)) = true := okN_true (by omega) (by omega)
    rw [h1, h2, if_neg hb]
    cases mn <;> rfl
theorem pj1 (k : Nat) (W Pt S1 : List UInt8) (mn pt : Bool) (s : Nat) (hs : s < 7) (hp0 : pt = false → Pt = []) (h1 : bad1 W S1 mn = false) :
    chapmanref02_ParseIn.j1 (k + 30) (bad2 Pt pt s) mn pt ⟨W.toArray⟩ ⟨Pt.toArray⟩ = some (if bad2 Pt pt s = true then (0, 5) else if 1000000000000000 < valB (W ++ Pt ++ Lib.repeatL [48] (6 - Pt.length)) then (0, 2)
      else (if mn then -(valB (W ++ Pt ++ Lib.repeatL [48] (6 - Pt.length)) : Int) else (valB (W ++ Pt ++ Lib.repeatL [48] (6 - Pt.length)) : Int), 0)) := by
  rw [show k + 30 = (k + 29) + 1 by omega, chapmanref02_ParseIn.j1]
  cases h2 : bad2 Pt pt s with
  | true => rw [if_pos rfl, if_pos rfl]
  | false =>
    rw [if_neg Bool.false_ne_true, if_neg Bool.false_ne_true, size_arr]
    have hnW : numB W = true := by
      unfold bad1 at h1
      simp only [Bool.or_eq_false_iff, Bool.not_eq_false'] at h1
      exact h1.1.1
    obtain ⟨aW, neW⟩ := numB_all hnW
    have hPt : Pt.all isDig = true ∧ Pt.length ≤ 6 := by
      cases pt with
      | false => rw [hp0 rfl]; exact ⟨rfl, by decide⟩
      | true =>
        unfold bad2 at h2
        simp only [Bool.true_and, Bool.or_eq_false_iff, Bool.not_eq_false', decide_eq_false_iff_not] at h2
        exact ⟨(numB_all h2.1.1).1, by omega⟩
    obtain ⟨aP, lP⟩ := hPt
    have hval : valB (W ++ Pt ++ Lib.repeatL [48] (6 - Pt.length)) = valB (W ++ Pt) * 10 ^ (6 - Pt.length) := by
      rw [valB_append, repeat_rep, zeros_val, List.length_replicate, Nat.add_zero]
    rw [hval]
    by_cases hW : (W.length : Int) > 10
    · rw [if_pos hW]
      have hbig : 1000000000000000 < valB (W ++ Pt) * 10 ^ (6 - Pt.length) := by
        cases W with
        | nil => exact absurd rfl neW
        | cons c r =>
          simp only [List.length_cons] at hW
          have hc : c ≠ 48 := by
            intro hc
            subst hc
            unfold bad1 at h1
            have : ((48 :: r : List UInt8) == [48]) = false := by
              rw [beq_eq_false_iff_ne]
              intro h
              have := congrArg List.length h
              simp at this
              rw [this] at hW
              simp at hW
            rw [this] at h1
            simp at h1
          simp only [List.all_cons, Bool.and_eq_true] at aW
          have hg := valB_ge (r := r) aW.1 hc
          have hp : 10 ^ 10 ≤ 10 ^ r.length := Nat.pow_le_pow_right (by decide) (by omega)
          rw [valB_append]
          have e6 : 10 ^ Pt.length * 10 ^ (6 - Pt.length) = 10 ^ 6 := by rw [← Nat.pow_add, Nat.add_sub_cancel' lP]
          have h3 : 10 ^ 10 * 10 ^ 6 ≤ valB (c :: r) * (10 ^ Pt.length * 10 ^ (6 - Pt.length)) := by
            rw [e6]
            exact Nat.mul_le_mul_right _ (Nat.le_trans hp hg)
          rw [Nat.add_mul, Nat.mul_assoc]
          have h4 : (10 : Nat) ^ 10 * 10 ^ 6 = 10000000000000000 := by decide
          omega
      rw [if_pos hbig]
    · rw [if_neg hW, size_arr, if_pos (by omega)]
      have hsum : W.length + Pt.length ≤ 16 := by omega
      have hlt := valB_lt (W ++ Pt) (by rw [List.all_append, aW, aP]; rfl)
      have hv : valB (W ++ Pt) * 10 ^ (6 - Pt.length) ≤ 10 ^ 16 := by
        have h5 : valB (W ++ Pt) * 10 ^ (6 - Pt.length) ≤ 10 ^ (W ++ Pt).length * 10 ^ (6 - Pt.length) := Nat.mul_le_mul_right _ (Nat.le_of_lt hlt)
        rw [← Nat.pow_add, List.length_append] at h5
        exact Nat.le_trans h5 (Nat.pow_le_pow_right (by decide) (by omega))
      have hl := pval (W ++ Pt) W Pt mn pt (by rw [List.all_append, aW, aP]; rfl) (by rw [List.length_append]; exact hsum) (W.length + Pt.length) 0 (k + 29 - (W.length + Pt.length)) (by simp)
      have he := pend (k + 21 - (W.length + Pt.length)) (W ++ Pt) W Pt mn pt lP hv
      rw [show k + 29 - (W.length + Pt.length) + (W.length + Pt.length) = k + 29 by omega] at hl
      rw [show k + 21 - (W.length + Pt.length) + 8 = k + 29 - (W.length + Pt.length) by omega] at he
      rw [ba_append]
      exact hl.trans he
theorem rparse (k : Nat) (l : List UInt8) (s : Int) (hl : l.length ≤ 200) : chapmanref02_ParseIn.f (k + 600) ⟨l.toArray⟩ s = some (parseR l s) := by
  unfold chapmanref02_ParseIn.f parseR
  rw [rscaled, Option.bind_some]
  by_cases hs : 0 ≤ s ∧ s < 7
  · rw [decide_eq_true hs, if_pos rfl, if_pos hs, rsplit l _ (by omega) (by omega), Option.bind_some]
    dsimp only
    have hl1 := trimPrefix_len l [45]
    have hl2 := cut_len (Lib.trimPrefix l [45]) [46]
    have hm : ((⟨l.toArray⟩ : ByteArray).toList == [45, 48]) = (Lib.trimPrefix l [45] == [48] && Lib.hasPrefix l [45]) := by
      rw [Lib.toList_data]
      exact minus_zero l
    rw [hm]
    have hp0 := cut_none (Lib.trimPrefix l [45]) [46]
    generalize Lib.trimPrefix l [45] = S1 at *
    generalize Lib.hasPrefix l [45] = mn at *
    generalize hC : Lib.cut S1 [46] = C at *
    obtain ⟨W, Pt, pt⟩ := C
    dsimp only at hl2 hp0 ⊢
    rw [rnum W (by omega) _ (by omega), Option.bind_some]
    have hj : ∀ b : Bool, b = bad1 W S1 mn → chapmanref02_ParseIn.j0 (k + 600) s b mn pt ⟨W.toArray⟩ ⟨Pt.toArray⟩ = some (parseTail W Pt S1 mn pt s.toNat) := by
      rintro b rfl
      have h0 := pj0 (k + 598 - Pt.length) W Pt mn pt (bad1 W S1 mn) s hs.1 (by omega)
      rw [show k + 598 - Pt.length + Pt.length + 2 = k + 600 by omega] at h0
      rw [h0]
      unfold parseTail
      cases h1 : bad1 W S1 mn with
      | true => rw [if_pos rfl, if_pos rfl]
      | false =>
        rw [if_neg Bool.false_ne_true, if_neg Bool.false_ne_true]
        have h2 := pj1 (k + 569) W Pt S1 mn pt s.toNat (by omega) hp0 h1
        rw [show k + 598 - Pt.length + Pt.length + 1 = k + 569 + 30 by omega]
        exact h2
    cases hn : numB W with
    | false =>
      rw [if_neg Bool.false_ne_true]
      exact hj true (by simp [bad1, hn])
    | true =>
      have hne := (numB_all hn).2
      rw [if_pos rfl, size_arr]
      by_cases h1 : (W.length : Int) > 1
      · rw [if_pos h1, if_pos (by omega)]
        cases W with
        | nil => exact absurd rfl hne
        | cons c r =>
          have hb : bt ⟨(c :: r).toArray⟩ 0 = (c.toNat : Int) := bt_at (c :: r) 0 (by simp)
          have hr : ((c :: r) == [48]) = false := by
            rw [beq_eq_false_iff_ne]
            intro h
            have := congrArg List.length h
            simp at this
            rw [this] at h1
            simp at h1
          rw [hb]
          by_cases hc : (c.toNat : Int) = 48
          · rw [if_pos hc]
            have : c = 48 := UInt8.toNat_inj.mp (by show c.toNat = 48; omega)
            subst this
            exact hj true (by unfold bad1; rw [hn, hr]; simp)
          · rw [if_neg hc]
            have hf : (((c :: r).head? == some 48)) = false := by
              rw [byte_head, beq_eq_false_iff_ne]
              omega
            exact hj _ (by unfold bad1; rw [hn, hf]; simp)
      · rw [if_neg h1]
        refine hj _ ?_
        unfold bad1
        have hz : (!(W == [48]) && (W.head? == some 48)) = false := by
          cases W with
          | nil => exact absurd rfl hne
          | cons c r =>
            cases r with
            | cons d r => simp at h1; omega
            | nil =>
              by_cases hc : c = 48
              · subst hc; rfl
              · have : (([c] : List UInt8).head? == some 48) = false := by simpa using hc
                rw [this, Bool.and_false]
        rw [hn, hz]
        simp
  · rw [decide_eq_false hs, if_neg Bool.false_ne_true, if_neg hs]
end Go.Proofs.YtckonpphagkfeaaGreatDoor.H
