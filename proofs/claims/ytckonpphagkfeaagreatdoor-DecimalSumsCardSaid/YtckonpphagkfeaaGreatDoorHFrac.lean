/- decimal.Mul and decimal.Div as Lean functions, with the contracts of their calls. -/
import Derived.Test.YtckonpphagkfeaaGreatDoorHMul
import Derived.Test.YtckonpphagkfeaaGreatDoorHQuo
namespace Go.Proofs.YtckonpphagkfeaaGreatDoor.H
open Go.RowKit Go.Proofs.YtckonpphagkfeaaGreatDoorW.PrintWords Go.Proofs.YtckonpphagkfeaaGreatDoorW.PrintLast Go.Proofs.YtckonpphagkfeaaGreatDoorW.PrintMore

def okN (n : Int) : Bool := decide (-1000000000000000 ≤ n) && decide (n ≤ 1000000000000000)
theorem okN_yes {n : Int} (h : okN n = true) : -1000000000000000 ≤ n ∧ n ≤ 1000000000000000 := by
  simpa [okN] using h
theorem okN_no {n : Int} (h : okN n = false) : n < -1000000000000000 ∨ 1000000000000000 < n := by
  simp only [okN, Bool.and_eq_false_iff, decide_eq_false_iff_not] at h
  omega

def mulR (a b : Int) : Int × Int := if okN a && okN b then roundR (a.natAbs * b.natAbs) 1000000 (decide (a < 0) != decide (b < 0)) else (0, 2)
def divR (a b : Int) : Int × Int := if okN a && okN b then (if b = 0 then (0, 3) else roundR (a.natAbs * 1000000) b.natAbs (decide (a < 0) != decide (b < 0))) else (0, 2)
def decimal_Mul.f (a0 a1 : Int) : Option (Int × Int) := some (mulR a0 a1)
def decimal_Div.f (a0 a1 : Int) : Option (Int × Int) := some (divR a0 a1)

set_option maxHeartbeats 400000 in
theorem decimal_Mul.calls (a0 a1 r1 r2 : Int) (w : World) (h : decimal_Mul.f a0 a1 = some (r1, r2)) :
    Calls Tryz.prog 35 #[.int .i64 a0, .int .i64 a1] w fun e w' => e = .returned (.tuple #[.int .i64 r1, .int .i64 r2]) ∧ Below w.heap.size w w' := by
  have hr := Option.some.inj h
  obtain ⟨rfl, rfl⟩ : r1 = (mulR a0 a1).1 ∧ r2 = (mulR a0 a1).2 := by rw [hr]; exact ⟨rfl, rfl⟩
  clear h hr
  unfold mulR
  cases h0 : okN a0
  · have H0 := okN_no h0
    clear h0
    go_enter Tryz.func35, Tryz.ntmps35
    go_wp2_with fail
    refine (valid_no _ _ H0).mono ?_
    rintro e w1 ⟨rfl, rfl⟩
    go_wp2_with fail
    go_ret2
    exact ⟨rfl, Below.refl _ _⟩
  · obtain ⟨H0, H0'⟩ := okN_yes h0
    cases h1 : okN a1
    · have H1 := okN_no h1
      clear h0 h1
      go_enter Tryz.func35, Tryz.ntmps35
      go_wp2_with fail
      refine (valid_yes _ _ H0 H0').mono ?_
      rintro e w1 ⟨rfl, rfl⟩
      go_wp2_with fail
      refine (valid_no _ _ H1).mono ?_
      rintro e w1 ⟨rfl, rfl⟩
      go_wp2_with fail
      go_ret2
      exact ⟨rfl, Below.refl _ _⟩
    · obtain ⟨H1, H1'⟩ := okN_yes h1
      clear h0 h1
      rw [Bool.and_self, if_pos rfl]
      have hR := fun W => round_product_calls a0 a1 _ rfl W H0 H0' H1 H1'
      generalize roundR (a0.natAbs * a1.natAbs) 1000000 (decide (a0 < 0) != decide (a1 < 0)) = R at *
      have HR := Lib.hid hR
      clear hR
      go_enter Tryz.func35, Tryz.ntmps35
      go_wp2_with fail
      refine (valid_yes _ _ H0 H0').mono ?_
      rintro e w1 ⟨rfl, rfl⟩
      go_wp2_with fail
      refine (valid_yes _ _ H1 H1').mono ?_
      rintro e w1 ⟨rfl, rfl⟩
      go_wp2_with fail
      refine (HR.out _).mono ?_
      rintro e w1 ⟨rfl, hb⟩
      go_wp2_with fail
      go_ret2
      exact ⟨rfl, below_then (by repeat (first | exact Below.refl _ _ | apply below_alloc | apply pw_below_drewN | apply below_drew1 | exact below_set ((Below.refl _ _).alloc (Nat.le_refl _) _) (Nat.le_refl _))) (by simp) hb⟩

set_option maxHeartbeats 400000 in
theorem decimal_Div.calls (a0 a1 r1 r2 : Int) (w : World) (h : decimal_Div.f a0 a1 = some (r1, r2)) :
    Calls Tryz.prog 39 #[.int .i64 a0, .int .i64 a1] w fun e w' => e = .returned (.tuple #[.int .i64 r1, .int .i64 r2]) ∧ Below w.heap.size w w' := by
  have hr := Option.some.inj h
  obtain ⟨rfl, rfl⟩ : r1 = (divR a0 a1).1 ∧ r2 = (divR a0 a1).2 := by rw [hr]; exact ⟨rfl, rfl⟩
  clear h hr
  unfold divR
  cases h0 : okN a0
  · have H0 := okN_no h0
    clear h0
    go_enter Tryz.func39, Tryz.ntmps39
    go_wp2_with fail
    refine (valid_no _ _ H0).mono ?_
    rintro e w1 ⟨rfl, rfl⟩
    go_wp2_with fail
    go_ret2
    exact ⟨rfl, Below.refl _ _⟩
  · obtain ⟨H0, H0'⟩ := okN_yes h0
    cases h1 : okN a1
    · have H1 := okN_no h1
      clear h0 h1
      go_enter Tryz.func39, Tryz.ntmps39
      go_wp2_with fail
      refine (valid_yes _ _ H0 H0').mono ?_
      rintro e w1 ⟨rfl, rfl⟩
      go_wp2_with fail
      refine (valid_no _ _ H1).mono ?_
      rintro e w1 ⟨rfl, rfl⟩
      go_wp2_with fail
      go_ret2
      exact ⟨rfl, Below.refl _ _⟩
    · obtain ⟨H1, H1'⟩ := okN_yes h1
      clear h0 h1
      rw [Bool.and_self, if_pos rfl]
      by_cases hz : a1 = 0
      · rw [if_pos hz]
        have hz' : (a1 == 0) = true := beq_iff_eq.2 hz
        clear hz
        go_enter Tryz.func39, Tryz.ntmps39
        go_wp2_with fail
        refine (valid_yes _ _ H0 H0').mono ?_
        rintro e w1 ⟨rfl, rfl⟩
        go_wp2_with fail
        refine (valid_yes _ _ H1 H1').mono ?_
        rintro e w1 ⟨rfl, rfl⟩
        go_wp2_with fail
        go_ret2
        exact ⟨rfl, Below.refl _ _⟩
      · rw [if_neg hz]
        have hR := fun W => round_quotient_calls a0 a1 _ rfl W H0 H0' H1 H1' hz
        generalize roundR (a0.natAbs * 1000000) a1.natAbs (decide (a0 < 0) != decide (a1 < 0)) = R at *
        have HR := Lib.hid hR
        have hz' : (a1 == 0) = false := beq_eq_false_iff_ne.2 hz
        clear hR hz
        go_enter Tryz.func39, Tryz.ntmps39
        go_wp2_with fail
        refine (valid_yes _ _ H0 H0').mono ?_
        rintro e w1 ⟨rfl, rfl⟩
        go_wp2_with fail
        refine (valid_yes _ _ H1 H1').mono ?_
        rintro e w1 ⟨rfl, rfl⟩
        go_wp2_with fail
        refine (HR.out _).mono ?_
        rintro e w1 ⟨rfl, hb⟩
        go_wp2_with fail
        go_ret2
        exact ⟨rfl, below_then (by repeat (first | exact Below.refl _ _ | apply below_alloc | apply pw_below_drewN | apply below_drew1 | exact below_set ((Below.refl _ _).alloc (Nat.le_refl _) _) (Nat.le_refl _))) (by simp) hb⟩
end Go.Proofs.YtckonpphagkfeaaGreatDoor.H
