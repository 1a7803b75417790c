/- decimal.Mul and decimal.Div: the fraction of two operands, rounded half to even. -/
import Derived.Test.YtckonpphagkfeaaGreatDoorHSizes
import Derived.Test.YtckonpphagkfeaaGreatDoorHDiv
namespace Go.Proofs.YtckonpphagkfeaaGreatDoor.H
open Go.RowKit Go.Proofs.YtckonpphagkfeaaGreatDoorW.PrintWords Go.Proofs.YtckonpphagkfeaaGreatDoorW.PrintLast Go.Proofs.YtckonpphagkfeaaGreatDoorW.PrintMore

attribute [local go_sem] max2_int min2_int max_two min_two max_three min_three max_four min_four

set_option maxHeartbeats 400000 in
theorem product_calls (a b : Int) (num den : Nat) (hnum : num = a.natAbs * b.natAbs) (hden : den = 1000000) (w : World) (ha0 : -1000000000000000 ≤ a) (ha1 : a ≤ 1000000000000000) (hb0 : -1000000000000000 ≤ b) (hb1 : b ≤ 1000000000000000) :
    Calls Tryz.prog 55 #[.agg #[.int .i64 a, .int .i64 b]] w fun e w' => e = .returned (.tuple #[.int .u64 ((num / 18446744073709551616 : Nat) : Int), .int .u64 ((num % 18446744073709551616 : Nat) : Int), .int .u64 (den : Int)]) ∧ Below w.heap.size w w' := by
  subst hnum hden
  go_enter Tryz.func55, Tryz.ntmps55
  go_wp2_with fail
  refine (sizes_calls a b _ ha0 ha1 hb0 hb1).mono ?_
  rintro e w1 ⟨rfl, hb⟩
  go_wp2_with fail
  refine (Tryz.bits_Mul64 a.natAbs b.natAbs (by omega) (by omega) _).mono ?_
  rintro e w2 ⟨rfl, rfl⟩
  go_wp2_with fail
  go_ret3
  exact ⟨rfl, below_then ((Below.refl _ _).alloc (Nat.le_refl _) _) (by simp) hb⟩

set_option maxHeartbeats 400000 in
theorem quotient_calls (a b : Int) (num den : Nat) (hnum : num = a.natAbs * 1000000) (hden : den = b.natAbs) (w : World) (ha0 : -1000000000000000 ≤ a) (ha1 : a ≤ 1000000000000000) (hb0 : -1000000000000000 ≤ b) (hb1 : b ≤ 1000000000000000) :
    Calls Tryz.prog 56 #[.agg #[.int .i64 a, .int .i64 b]] w fun e w' => e = .returned (.tuple #[.int .u64 ((num / 18446744073709551616 : Nat) : Int), .int .u64 ((num % 18446744073709551616 : Nat) : Int), .int .u64 (den : Int)]) ∧ Below w.heap.size w w' := by
  subst hnum hden
  go_enter Tryz.func56, Tryz.ntmps56
  go_wp2_with fail
  refine (sizes_calls a b _ ha0 ha1 hb0 hb1).mono ?_
  rintro e w1 ⟨rfl, hb⟩
  go_wp2_with fail
  refine (Tryz.bits_Mul64 a.natAbs 1000000 (by omega) (by omega) _).mono ?_
  rintro e w2 ⟨rfl, rfl⟩
  go_wp2_with fail
  go_ret3
  exact ⟨rfl, below_then ((Below.refl _ _).alloc (Nat.le_refl _) _) (by simp) hb⟩


/-- A fraction of two numbers from 0 on, rounded half to even, with a sign; 0 and 2 where it is too great. -/
def roundR (num den : Nat) (minus : Bool) : Int × Int :=
  if 1000000000000000 < num / den then (0, 2)
  else if num % den > den - num % den ∨ (num % den = den - num % den ∧ num / den % 2 = 1) then
    (if 1000000000000000 < num / den + 1 then (0, 2) else (if minus then -((num / den : Nat) + 1 : Int) else ((num / den : Nat) + 1 : Int), 0))
  else (if minus then -((num / den : Nat) : Int) else ((num / den : Nat) : Int), 0)

theorem valid_yes (n : Int) (w : World) (h0 : -1000000000000000 ≤ n) (h1 : n ≤ 1000000000000000) :
    Calls Tryz.prog 20 #[.int .i64 n] w fun e w' => e = .returned (.bool true) ∧ w = w' := by
  go_enter Tryz.func20, Tryz.ntmps20
  go_wp2
  go_ret
  exact ⟨rfl, rfl⟩
theorem valid_no (n : Int) (w : World) (h : n < -1000000000000000 ∨ 1000000000000000 < n) :
    Calls Tryz.prog 20 #[.int .i64 n] w fun e w' => e = .returned (.bool false) ∧ w = w' := by
  rcases h with h | h
  · go_enter Tryz.func20, Tryz.ntmps20
    go_wp2
    go_ret
    exact ⟨rfl, rfl⟩
  · have h2 : -1000000000000000 ≤ n := by omega
    have h3 : decide (n ≤ 1000000000000000) = false := decide_eq_false (by omega)
    go_enter Tryz.func20, Tryz.ntmps20
    go_wp2
    go_ret
    exact ⟨by simp, rfl⟩
theorem checked_yes (n : Int) (w : World) (h0 : -1000000000000000 ≤ n) (h1 : n ≤ 1000000000000000) :
    Calls Tryz.prog 53 #[.int .i64 n] w fun e w' => e = .returned (.tuple #[.int .i64 n, .int .i64 0]) ∧ w = w' := by
  go_enter Tryz.func53, Tryz.ntmps53
  go_wp2_with fail
  refine (valid_yes n _ h0 h1).mono ?_
  rintro e w1 ⟨rfl, rfl⟩
  go_wp2_with fail
  go_ret2
  exact ⟨rfl, rfl⟩
theorem checked_no (n : Int) (w : World) (h : n < -1000000000000000 ∨ 1000000000000000 < n) :
    Calls Tryz.prog 53 #[.int .i64 n] w fun e w' => e = .returned (.tuple #[.int .i64 0, .int .i64 2]) ∧ w = w' := by
  go_enter Tryz.func53, Tryz.ntmps53
  go_wp2_with fail
  refine (valid_no n _ h).mono ?_
  rintro e w1 ⟨rfl, rfl⟩
  go_wp2_with fail
  go_ret2
  exact ⟨rfl, rfl⟩


theorem roundR_big {num den : Nat} {minus : Bool} (h : 1000000000000000 < num / den) : roundR num den minus = (0, 2) := by
  unfold roundR; rw [if_pos h]
theorem roundR_up {num den : Nat} {minus : Bool} (h : num / den ≤ 1000000000000000) (hr : num % den > den - num % den ∨ (num % den = den - num % den ∧ num / den % 2 = 1)) :
    roundR num den minus = if 1000000000000000 < num / den + 1 then (0, 2) else (if minus then -((num / den : Nat) + 1 : Int) else ((num / den : Nat) + 1 : Int), 0) := by
  unfold roundR; rw [if_neg (by omega), if_pos hr]
theorem roundR_down {num den : Nat} {minus : Bool} (h : num / den ≤ 1000000000000000) (hr : ¬ (num % den > den - num % den ∨ (num % den = den - num % den ∧ num / den % 2 = 1))) :
    roundR num den minus = (if minus then -((num / den : Nat) : Int) else ((num / den : Nat) : Int), 0) := by
  unfold roundR; rw [if_neg (by omega), if_neg hr]

set_option maxHeartbeats 1000000 in
theorem round_product_calls (a b : Int) (num : Nat) (hnum : num = a.natAbs * b.natAbs) (w : World) (ha0 : -1000000000000000 ≤ a) (ha1 : a ≤ 1000000000000000) (hb0 : -1000000000000000 ≤ b) (hb1 : b ≤ 1000000000000000) :
    Calls Tryz.prog 54 #[.agg #[.int .i64 a, .int .i64 b], .func (.func 55) #[.agg #[.int .i64 a, .int .i64 b]] #[]] w fun e w' => e = .returned (.tuple #[.int .i64 (roundR num 1000000 (decide (a < 0) != decide (b < 0))).1, .int .i64 (roundR num 1000000 (decide (a < 0) != decide (b < 0))).2]) ∧ Below w.heap.size w w' := by
  have Hn := Lib.hid hnum
  clear hnum
  obtain ⟨den, hden⟩ : ∃ den : Nat, den = 1000000 := ⟨_, rfl⟩
  rw [← hden]
  have hd1 : 1 ≤ den := by omega
  have hd2 : den ≤ 1000000000000000 := by omega
  have Hd := Lib.hid hden
  clear hden
  have e0 := Nat.div_add_mod num 18446744073709551616
  have hm0 := Nat.mod_lt num (show 0 < 18446744073709551616 by decide)
  by_cases h1 : den ≤ num / 18446744073709551616
  · have hq : 1000000000000000 < num / den := by
      have : num / 18446744073709551616 * 18446744073709551616 ≤ num := Nat.div_mul_le_self _ _
      have h3 : 18446744073709551616 ≤ num / den := by
        rw [Nat.le_div_iff_mul_le (by omega)]
        have : 18446744073709551616 * den ≤ 18446744073709551616 * (num / 18446744073709551616) := Nat.mul_le_mul_left _ h1
        omega
      omega
    have hfin := roundR_big (minus := (decide (a < 0) != decide (b < 0))) hq
    rw [hfin]
    clear e0 hm0 hfin hq
    have h1' : decide (den ≤ num / 18446744073709551616) = true := decide_eq_true h1
    go_enter Tryz.func54, Tryz.ntmps54
    go_wp2_with fail
    refine (product_calls a b num den Hn.out Hd.out _ ha0 ha1 hb0 hb1).mono ?_
    rintro e w1 ⟨rfl, hb⟩
    go_wp2_with fail
    go_ret2
    exact ⟨rfl, below_then ((Below.refl _ _).alloc (Nat.le_refl _) _) (by simp) hb⟩
  · have h1' : decide (den ≤ num / 18446744073709551616) = false := decide_eq_false h1
    have hD : ∀ W, Calls Tryz.prog 75 #[.int .u64 ((num / 18446744073709551616 : Nat) : Int), .int .u64 ((num % 18446744073709551616 : Nat) : Int), .int .u64 (den : Int)] W fun e w' => e = .returned (.tuple #[.int .u64 ((num / den : Nat) : Int), .int .u64 ((num % den : Nat) : Int)]) ∧ Drawn0 W w' := fun W => by
      have h := div64_calls (num / 18446744073709551616) (num % 18446744073709551616) den (by omega) hm0 (by omega) W
      have e1 : num / 18446744073709551616 * 18446744073709551616 + num % 18446744073709551616 = num := by omega
      rw [e1] at h
      exact h
    have hq64 : num / den < 18446744073709551616 := by
      rw [Nat.div_lt_iff_lt_mul (by omega)]
      have : 18446744073709551616 * (num / 18446744073709551616 + 1) ≤ 18446744073709551616 * den := Nat.mul_le_mul_left _ (by omega)
      omega
    have hr : num % den < den := Nat.mod_lt _ (by omega)
    have HD := Lib.hid hD
    clear hD e0 hm0
    by_cases h2 : 1000000000000000 < num / den
    · rw [roundR_big h2]
      generalize num / den = q at *
      have h2' : decide ((q : Int) > 1000000000000000) = true := decide_eq_true (by omega)
      go_enter Tryz.func54, Tryz.ntmps54
      go_wp2_with fail
      refine (product_calls a b num den Hn.out Hd.out _ ha0 ha1 hb0 hb1).mono ?_
      rintro e w1 ⟨rfl, hb⟩
      go_wp2_with fail
      refine (HD.out _).mono ?_
      rintro e w2 ⟨rfl, ⟨nd, rfl⟩⟩
      go_wp2_with fail
      go_ret2
      exact ⟨rfl, pw_below_drewN (below_then ((Below.refl _ _).alloc (Nat.le_refl _) _) (by simp) hb) _⟩
    · have h2' : num / den ≤ 1000000000000000 := by omega
      have hup := roundR_up (minus := (decide (a < 0) != decide (b < 0))) h2'
      have hdn := roundR_down (minus := (decide (a < 0) != decide (b < 0))) h2'
      have hS := fun W => sizes_calls a b W ha0 ha1 hb0 hb1
      generalize hR : roundR num den (decide (a < 0) != decide (b < 0)) = R at *
      generalize (decide (a < 0) != decide (b < 0)) = mn at *
      generalize num / den = q at *
      generalize num % den = r at *
      have HS := Lib.hid hS
      clear hS hR h2 hq64
      by_cases hr' : r > den - r ∨ (r = den - r ∧ q % 2 = 1)
      · have hv := hup hr'
        clear hup hdn
        by_cases hM : 1000000000000000 < q + 1
        · rw [if_pos hM] at hv
          subst hv
          by_cases hA : r > den - r
          · clear hr'
            cases mn
            · go_enter Tryz.func54, Tryz.ntmps54
              go_wp2_with fail
              refine (product_calls a b num den Hn.out Hd.out _ ha0 ha1 hb0 hb1).mono ?_
              rintro e w1 ⟨rfl, hb⟩
              have hc0 : w1.cell? ⟨w.heap.size, 0, none⟩ = some (.int .i64 a) := by rw [hb.cell (p := ⟨w.heap.size, 0, none⟩) (by simp)]; go_simp
              have hc1 : w1.cell? ⟨w.heap.size, 1, none⟩ = some (.int .i64 b) := by rw [hb.cell (p := ⟨w.heap.size, 1, none⟩) (by simp)]; go_simp
              go_wp2_with fail
              refine (HD.out _).mono ?_
              rintro e w2 ⟨rfl, ⟨nd, rfl⟩⟩
              go_wp2_with fail
              refine (HS.out _).mono ?_
              rintro e w3 ⟨rfl, hb3⟩
              go_wp2_with fail
              refine (checked_no _ _ (by omega)).mono ?_
              rintro e w4 ⟨rfl, rfl⟩
              go_wp2_with fail
              go_ret2
              exact ⟨rfl, below_step (pw_below_drewN (below_then ((Below.refl _ _).alloc (Nat.le_refl _) _) (by simp) hb) _) hb3⟩
            · go_enter Tryz.func54, Tryz.ntmps54
              go_wp2_with fail
              refine (product_calls a b num den Hn.out Hd.out _ ha0 ha1 hb0 hb1).mono ?_
              rintro e w1 ⟨rfl, hb⟩
              have hc0 : w1.cell? ⟨w.heap.size, 0, none⟩ = some (.int .i64 a) := by rw [hb.cell (p := ⟨w.heap.size, 0, none⟩) (by simp)]; go_simp
              have hc1 : w1.cell? ⟨w.heap.size, 1, none⟩ = some (.int .i64 b) := by rw [hb.cell (p := ⟨w.heap.size, 1, none⟩) (by simp)]; go_simp
              go_wp2_with fail
              refine (HD.out _).mono ?_
              rintro e w2 ⟨rfl, ⟨nd, rfl⟩⟩
              go_wp2_with fail
              refine (HS.out _).mono ?_
              rintro e w3 ⟨rfl, hb3⟩
              go_wp2_with fail
              refine (checked_no _ _ (by omega)).mono ?_
              rintro e w4 ⟨rfl, rfl⟩
              go_wp2_with fail
              go_ret2
              exact ⟨rfl, below_step (pw_below_drewN (below_then ((Below.refl _ _).alloc (Nat.le_refl _) _) (by simp) hb) _) hb3⟩
          · exfalso
            omega
        · rw [if_neg hM] at hv
          subst hv
          by_cases hA : r > den - r
          · clear hr'
            cases mn
            · go_enter Tryz.func54, Tryz.ntmps54
              go_wp2_with fail
              refine (product_calls a b num den Hn.out Hd.out _ ha0 ha1 hb0 hb1).mono ?_
              rintro e w1 ⟨rfl, hb⟩
              have hc0 : w1.cell? ⟨w.heap.size, 0, none⟩ = some (.int .i64 a) := by rw [hb.cell (p := ⟨w.heap.size, 0, none⟩) (by simp)]; go_simp
              have hc1 : w1.cell? ⟨w.heap.size, 1, none⟩ = some (.int .i64 b) := by rw [hb.cell (p := ⟨w.heap.size, 1, none⟩) (by simp)]; go_simp
              go_wp2_with fail
              refine (HD.out _).mono ?_
              rintro e w2 ⟨rfl, ⟨nd, rfl⟩⟩
              go_wp2_with fail
              refine (HS.out _).mono ?_
              rintro e w3 ⟨rfl, hb3⟩
              go_wp2_with fail
              refine (checked_yes _ _ (by omega) (by omega)).mono ?_
              rintro e w4 ⟨rfl, rfl⟩
              go_wp2_with fail
              go_ret2
              exact ⟨rfl, below_step (pw_below_drewN (below_then ((Below.refl _ _).alloc (Nat.le_refl _) _) (by simp) hb) _) hb3⟩
            · go_enter Tryz.func54, Tryz.ntmps54
              go_wp2_with fail
              refine (product_calls a b num den Hn.out Hd.out _ ha0 ha1 hb0 hb1).mono ?_
              rintro e w1 ⟨rfl, hb⟩
              have hc0 : w1.cell? ⟨w.heap.size, 0, none⟩ = some (.int .i64 a) := by rw [hb.cell (p := ⟨w.heap.size, 0, none⟩) (by simp)]; go_simp
              have hc1 : w1.cell? ⟨w.heap.size, 1, none⟩ = some (.int .i64 b) := by rw [hb.cell (p := ⟨w.heap.size, 1, none⟩) (by simp)]; go_simp
              go_wp2_with fail
              refine (HD.out _).mono ?_
              rintro e w2 ⟨rfl, ⟨nd, rfl⟩⟩
              go_wp2_with fail
              refine (HS.out _).mono ?_
              rintro e w3 ⟨rfl, hb3⟩
              go_wp2_with fail
              refine (checked_yes _ _ (by omega) (by omega)).mono ?_
              rintro e w4 ⟨rfl, rfl⟩
              go_wp2_with fail
              go_ret2
              exact ⟨rfl, below_step (pw_below_drewN (below_then ((Below.refl _ _).alloc (Nat.le_refl _) _) (by simp) hb) _) hb3⟩
          · have hB1 : r + r ≤ den := by omega
            have hB2 : den ≤ r + r := by omega
            have hC : q % 2 = 1 := by omega
            have hE : ((r : Int) == (den : Int) - (r : Int)) = true := by rw [beq_iff_eq]; omega
            have hG : decide ((den : Int) - (r : Int) < (r : Int)) = false := decide_eq_false (by omega)
            have hK : (((q : Int) % 2) == 1) = true := by rw [beq_iff_eq]; omega
            clear hr' hB1 hB2 hA hC
            cases mn
            · go_enter Tryz.func54, Tryz.ntmps54
              go_wp2_with fail
              refine (product_calls a b num den Hn.out Hd.out _ ha0 ha1 hb0 hb1).mono ?_
              rintro e w1 ⟨rfl, hb⟩
              have hc0 : w1.cell? ⟨w.heap.size, 0, none⟩ = some (.int .i64 a) := by rw [hb.cell (p := ⟨w.heap.size, 0, none⟩) (by simp)]; go_simp
              have hc1 : w1.cell? ⟨w.heap.size, 1, none⟩ = some (.int .i64 b) := by rw [hb.cell (p := ⟨w.heap.size, 1, none⟩) (by simp)]; go_simp
              go_wp2_with fail
              refine (HD.out _).mono ?_
              rintro e w2 ⟨rfl, ⟨nd, rfl⟩⟩
              go_wp2_with fail
              refine (HS.out _).mono ?_
              rintro e w3 ⟨rfl, hb3⟩
              go_wp2_with fail
              refine (checked_yes _ _ (by omega) (by omega)).mono ?_
              rintro e w4 ⟨rfl, rfl⟩
              go_wp2_with fail
              go_ret2
              exact ⟨rfl, below_step (pw_below_drewN (below_then ((Below.refl _ _).alloc (Nat.le_refl _) _) (by simp) hb) _) hb3⟩
            · go_enter Tryz.func54, Tryz.ntmps54
              go_wp2_with fail
              refine (product_calls a b num den Hn.out Hd.out _ ha0 ha1 hb0 hb1).mono ?_
              rintro e w1 ⟨rfl, hb⟩
              have hc0 : w1.cell? ⟨w.heap.size, 0, none⟩ = some (.int .i64 a) := by rw [hb.cell (p := ⟨w.heap.size, 0, none⟩) (by simp)]; go_simp
              have hc1 : w1.cell? ⟨w.heap.size, 1, none⟩ = some (.int .i64 b) := by rw [hb.cell (p := ⟨w.heap.size, 1, none⟩) (by simp)]; go_simp
              go_wp2_with fail
              refine (HD.out _).mono ?_
              rintro e w2 ⟨rfl, ⟨nd, rfl⟩⟩
              go_wp2_with fail
              refine (HS.out _).mono ?_
              rintro e w3 ⟨rfl, hb3⟩
              go_wp2_with fail
              refine (checked_yes _ _ (by omega) (by omega)).mono ?_
              rintro e w4 ⟨rfl, rfl⟩
              go_wp2_with fail
              go_ret2
              exact ⟨rfl, below_step (pw_below_drewN (below_then ((Below.refl _ _).alloc (Nat.le_refl _) _) (by simp) hb) _) hb3⟩
      · have hv := hdn hr'
        clear hup hdn
        subst hv
        have hra : r ≤ den - r := by omega
        by_cases hA : r < den - r
        · clear hr'
          cases mn
          · go_enter Tryz.func54, Tryz.ntmps54
            go_wp2_with fail
            refine (product_calls a b num den Hn.out Hd.out _ ha0 ha1 hb0 hb1).mono ?_
            rintro e w1 ⟨rfl, hb⟩
            have hc0 : w1.cell? ⟨w.heap.size, 0, none⟩ = some (.int .i64 a) := by rw [hb.cell (p := ⟨w.heap.size, 0, none⟩) (by simp)]; go_simp
            have hc1 : w1.cell? ⟨w.heap.size, 1, none⟩ = some (.int .i64 b) := by rw [hb.cell (p := ⟨w.heap.size, 1, none⟩) (by simp)]; go_simp
            go_wp2_with fail
            refine (HD.out _).mono ?_
            rintro e w2 ⟨rfl, ⟨nd, rfl⟩⟩
            go_wp2_with fail
            refine (HS.out _).mono ?_
            rintro e w3 ⟨rfl, hb3⟩
            go_wp2_with fail
            refine (checked_yes _ _ (by omega) (by omega)).mono ?_
            rintro e w4 ⟨rfl, rfl⟩
            go_wp2_with fail
            go_ret2
            exact ⟨rfl, below_step (pw_below_drewN (below_then ((Below.refl _ _).alloc (Nat.le_refl _) _) (by simp) hb) _) hb3⟩
          · go_enter Tryz.func54, Tryz.ntmps54
            go_wp2_with fail
            refine (product_calls a b num den Hn.out Hd.out _ ha0 ha1 hb0 hb1).mono ?_
            rintro e w1 ⟨rfl, hb⟩
            have hc0 : w1.cell? ⟨w.heap.size, 0, none⟩ = some (.int .i64 a) := by rw [hb.cell (p := ⟨w.heap.size, 0, none⟩) (by simp)]; go_simp
            have hc1 : w1.cell? ⟨w.heap.size, 1, none⟩ = some (.int .i64 b) := by rw [hb.cell (p := ⟨w.heap.size, 1, none⟩) (by simp)]; go_simp
            go_wp2_with fail
            refine (HD.out _).mono ?_
            rintro e w2 ⟨rfl, ⟨nd, rfl⟩⟩
            go_wp2_with fail
            refine (HS.out _).mono ?_
            rintro e w3 ⟨rfl, hb3⟩
            go_wp2_with fail
            refine (checked_yes _ _ (by omega) (by omega)).mono ?_
            rintro e w4 ⟨rfl, rfl⟩
            go_wp2_with fail
            go_ret2
            exact ⟨rfl, below_step (pw_below_drewN (below_then ((Below.refl _ _).alloc (Nat.le_refl _) _) (by simp) hb) _) hb3⟩
        · have hB1 : r + r ≤ den := by omega
          have hB2 : den ≤ r + r := by omega
          have hC : q % 2 = 0 := by omega
          have hE : ((r : Int) == (den : Int) - (r : Int)) = true := by rw [beq_iff_eq]; omega
          have hG : decide ((den : Int) - (r : Int) < (r : Int)) = false := decide_eq_false (by omega)
          have hK : (((q : Int) % 2) == 1) = false := by rw [beq_eq_false_iff_ne]; omega
          clear hr' hB1 hB2 hA hC hra
          cases mn
          · go_enter Tryz.func54, Tryz.ntmps54
            go_wp2_with fail
            refine (product_calls a b num den Hn.out Hd.out _ ha0 ha1 hb0 hb1).mono ?_
            rintro e w1 ⟨rfl, hb⟩
            have hc0 : w1.cell? ⟨w.heap.size, 0, none⟩ = some (.int .i64 a) := by rw [hb.cell (p := ⟨w.heap.size, 0, none⟩) (by simp)]; go_simp
            have hc1 : w1.cell? ⟨w.heap.size, 1, none⟩ = some (.int .i64 b) := by rw [hb.cell (p := ⟨w.heap.size, 1, none⟩) (by simp)]; go_simp
            go_wp2_with fail
            refine (HD.out _).mono ?_
            rintro e w2 ⟨rfl, ⟨nd, rfl⟩⟩
            go_wp2_with fail
            refine (HS.out _).mono ?_
            rintro e w3 ⟨rfl, hb3⟩
            go_wp2_with fail
            refine (checked_yes _ _ (by omega) (by omega)).mono ?_
            rintro e w4 ⟨rfl, rfl⟩
            go_wp2_with fail
            go_ret2
            exact ⟨rfl, below_step (pw_below_drewN (below_then ((Below.refl _ _).alloc (Nat.le_refl _) _) (by simp) hb) _) hb3⟩
          · go_enter Tryz.func54, Tryz.ntmps54
            go_wp2_with fail
            refine (product_calls a b num den Hn.out Hd.out _ ha0 ha1 hb0 hb1).mono ?_
            rintro e w1 ⟨rfl, hb⟩
            have hc0 : w1.cell? ⟨w.heap.size, 0, none⟩ = some (.int .i64 a) := by rw [hb.cell (p := ⟨w.heap.size, 0, none⟩) (by simp)]; go_simp
            have hc1 : w1.cell? ⟨w.heap.size, 1, none⟩ = some (.int .i64 b) := by rw [hb.cell (p := ⟨w.heap.size, 1, none⟩) (by simp)]; go_simp
            go_wp2_with fail
            refine (HD.out _).mono ?_
            rintro e w2 ⟨rfl, ⟨nd, rfl⟩⟩
            go_wp2_with fail
            refine (HS.out _).mono ?_
            rintro e w3 ⟨rfl, hb3⟩
            go_wp2_with fail
            refine (checked_yes _ _ (by omega) (by omega)).mono ?_
            rintro e w4 ⟨rfl, rfl⟩
            go_wp2_with fail
            go_ret2
            exact ⟨rfl, below_step (pw_below_drewN (below_then ((Below.refl _ _).alloc (Nat.le_refl _) _) (by simp) hb) _) hb3⟩
end Go.Proofs.YtckonpphagkfeaaGreatDoor.H
