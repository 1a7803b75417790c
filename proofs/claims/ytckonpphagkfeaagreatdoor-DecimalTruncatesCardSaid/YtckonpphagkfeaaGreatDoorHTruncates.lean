/- The walk of the law of truncations. -/
import Derived.Test.YtckonpphagkfeaaGreatDoorHExam
import Derived.Test.YtckonpphagkfeaaGreatDoorPTrunc
namespace Go.Proofs.YtckonpphagkfeaaGreatDoor.H
open Go.RowKit Go.Proofs.YtckonpphagkfeaaGreatDoor.Q Go.Proofs.YtckonpphagkfeaaGreatDoorW.PrintWords Go.Proofs.YtckonpphagkfeaaGreatDoorW.PrintLast Go.Proofs.YtckonpphagkfeaaGreatDoorW.PrintMore
set_option linter.unusedVariables false
set_option linter.unusedSimpArgs false
attribute [local go_sem] max2_int min2_int

theorem cell_new (w : World) (cs : Array Value) (t : TypeId) (j : Nat) : (w.alloc (.cells cs t)).cell? ⟨w.heap.size, j, none⟩ = cs[j]? := by
  have ha : (w.alloc (.cells cs t)).heap[w.heap.size]? = some (.cells cs t) := by
    show (w.heap.push _)[w.heap.size]? = _
    exact Array.getElem?_push_size
  simp only [World.cell?, ha]
  simp

set_option maxHeartbeats 4000000 in
set_option maxRecDepth 100000 in
theorem truncates_walk (a b u v : Int) (w : World) (hgl : Gl w) (ha0 : -9223372036854775808 ≤ a) (ha1 : a ≤ 9223372036854775807) (hb0 : -9223372036854775808 ≤ b) (hb1 : b ≤ 9223372036854775807)
    (hu0 : 0 ≤ u) (hu1 : u ≤ 255) (hv0 : 0 ≤ v) (hv1 : v ≤ 255) :
    Calls Tryz.prog 8 #[.int .i64 a, .int .i64 b, .agg #[.int .u8 u, .int .u8 v]] w fun e w' => e = .returned (.bool true) ∧ Below w.heap.size w w' := by
  have HB := Aside0.mk (Below.refl w.heap.size w)
  go_enter Tryz.func8, Tryz.ntmps8
  go_wp2_with fail
  refine (chapmanlaw02_examples.calls true _ (by exact hgl.below (by repeat (first | (with_reducible first | exact HB.out | apply below_alloc | apply pw_below_drewN | apply below_drew1) | exact HB.out))) rfl).mono ?_
  rintro e wx ⟨rfl, hb⟩
  have hc0 : wx.cell? ⟨w.heap.size, 0, none⟩ = some (.int .u8 u) := by
    rw [hb.cell (p := ⟨w.heap.size, 0, none⟩) (by simp [World.alloc_eq])]
    exact cell_new _ _ _ _
  have hc1 : wx.cell? ⟨w.heap.size, 1, none⟩ = some (.int .u8 v) := by
    rw [hb.cell (p := ⟨w.heap.size, 1, none⟩) (by simp [World.alloc_eq])]
    exact cell_new _ _ _ _
  replace HB := Aside0.mk (below_step (by repeat (first | (with_reducible first | exact HB.out | apply below_alloc | apply pw_below_drewN | apply below_drew1) | exact HB.out)) hb)
  clear hb
  have hz : ((7 : Int) == 0) = false := rfl
  obtain ⟨s, hs⟩ : ∃ s : Nat, Int.tmod u 7 = (s : Int) := ⟨(Int.tmod u 7).toNat, by have := Int.tmod_nonneg 7 hu0; omega⟩
  obtain ⟨t, ht⟩ : ∃ t : Nat, Int.tmod v 7 = (t : Int) := ⟨(Int.tmod v 7).toNat, by have := Int.tmod_nonneg 7 hv0; omega⟩
  have hs7 : s < 7 := by have := Int.tmod_lt_of_pos u (show (0 : Int) < 7 by decide); omega
  have ht7 : t < 7 := by have := Int.tmod_lt_of_pos v (show (0 : Int) < 7 by decide); omega
  go_wp2_with fail
  go_quiet (fail)
  go_wp2_with fail
  go_loop [10, 11] (fun p q => ∃ i : Nat, q = .int .i64 (i : Int) ∧ s ≤ i ∧ i ≤ 6 ∧ p = .int .i64 ((10 ^ (i - s) : Nat) : Int)) (fun _ q => 6 - (intOf q).toNat)
  case atStart => exact ⟨s, by go_num, Nat.le_refl _, by omega, by rw [Nat.sub_self]; rfl⟩
  case round =>
    obtain ⟨i, rfl, h1, h2, rfl⟩ := hrel
    by_cases hi : i < 6
    · have hp : 10 ^ (i - s) ≤ 10 ^ 6 := Nat.pow_le_pow_right (by decide) (by omega)
      have hq : 10 ^ (i + 1 - s) = 10 * 10 ^ (i - s) := by rw [show i + 1 - s = (i - s) + 1 by omega, Nat.pow_succ, Nat.mul_comm]
      generalize 10 ^ (i - s) = P at *
      go_wp2_with fail
      go_round
      case rel => exact ⟨i + 1, by go_num, by omega, by omega, by rw [hq]; go_num⟩
      case measure => simp [intOf]; omega
    · obtain rfl : i = 6 := by omega
      have hst := stepOf_nat s hs7
      have hS := step_bounds s hs7
      rw [← hst]
      clear hst
      go_wp2_with fail
      have hX1 := trunc_f a s hs7 ha0 ha1
      have hY1 := trunc_f b s hs7 hb0 hb1
      have hXa := trunc_pos a s hs7
      have hXb := trunc_min a s hs7
      have hXm := trunc_mod a s
      have hXs := trunc_same a s
      have hmono := trunc_mono b a s hs7
      have hmono2 := trunc_mono a b s hs7
      have hF1 : decimal_Fits.f (truncR a s) (s : Int) = some true := by rw [fits_f' _ _ hs7, hXm]; rfl
      have hF2 : decimal_Fits.f a (s : Int) = some (truncR a s == a) := by rw [fits_f' _ _ hs7, hXs]
      have hb2 : -9223372036854775808 ≤ truncR a s ∧ truncR a s ≤ 9223372036854775807 := by
        by_cases h : 0 ≤ a
        · have := hXa h; omega
        · have := hXb (by omega); omega
      have hT1 : decimal_Trunc.f (truncR a s) (t : Int) = some (truncR a (min s t)) := by rw [trunc_f _ t ht7 hb2.1 hb2.2, trunc_twice a s t hs7 ht7]
      have hT2 : decimal_Trunc.f a (min (s : Int) (t : Int)) = some (truncR a (min s t)) := by
        rw [show min (s : Int) (t : Int) = ((min s t : Nat) : Int) by omega]
        exact trunc_f a _ (by omega) ha0 ha1
      have hZ : (stepOf (s : Int) == 0) = false := beq_eq_false_iff_ne.2 (by omega)
      clear hXs
      generalize truncR a s = X at *
      generalize truncR b s = Y at *
      generalize truncR a (min s t) = Z at *
      generalize stepOf (s : Int) = S at *
      have HX1 := Aside0.mk hX1
      have HY1 := Aside0.mk hY1
      have HF1 := Aside0.mk hF1
      have HF2 := Aside0.mk hF2
      have HT1 := Aside0.mk hT1
      have HT2 := Aside0.mk hT2
      clear hX1 hY1 hF1 hF2 hT1 hT2
      refine (decimal_Trunc.calls a (s : Int) X _ (by first | exact hgl.below (by repeat (first | (with_reducible first | exact HB.out | apply below_alloc | apply pw_below_drewN | apply below_drew1) | exact HB.out))) HX1.out).mono ?_
      rintro e wy ⟨rfl, ⟨nd, rfl⟩⟩
      go_wp2_with fail
      refine (decimal_Trunc.calls b (s : Int) Y _ (by first | exact hgl.below (by repeat (first | (with_reducible first | exact HB.out | apply below_alloc | apply pw_below_drewN | apply below_drew1) | exact HB.out))) HY1.out).mono ?_
      rintro e wy ⟨rfl, ⟨nd, rfl⟩⟩
      go_wp2_with fail
      refine (decimal_Fits.calls X (s : Int) true _ (by first | exact hgl.below (by repeat (first | (with_reducible first | exact HB.out | apply below_alloc | apply pw_below_drewN | apply below_drew1) | exact HB.out))) HF1.out).mono ?_
      rintro e wy ⟨rfl, ⟨nd, rfl⟩⟩
      by_cases ha : 0 ≤ a
      · obtain ⟨x0, x1, x2⟩ := hXa ha
        have hw1 : IntKind.i64.wrap (a - X) = a - X := by rw [i64_w]; exact wrap64_id _ (by omega)
        clear hXa hXb
        go_wp2_with fail
        refine (decimal_Fits.calls a (s : Int) (X == a) _ (by first | exact hgl.below (by repeat (first | (with_reducible first | exact HB.out | apply below_alloc | apply pw_below_drewN | apply below_drew1) | exact HB.out))) HF2.out).mono ?_
        rintro e wy ⟨rfl, ⟨nd, rfl⟩⟩
        cases hE : (X == a)
        all_goals
          by_cases hab : a > b
        all_goals
          first | have hXY : X ≤ Y := hmono2 (by omega) | skip
        all_goals
          clear hmono hmono2
          go_wp2_with fail
          refine (decimal_Trunc.calls X (t : Int) Z _ (by first | exact hgl.below (by repeat (first | (with_reducible first | exact HB.out | apply below_alloc | apply pw_below_drewN | apply below_drew1) | exact HB.out))) HT1.out).mono ?_
          rintro e wy ⟨rfl, ⟨nd, rfl⟩⟩
          go_wp2_with fail
          refine (decimal_Trunc.calls a (min (s : Int) (t : Int)) Z _ (by first | exact hgl.below (by repeat (first | (with_reducible first | exact HB.out | apply below_alloc | apply pw_below_drewN | apply below_drew1) | exact HB.out))) HT2.out).mono ?_
          rintro e wy ⟨rfl, ⟨nd, rfl⟩⟩
          go_wp2_with fail
          go_ret
          exact ⟨rfl, (by repeat (first | (with_reducible first | exact HB.out | apply below_alloc | apply pw_below_drewN | apply below_drew1) | exact HB.out))⟩
      · obtain ⟨x0, x1, x2⟩ := hXb (by omega)
        have hw1 : IntKind.i64.wrap (X - a) = X - a := by rw [i64_w]; exact wrap64_id _ (by omega)
        clear hXa hXb
        go_wp2_with fail
        refine (decimal_Fits.calls a (s : Int) (X == a) _ (by first | exact hgl.below (by repeat (first | (with_reducible first | exact HB.out | apply below_alloc | apply pw_below_drewN | apply below_drew1) | exact HB.out))) HF2.out).mono ?_
        rintro e wy ⟨rfl, ⟨nd, rfl⟩⟩
        cases hE : (X == a)
        all_goals
          by_cases hab : a > b
        all_goals
          first | have hXY : X ≤ Y := hmono2 (by omega) | skip
        all_goals
          clear hmono hmono2
          go_wp2_with fail
          refine (decimal_Trunc.calls X (t : Int) Z _ (by first | exact hgl.below (by repeat (first | (with_reducible first | exact HB.out | apply below_alloc | apply pw_below_drewN | apply below_drew1) | exact HB.out))) HT1.out).mono ?_
          rintro e wy ⟨rfl, ⟨nd, rfl⟩⟩
          go_wp2_with fail
          refine (decimal_Trunc.calls a (min (s : Int) (t : Int)) Z _ (by first | exact hgl.below (by repeat (first | (with_reducible first | exact HB.out | apply below_alloc | apply pw_below_drewN | apply below_drew1) | exact HB.out))) HT2.out).mono ?_
          rintro e wy ⟨rfl, ⟨nd, rfl⟩⟩
          go_wp2_with fail
          go_ret
          exact ⟨rfl, (by repeat (first | (with_reducible first | exact HB.out | apply below_alloc | apply pw_below_drewN | apply below_drew1) | exact HB.out))⟩
theorem truncates_law (a b u v : Int) (w : World) (hgl : Gl w) (wa : (Lit.int .i64 a).wf = true) (wb : (Lit.int .i64 b).wf = true) (wu : (Lit.int .u8 u).wf = true) (wv : (Lit.int .u8 v).wf = true) :
    Calls Tryz.prog 8 #[.int .i64 a, .int .i64 b, .agg #[.int .u8 u, .int .u8 v]] w fun e w' => e = .returned (.bool true) ∧ Below w.heap.size w w' := by
  have ha : -9223372036854775808 ≤ a ∧ a ≤ 9223372036854775807 := by simpa [Lit.wf, IntKind.min, IntKind.max, IntKind.signed, IntKind.bits] using wa
  have hb : -9223372036854775808 ≤ b ∧ b ≤ 9223372036854775807 := by simpa [Lit.wf, IntKind.min, IntKind.max, IntKind.signed, IntKind.bits] using wb
  have hu : 0 ≤ u ∧ u ≤ 255 := by simpa [Lit.wf, IntKind.min, IntKind.max, IntKind.signed, IntKind.bits] using wu
  have hv : 0 ≤ v ∧ v ≤ 255 := by simpa [Lit.wf, IntKind.min, IntKind.max, IntKind.signed, IntKind.bits] using wv
  exact truncates_walk a b u v w hgl ha.1 ha.2 hb.1 hb.2 hu.1 hu.2 hv.1 hv.2
end Go.Proofs.YtckonpphagkfeaaGreatDoor.H
