/- Printed by a program of this session (wip/pp.py): functions of the translation as Lean functions, each with the proof that the code comes to its answer. -/
import Derived.Test.YtckonpphagkfeaaGreatDoorRx0
import Derived.Test.YtckonpphagkfeaaGreatDoorRx1
namespace Go.Proofs.YtckonpphagkfeaaGreatDoor.R
open Go.RowKit Go.Proofs.YtckonpphagkfeaaGreatDoor.Q Go.Proofs.YtckonpphagkfeaaGreatDoor.H Go.Proofs.YtckonpphagkfeaaGreatDoorW.PrintWords Go.Proofs.YtckonpphagkfeaaGreatDoorW.PrintLast Go.Proofs.YtckonpphagkfeaaGreatDoorW.PrintMore
attribute [local go_sem] max2_int min2_int max_two min_two max_three min_three max_four min_four   -- for this text's walks alone
set_option linter.unusedVariables false
set_option linter.unusedSimpArgs false

attribute [local go_sem high] eqA30
/-! ### chapmanlaw02_DecimalQuotients: function 7 -/
mutual
def chapmanlaw02_DecimalQuotients.j0 : Nat → Int → Int → Bool → Int → Int → Bool → Int → Int → Option (Bool)
  | 0, _, _, _, _, _, _, _, _ => none
  | k + 1, x0, x1, x5, x6, x10, x78, x136000, x136001 => if x78 = true then (some false) else (if x136001 = 0 then (chapmanlaw02_DecimalQuotients.j1 k x0 x1 x5 false) else (if (!(x136000 == 0) || (!(x136001 == 2))) = true then (chapmanlaw02_DecimalQuotients.j1 k x0 x1 x5 true) else (if x10 = 0 then (none) else (chapmanlaw02_DecimalQuotients.j1 k x0 x1 x5 (decide ((wrap64 (Int.tdiv (mx x6 (wrap64 (-x6))) x10)) < 1000000000))))))
def chapmanlaw02_DecimalQuotients.j1 : Nat → Int → Int → Bool → Bool → Option (Bool)
  | 0, _, _, _, _ => none
  | k + 1, x0, x1, x5, x95 => if x95 = true then (some false) else ((chapmanlaw02_product.f (Int.tmod x0 3000000001) (Int.tmod x1 3000000001)).bind fun bt136 => (if (Int.tmod x1 3000000001) = 0 then (chapmanlaw02_DecimalQuotients.j2 k x1 x5 false) else (if (Int.tmod (wrap64 ((Int.tmod x0 3000000001) * (Int.tmod x1 3000000001))) 1000000) = 0 then (if bt136.2 = 0 then ((chapmanlaw02_quotient.f bt136.1 (Int.tmod x1 3000000001)).bind fun bt139 => (chapmanlaw02_DecimalQuotients.j2 k x1 x5 (!(bt139.1 == (Int.tmod x0 3000000001)) || (!(bt139.2 == 0))))) else (chapmanlaw02_DecimalQuotients.j2 k x1 x5 true)) else (chapmanlaw02_DecimalQuotients.j2 k x1 x5 false))))
def chapmanlaw02_DecimalQuotients.j2 : Nat → Int → Bool → Bool → Option (Bool)
  | 0, _, _, _ => none
  | k + 1, x1, x5, x125 => if x125 = true then (some false) else ((chapmanlaw02_quotient.f (Int.tmod x1 1000000000000001) 1000000).bind fun bt141 => (if (bt141.1 == (Int.tmod x1 1000000000000001) && (bt141.2 == 0)) = true then ((chapmanlaw02_quotient.f (Int.tmod x1 1000000000000001) (-1000000)).bind fun bt143 => (if (bt143.1 == (wrap64 (-(Int.tmod x1 1000000000000001))) && (bt143.2 == 0)) = true then (some x5) else (some false))) else (some false)))
end
def chapmanlaw02_DecimalQuotients.f (k : Nat) (a0 : Int) (a1 : Int) : Option (Bool) := (chapmanlaw02_examples.f).bind fun t132 => (if t132 = true then ((chapmanlaw02_quotient.f (Int.tmod a0 9000000000001) (Int.tmod a1 1000000000000001)).bind fun bt133 => (if (Int.tmod a1 1000000000000001) = 0 then (if (bt133.1 == 0 && (bt133.2 == 3)) = true then (some t132) else (some false)) else (if bt133.2 = 0 then (if (wrap64 (2 * (wrap64 ((wrap64 ((Int.tmod a0 9000000000001) * 1000000)) - (wrap64 (bt133.1 * (Int.tmod a1 1000000000000001))))))) > (mx (Int.tmod a1 1000000000000001) (wrap64 (-(Int.tmod a1 1000000000000001)))) then (chapmanlaw02_DecimalQuotients.j0 k a0 a1 t132 (Int.tmod a0 9000000000001) (mx (Int.tmod a1 1000000000000001) (wrap64 (-(Int.tmod a1 1000000000000001)))) true bt133.1 bt133.2) else (if (wrap64 (2 * (wrap64 ((wrap64 ((Int.tmod a0 9000000000001) * 1000000)) - (wrap64 (bt133.1 * (Int.tmod a1 1000000000000001))))))) < (wrap64 (-(mx (Int.tmod a1 1000000000000001) (wrap64 (-(Int.tmod a1 1000000000000001)))))) then (chapmanlaw02_DecimalQuotients.j0 k a0 a1 t132 (Int.tmod a0 9000000000001) (mx (Int.tmod a1 1000000000000001) (wrap64 (-(Int.tmod a1 1000000000000001)))) true bt133.1 bt133.2) else (if (wrap64 (2 * (wrap64 ((wrap64 ((Int.tmod a0 9000000000001) * 1000000)) - (wrap64 (bt133.1 * (Int.tmod a1 1000000000000001))))))) = (mx (Int.tmod a1 1000000000000001) (wrap64 (-(Int.tmod a1 1000000000000001)))) then (chapmanlaw02_DecimalQuotients.j0 k a0 a1 t132 (Int.tmod a0 9000000000001) (mx (Int.tmod a1 1000000000000001) (wrap64 (-(Int.tmod a1 1000000000000001)))) ((Int.tmod bt133.1 2) != 0) bt133.1 bt133.2) else (if (wrap64 (2 * (wrap64 ((wrap64 ((Int.tmod a0 9000000000001) * 1000000)) - (wrap64 (bt133.1 * (Int.tmod a1 1000000000000001))))))) = (wrap64 (-(mx (Int.tmod a1 1000000000000001) (wrap64 (-(Int.tmod a1 1000000000000001)))))) then (chapmanlaw02_DecimalQuotients.j0 k a0 a1 t132 (Int.tmod a0 9000000000001) (mx (Int.tmod a1 1000000000000001) (wrap64 (-(Int.tmod a1 1000000000000001)))) ((Int.tmod bt133.1 2) != 0) bt133.1 bt133.2) else (chapmanlaw02_DecimalQuotients.j0 k a0 a1 t132 (Int.tmod a0 9000000000001) (mx (Int.tmod a1 1000000000000001) (wrap64 (-(Int.tmod a1 1000000000000001)))) false bt133.1 bt133.2))))) else (chapmanlaw02_DecimalQuotients.j0 k a0 a1 t132 (Int.tmod a0 9000000000001) (mx (Int.tmod a1 1000000000000001) (wrap64 (-(Int.tmod a1 1000000000000001)))) false bt133.1 bt133.2)))) else (some false))
theorem chapmanlaw02_DecimalQuotients.mono_l : ∀ k, (∀ y0 y1 y2 y3 y4 y5 y6 y7, LeO (chapmanlaw02_DecimalQuotients.j0 k y0 y1 y2 y3 y4 y5 y6 y7) (chapmanlaw02_DecimalQuotients.j0 (k + 1) y0 y1 y2 y3 y4 y5 y6 y7)) ∧ (∀ y0 y1 y2 y3, LeO (chapmanlaw02_DecimalQuotients.j1 k y0 y1 y2 y3) (chapmanlaw02_DecimalQuotients.j1 (k + 1) y0 y1 y2 y3)) ∧ (∀ y0 y1 y2, LeO (chapmanlaw02_DecimalQuotients.j2 k y0 y1 y2) (chapmanlaw02_DecimalQuotients.j2 (k + 1) y0 y1 y2))
  | 0 => ⟨fun _ _ _ _ _ _ _ _ r h => by simp [chapmanlaw02_DecimalQuotients.j0] at h, fun _ _ _ _ r h => by simp [chapmanlaw02_DecimalQuotients.j1] at h, fun _ _ _ r h => by simp [chapmanlaw02_DecimalQuotients.j2] at h⟩
  | k + 1 => by
    obtain ⟨ih0, ih1, ih2⟩ := chapmanlaw02_DecimalQuotients.mono_l k
    refine ⟨?_, ?_, ?_⟩
    · intro y0 y1 y2 y3 y4 y5 y6 y7
      unfold chapmanlaw02_DecimalQuotients.j0
      repeat' first
      | (with_reducible exact ih0 _ _ _ _ _ _ _ _)
      | (with_reducible exact ih1 _ _ _ _)
      | (with_reducible exact ih2 _ _ _)
      | (with_reducible exact LeO.refl _)
      | (with_reducible exact LeO.none _)
      | (with_reducible refine LeO.ite ?_ ?_)
      | (with_reducible refine LeO.bind ?_ (fun _ => ?_))
      | exact ih0 _ _ _ _ _ _ _ _
      | exact ih1 _ _ _ _
      | exact ih2 _ _ _
      | exact LeO.none _
      | refine LeO.ite ?_ ?_
      | refine LeO.bind ?_ (fun _ => ?_)
    · intro y0 y1 y2 y3
      unfold chapmanlaw02_DecimalQuotients.j1
      repeat' first
      | (with_reducible exact ih0 _ _ _ _ _ _ _ _)
      | (with_reducible exact ih1 _ _ _ _)
      | (with_reducible exact ih2 _ _ _)
      | (with_reducible exact LeO.refl _)
      | (with_reducible exact LeO.none _)
      | (with_reducible refine LeO.ite ?_ ?_)
      | (with_reducible refine LeO.bind ?_ (fun _ => ?_))
      | exact ih0 _ _ _ _ _ _ _ _
      | exact ih1 _ _ _ _
      | exact ih2 _ _ _
      | exact LeO.none _
      | refine LeO.ite ?_ ?_
      | refine LeO.bind ?_ (fun _ => ?_)
    · intro y0 y1 y2
      unfold chapmanlaw02_DecimalQuotients.j2
      repeat' first
      | (with_reducible exact ih0 _ _ _ _ _ _ _ _)
      | (with_reducible exact ih1 _ _ _ _)
      | (with_reducible exact ih2 _ _ _)
      | (with_reducible exact LeO.refl _)
      | (with_reducible exact LeO.none _)
      | (with_reducible refine LeO.ite ?_ ?_)
      | (with_reducible refine LeO.bind ?_ (fun _ => ?_))
      | exact ih0 _ _ _ _ _ _ _ _
      | exact ih1 _ _ _ _
      | exact ih2 _ _ _
      | exact LeO.none _
      | refine LeO.ite ?_ ?_
      | refine LeO.bind ?_ (fun _ => ?_)
theorem chapmanlaw02_DecimalQuotients.mono : ∀ a0 a1 k, LeO (chapmanlaw02_DecimalQuotients.f k a0 a1) (chapmanlaw02_DecimalQuotients.f (k + 1) a0 a1) := by
  intro a0 a1 k
  obtain ⟨ih0, ih1, ih2⟩ := chapmanlaw02_DecimalQuotients.mono_l k
  unfold chapmanlaw02_DecimalQuotients.f
  repeat' first
      | (with_reducible exact ih0 _ _ _ _ _ _ _ _)
      | (with_reducible exact ih1 _ _ _ _)
      | (with_reducible exact ih2 _ _ _)
      | (with_reducible exact LeO.refl _)
      | (with_reducible exact LeO.none _)
      | (with_reducible refine LeO.ite ?_ ?_)
      | (with_reducible refine LeO.bind ?_ (fun _ => ?_))
      | exact ih0 _ _ _ _ _ _ _ _
      | exact ih1 _ _ _ _
      | exact ih2 _ _ _
      | exact LeO.none _
      | refine LeO.ite ?_ ?_
      | refine LeO.bind ?_ (fun _ => ?_)
set_option maxHeartbeats 8000000 in
set_option maxRecDepth 100000 in
theorem chapmanlaw02_DecimalQuotients.calls (k : Nat) (a0 : Int) (a1 : Int) (r : Bool) (w : World) (hgl : Gl w) (h : chapmanlaw02_DecimalQuotients.f k a0 a1 = some r) :
    Calls Tryz.prog 7 #[.int .i64 a0, .int .i64 a1] w fun e w' => e = .returned (.bool r) ∧ Below w.heap.size w w' := by
  have hu30 := Tryz.underlying30
  have HB := Aside0.mk (Below.refl w.heap.size w)
  have H : ((chapmanlaw02_examples.f).bind fun t132 => (if t132 = true then ((chapmanlaw02_quotient.f (Int.tmod a0 9000000000001) (Int.tmod a1 1000000000000001)).bind fun bt133 => (if (Int.tmod a1 1000000000000001) = 0 then (if (bt133.1 == 0 && (bt133.2 == 3)) = true then (some t132) else (some false)) else (if bt133.2 = 0 then (if (wrap64 (2 * (wrap64 ((wrap64 ((Int.tmod a0 9000000000001) * 1000000)) - (wrap64 (bt133.1 * (Int.tmod a1 1000000000000001))))))) > (mx (Int.tmod a1 1000000000000001) (wrap64 (-(Int.tmod a1 1000000000000001)))) then (chapmanlaw02_DecimalQuotients.j0 k a0 a1 t132 (Int.tmod a0 9000000000001) (mx (Int.tmod a1 1000000000000001) (wrap64 (-(Int.tmod a1 1000000000000001)))) true bt133.1 bt133.2) else (if (wrap64 (2 * (wrap64 ((wrap64 ((Int.tmod a0 9000000000001) * 1000000)) - (wrap64 (bt133.1 * (Int.tmod a1 1000000000000001))))))) < (wrap64 (-(mx (Int.tmod a1 1000000000000001) (wrap64 (-(Int.tmod a1 1000000000000001)))))) then (chapmanlaw02_DecimalQuotients.j0 k a0 a1 t132 (Int.tmod a0 9000000000001) (mx (Int.tmod a1 1000000000000001) (wrap64 (-(Int.tmod a1 1000000000000001)))) true bt133.1 bt133.2) else (if (wrap64 (2 * (wrap64 ((wrap64 ((Int.tmod a0 9000000000001) * 1000000)) - (wrap64 (bt133.1 * (Int.tmod a1 1000000000000001))))))) = (mx (Int.tmod a1 1000000000000001) (wrap64 (-(Int.tmod a1 1000000000000001)))) then (chapmanlaw02_DecimalQuotients.j0 k a0 a1 t132 (Int.tmod a0 9000000000001) (mx (Int.tmod a1 1000000000000001) (wrap64 (-(Int.tmod a1 1000000000000001)))) ((Int.tmod bt133.1 2) != 0) bt133.1 bt133.2) else (if (wrap64 (2 * (wrap64 ((wrap64 ((Int.tmod a0 9000000000001) * 1000000)) - (wrap64 (bt133.1 * (Int.tmod a1 1000000000000001))))))) = (wrap64 (-(mx (Int.tmod a1 1000000000000001) (wrap64 (-(Int.tmod a1 1000000000000001)))))) then (chapmanlaw02_DecimalQuotients.j0 k a0 a1 t132 (Int.tmod a0 9000000000001) (mx (Int.tmod a1 1000000000000001) (wrap64 (-(Int.tmod a1 1000000000000001)))) ((Int.tmod bt133.1 2) != 0) bt133.1 bt133.2) else (chapmanlaw02_DecimalQuotients.j0 k a0 a1 t132 (Int.tmod a0 9000000000001) (mx (Int.tmod a1 1000000000000001) (wrap64 (-(Int.tmod a1 1000000000000001)))) false bt133.1 bt133.2))))) else (chapmanlaw02_DecimalQuotients.j0 k a0 a1 t132 (Int.tmod a0 9000000000001) (mx (Int.tmod a1 1000000000000001) (wrap64 (-(Int.tmod a1 1000000000000001)))) false bt133.1 bt133.2)))) else (some false))) = some r := h
  clear h
  replace H := Option.bind_eq_some_iff.mp H
  obtain ⟨t132, A30, H⟩ := H
  replace H : (if t132 = true then ((chapmanlaw02_quotient.f (Int.tmod a0 9000000000001) (Int.tmod a1 1000000000000001)).bind fun bt133 => (if (Int.tmod a1 1000000000000001) = 0 then (if (bt133.1 == 0 && (bt133.2 == 3)) = true then (some t132) else (some false)) else (if bt133.2 = 0 then (if (wrap64 (2 * (wrap64 ((wrap64 ((Int.tmod a0 9000000000001) * 1000000)) - (wrap64 (bt133.1 * (Int.tmod a1 1000000000000001))))))) > (mx (Int.tmod a1 1000000000000001) (wrap64 (-(Int.tmod a1 1000000000000001)))) then (chapmanlaw02_DecimalQuotients.j0 k a0 a1 t132 (Int.tmod a0 9000000000001) (mx (Int.tmod a1 1000000000000001) (wrap64 (-(Int.tmod a1 1000000000000001)))) true bt133.1 bt133.2) else (if (wrap64 (2 * (wrap64 ((wrap64 ((Int.tmod a0 9000000000001) * 1000000)) - (wrap64 (bt133.1 * (Int.tmod a1 1000000000000001))))))) < (wrap64 (-(mx (Int.tmod a1 1000000000000001) (wrap64 (-(Int.tmod a1 1000000000000001)))))) then (chapmanlaw02_DecimalQuotients.j0 k a0 a1 t132 (Int.tmod a0 9000000000001) (mx (Int.tmod a1 1000000000000001) (wrap64 (-(Int.tmod a1 1000000000000001)))) true bt133.1 bt133.2) else (if (wrap64 (2 * (wrap64 ((wrap64 ((Int.tmod a0 9000000000001) * 1000000)) - (wrap64 (bt133.1 * (Int.tmod a1 1000000000000001))))))) = (mx (Int.tmod a1 1000000000000001) (wrap64 (-(Int.tmod a1 1000000000000001)))) then (chapmanlaw02_DecimalQuotients.j0 k a0 a1 t132 (Int.tmod a0 9000000000001) (mx (Int.tmod a1 1000000000000001) (wrap64 (-(Int.tmod a1 1000000000000001)))) ((Int.tmod bt133.1 2) != 0) bt133.1 bt133.2) else (if (wrap64 (2 * (wrap64 ((wrap64 ((Int.tmod a0 9000000000001) * 1000000)) - (wrap64 (bt133.1 * (Int.tmod a1 1000000000000001))))))) = (wrap64 (-(mx (Int.tmod a1 1000000000000001) (wrap64 (-(Int.tmod a1 1000000000000001)))))) then (chapmanlaw02_DecimalQuotients.j0 k a0 a1 t132 (Int.tmod a0 9000000000001) (mx (Int.tmod a1 1000000000000001) (wrap64 (-(Int.tmod a1 1000000000000001)))) ((Int.tmod bt133.1 2) != 0) bt133.1 bt133.2) else (chapmanlaw02_DecimalQuotients.j0 k a0 a1 t132 (Int.tmod a0 9000000000001) (mx (Int.tmod a1 1000000000000001) (wrap64 (-(Int.tmod a1 1000000000000001)))) false bt133.1 bt133.2))))) else (chapmanlaw02_DecimalQuotients.j0 k a0 a1 t132 (Int.tmod a0 9000000000001) (mx (Int.tmod a1 1000000000000001) (wrap64 (-(Int.tmod a1 1000000000000001)))) false bt133.1 bt133.2)))) else (some false)) = some r := H
  have A3 := Aside0.mk A30
  clear A30
  by_cases c4 : t132 = true
  · subst c4
    have H1 : ((chapmanlaw02_quotient.f (Int.tmod a0 9000000000001) (Int.tmod a1 1000000000000001)).bind fun bt133 => (if (Int.tmod a1 1000000000000001) = 0 then (if (bt133.1 == 0 && (bt133.2 == 3)) = true then (some true) else (some false)) else (if bt133.2 = 0 then (if (wrap64 (2 * (wrap64 ((wrap64 ((Int.tmod a0 9000000000001) * 1000000)) - (wrap64 (bt133.1 * (Int.tmod a1 1000000000000001))))))) > (mx (Int.tmod a1 1000000000000001) (wrap64 (-(Int.tmod a1 1000000000000001)))) then (chapmanlaw02_DecimalQuotients.j0 k a0 a1 true (Int.tmod a0 9000000000001) (mx (Int.tmod a1 1000000000000001) (wrap64 (-(Int.tmod a1 1000000000000001)))) true bt133.1 bt133.2) else (if (wrap64 (2 * (wrap64 ((wrap64 ((Int.tmod a0 9000000000001) * 1000000)) - (wrap64 (bt133.1 * (Int.tmod a1 1000000000000001))))))) < (wrap64 (-(mx (Int.tmod a1 1000000000000001) (wrap64 (-(Int.tmod a1 1000000000000001)))))) then (chapmanlaw02_DecimalQuotients.j0 k a0 a1 true (Int.tmod a0 9000000000001) (mx (Int.tmod a1 1000000000000001) (wrap64 (-(Int.tmod a1 1000000000000001)))) true bt133.1 bt133.2) else (if (wrap64 (2 * (wrap64 ((wrap64 ((Int.tmod a0 9000000000001) * 1000000)) - (wrap64 (bt133.1 * (Int.tmod a1 1000000000000001))))))) = (mx (Int.tmod a1 1000000000000001) (wrap64 (-(Int.tmod a1 1000000000000001)))) then (chapmanlaw02_DecimalQuotients.j0 k a0 a1 true (Int.tmod a0 9000000000001) (mx (Int.tmod a1 1000000000000001) (wrap64 (-(Int.tmod a1 1000000000000001)))) ((Int.tmod bt133.1 2) != 0) bt133.1 bt133.2) else (if (wrap64 (2 * (wrap64 ((wrap64 ((Int.tmod a0 9000000000001) * 1000000)) - (wrap64 (bt133.1 * (Int.tmod a1 1000000000000001))))))) = (wrap64 (-(mx (Int.tmod a1 1000000000000001) (wrap64 (-(Int.tmod a1 1000000000000001)))))) then (chapmanlaw02_DecimalQuotients.j0 k a0 a1 true (Int.tmod a0 9000000000001) (mx (Int.tmod a1 1000000000000001) (wrap64 (-(Int.tmod a1 1000000000000001)))) ((Int.tmod bt133.1 2) != 0) bt133.1 bt133.2) else (chapmanlaw02_DecimalQuotients.j0 k a0 a1 true (Int.tmod a0 9000000000001) (mx (Int.tmod a1 1000000000000001) (wrap64 (-(Int.tmod a1 1000000000000001)))) false bt133.1 bt133.2))))) else (chapmanlaw02_DecimalQuotients.j0 k a0 a1 true (Int.tmod a0 9000000000001) (mx (Int.tmod a1 1000000000000001) (wrap64 (-(Int.tmod a1 1000000000000001)))) false bt133.1 bt133.2)))) = some r := by rw [if_pos rfl] at H; exact H
    clear H
    have H := H1
    clear H1
    replace H := Option.bind_eq_some_iff.mp H
    obtain ⟨⟨t133, t134⟩, A50, H⟩ := H
    replace H : (if (Int.tmod a1 1000000000000001) = 0 then (if (t133 == 0 && (t134 == 3)) = true then (some true) else (some false)) else (if t134 = 0 then (if (wrap64 (2 * (wrap64 ((wrap64 ((Int.tmod a0 9000000000001) * 1000000)) - (wrap64 (t133 * (Int.tmod a1 1000000000000001))))))) > (mx (Int.tmod a1 1000000000000001) (wrap64 (-(Int.tmod a1 1000000000000001)))) then (chapmanlaw02_DecimalQuotients.j0 k a0 a1 true (Int.tmod a0 9000000000001) (mx (Int.tmod a1 1000000000000001) (wrap64 (-(Int.tmod a1 1000000000000001)))) true t133 t134) else (if (wrap64 (2 * (wrap64 ((wrap64 ((Int.tmod a0 9000000000001) * 1000000)) - (wrap64 (t133 * (Int.tmod a1 1000000000000001))))))) < (wrap64 (-(mx (Int.tmod a1 1000000000000001) (wrap64 (-(Int.tmod a1 1000000000000001)))))) then (chapmanlaw02_DecimalQuotients.j0 k a0 a1 true (Int.tmod a0 9000000000001) (mx (Int.tmod a1 1000000000000001) (wrap64 (-(Int.tmod a1 1000000000000001)))) true t133 t134) else (if (wrap64 (2 * (wrap64 ((wrap64 ((Int.tmod a0 9000000000001) * 1000000)) - (wrap64 (t133 * (Int.tmod a1 1000000000000001))))))) = (mx (Int.tmod a1 1000000000000001) (wrap64 (-(Int.tmod a1 1000000000000001)))) then (chapmanlaw02_DecimalQuotients.j0 k a0 a1 true (Int.tmod a0 9000000000001) (mx (Int.tmod a1 1000000000000001) (wrap64 (-(Int.tmod a1 1000000000000001)))) ((Int.tmod t133 2) != 0) t133 t134) else (if (wrap64 (2 * (wrap64 ((wrap64 ((Int.tmod a0 9000000000001) * 1000000)) - (wrap64 (t133 * (Int.tmod a1 1000000000000001))))))) = (wrap64 (-(mx (Int.tmod a1 1000000000000001) (wrap64 (-(Int.tmod a1 1000000000000001)))))) then (chapmanlaw02_DecimalQuotients.j0 k a0 a1 true (Int.tmod a0 9000000000001) (mx (Int.tmod a1 1000000000000001) (wrap64 (-(Int.tmod a1 1000000000000001)))) ((Int.tmod t133 2) != 0) t133 t134) else (chapmanlaw02_DecimalQuotients.j0 k a0 a1 true (Int.tmod a0 9000000000001) (mx (Int.tmod a1 1000000000000001) (wrap64 (-(Int.tmod a1 1000000000000001)))) false t133 t134))))) else (chapmanlaw02_DecimalQuotients.j0 k a0 a1 true (Int.tmod a0 9000000000001) (mx (Int.tmod a1 1000000000000001) (wrap64 (-(Int.tmod a1 1000000000000001)))) false t133 t134))) = some r := H
    have A5 := Aside0.mk A50
    clear A50
    by_cases c6 : (Int.tmod a1 1000000000000001) = 0
    · rw [if_pos c6] at H
      have c6b0 : ((Int.tmod a1 1000000000000001) == 0) = true := beq_iff_eq.mpr c6
      have c6b1 : ((Int.tmod a1 1000000000000001) != 0) = false := bne_eq_false_iff_eq.mpr c6
      clear c6
      by_cases c7 : (t133 == 0 && (t134 == 3)) = true
      · rw [if_pos c7] at H
        have c7b0 : (t133 == 0 && (t134 == 3)) = true := c7
        (try (have c7b1 : decide (t133 = 0 && (t134 == 3)) = true := by simpa using c7))
        (try (have c7b2 : (t133 == 0 && (t134 == 3)) = true := by simpa using c7))
        clear c7
        obtain rfl := Option.some.inj H
        go_enter Tryz.func7, Tryz.ntmps7
        go_wp2_with (first | ((with_reducible refine gate_callee (f := 9) rfl ?_); refine goesL_ (some 15) rfl rfl Tryz.func9 (by kernel_rfl) rfl #[] rfl (by (try simp only [List.map_toArray, List.map_cons, List.map_nil]); first | done | rfl | (simp only [List.length_drop, List.length_take]; rfl)) ?_; (with_reducible refine (chapmanlaw02_examples.calls  true _ ?side1 A3.out).mono ?_); (case side1 => first | exact hgl | exact hgl.drewN _ | exact hgl.below (by repeat (first | (with_reducible first | exact HB.out | apply below_alloc | apply pw_below_drewN | apply below_drew1) | exact HB.out)) | (repeat (first | exact hgl | apply Gl.drewN | apply Gl.drew))); rintro e w8 ⟨rfl, hb⟩; refine ⟨_, rfl, ?_⟩; have n0_ := Aside0.mk (below_step (by repeat (first | (with_reducible first | exact HB.out | apply below_alloc | apply pw_below_drewN | apply below_drew1) | exact HB.out)) hb); clear HB; have HB := n0_; clear n0_; (try clear hb); (try clear hb2); (try clear hk); (try clear hi)) | ((with_reducible refine gate_callee (f := 16) rfl ?_); refine goesL_ (some 24) rfl rfl Tryz.func16 (by kernel_rfl) rfl #[.int .i64 (Int.tmod a0 9000000000001), .int .i64 (Int.tmod a1 1000000000000001)] rfl (by (try simp only [List.map_toArray, List.map_cons, List.map_nil]); first | done | rfl | (simp only [List.length_drop, List.length_take]; rfl)) ?_; (with_reducible refine (chapmanlaw02_quotient.calls (Int.tmod a0 9000000000001) (Int.tmod a1 1000000000000001) t133 t134 _ A5.out).mono ?_); rintro e w9 ⟨rfl, hb⟩; refine ⟨_, rfl, ?_⟩; have n0_ := Aside0.mk (below_step (by repeat (first | (with_reducible first | exact HB.out | apply below_alloc | apply pw_below_drewN | apply below_drew1) | exact HB.out)) hb); clear HB; have HB := n0_; clear n0_; (try clear hb); (try clear hb2); (try clear hk); (try clear hi)) | ((with_reducible refine gate_dst (N := 8) rfl ?_); (try (refine gate_guard (by rfl) ?_; dsimp only)); refine box_event ?hg (N := 8) ?hd (cs := #[.int .i64 0, .int .i64 0]) (t := 30) ?hr ?_; (case hd => rfl); (case hg => rfl); (case hr => first | (go_simp; done) | (go_simp; rfl)); intro gb135 hg w10 hbox hb; have n0_ := Aside0.mk (below_step (by repeat (first | (with_reducible first | exact HB.out | apply below_alloc | apply pw_below_drewN | apply below_drew1) | exact HB.out)) hb); have n1_ := Aside0.mk (hbox); have n2_ := Aside0.mk ((by rw [hg]; exact (below_size (by repeat (first | (with_reducible first | exact HB.out | apply below_alloc | apply pw_below_drewN | apply below_drew1) | exact HB.out))) : w.heap.size ≤ gb135)); have n3_ := Aside0.mk ((by rw [hg]; exact (below_size (by repeat (first | (with_reducible first | exact HB.out | apply below_alloc | apply pw_below_drewN | apply below_drew1) | exact HB.out))) : w.heap.size ≤ gb135)); clear HB; have HB := n0_; have BK135 := n1_; have GW135 := n2_; have GE135 := n3_; clear n0_ n1_ n2_ n3_; clear hb hbox hg; have hcz11_0 : w10.cell? ⟨gb135, 0, none⟩ = some (.int .i64 0) := (blk_cell BK135.out 0).trans rfl; have hcz11_1 : w10.cell? ⟨gb135, 1, none⟩ = some (.int .i64 0) := (blk_cell BK135.out 1).trans rfl; have hfz11_0 := blk_frozen BK135.out 0; have hfz11_1 := blk_frozen BK135.out 1))
        go_ret
        exact ⟨by first | rfl | (simp [errW_none, errW_some] <;> rfl) | (simp [*, errW_none, errW_some] <;> rfl), by repeat (first | (with_reducible first | exact HB.out | apply below_alloc | apply pw_below_drewN | apply below_drew1 | refine below_set ?_ GE135.out) | exact HB.out)⟩
      · rw [if_neg c7] at H
        have c7b0 : (t133 == 0 && (t134 == 3)) = false := by simpa using c7
        (try (have c7b1 : decide (t133 = 0 && (t134 == 3)) = false := by simpa using c7))
        (try (have c7b2 : (t133 == 0 && (t134 == 3)) = false := by simpa using c7))
        (try (have c7b3 : ¬ (t133 = 0 && (t134 == 3)) := by simpa using c7))
        clear c7
        obtain rfl := Option.some.inj H
        go_enter Tryz.func7, Tryz.ntmps7
        go_wp2_with (first | ((with_reducible refine gate_callee (f := 9) rfl ?_); refine goesL_ (some 15) rfl rfl Tryz.func9 (by kernel_rfl) rfl #[] rfl (by (try simp only [List.map_toArray, List.map_cons, List.map_nil]); first | done | rfl | (simp only [List.length_drop, List.length_take]; rfl)) ?_; (with_reducible refine (chapmanlaw02_examples.calls  true _ ?side1 A3.out).mono ?_); (case side1 => first | exact hgl | exact hgl.drewN _ | exact hgl.below (by repeat (first | (with_reducible first | exact HB.out | apply below_alloc | apply pw_below_drewN | apply below_drew1) | exact HB.out)) | (repeat (first | exact hgl | apply Gl.drewN | apply Gl.drew))); rintro e w12 ⟨rfl, hb⟩; refine ⟨_, rfl, ?_⟩; have n0_ := Aside0.mk (below_step (by repeat (first | (with_reducible first | exact HB.out | apply below_alloc | apply pw_below_drewN | apply below_drew1) | exact HB.out)) hb); clear HB; have HB := n0_; clear n0_; (try clear hb); (try clear hb2); (try clear hk); (try clear hi)) | ((with_reducible refine gate_callee (f := 16) rfl ?_); refine goesL_ (some 24) rfl rfl Tryz.func16 (by kernel_rfl) rfl #[.int .i64 (Int.tmod a0 9000000000001), .int .i64 (Int.tmod a1 1000000000000001)] rfl (by (try simp only [List.map_toArray, List.map_cons, List.map_nil]); first | done | rfl | (simp only [List.length_drop, List.length_take]; rfl)) ?_; (with_reducible refine (chapmanlaw02_quotient.calls (Int.tmod a0 9000000000001) (Int.tmod a1 1000000000000001) t133 t134 _ A5.out).mono ?_); rintro e w13 ⟨rfl, hb⟩; refine ⟨_, rfl, ?_⟩; have n0_ := Aside0.mk (below_step (by repeat (first | (with_reducible first | exact HB.out | apply below_alloc | apply pw_below_drewN | apply below_drew1) | exact HB.out)) hb); clear HB; have HB := n0_; clear n0_; (try clear hb); (try clear hb2); (try clear hk); (try clear hi)) | ((with_reducible refine gate_dst (N := 8) rfl ?_); (try (refine gate_guard (by rfl) ?_; dsimp only)); refine box_event ?hg (N := 8) ?hd (cs := #[.int .i64 0, .int .i64 0]) (t := 30) ?hr ?_; (case hd => rfl); (case hg => rfl); (case hr => first | (go_simp; done) | (go_simp; rfl)); intro gb135 hg w14 hbox hb; have n0_ := Aside0.mk (below_step (by repeat (first | (with_reducible first | exact HB.out | apply below_alloc | apply pw_below_drewN | apply below_drew1) | exact HB.out)) hb); have n1_ := Aside0.mk (hbox); have n2_ := Aside0.mk ((by rw [hg]; exact (below_size (by repeat (first | (with_reducible first | exact HB.out | apply below_alloc | apply pw_below_drewN | apply below_drew1) | exact HB.out))) : w.heap.size ≤ gb135)); have n3_ := Aside0.mk ((by rw [hg]; exact (below_size (by repeat (first | (with_reducible first | exact HB.out | apply below_alloc | apply pw_below_drewN | apply below_drew1) | exact HB.out))) : w.heap.size ≤ gb135)); clear HB; have HB := n0_; have BK135 := n1_; have GW135 := n2_; have GE135 := n3_; clear n0_ n1_ n2_ n3_; clear hb hbox hg; have hcz15_0 : w14.cell? ⟨gb135, 0, none⟩ = some (.int .i64 0) := (blk_cell BK135.out 0).trans rfl; have hcz15_1 : w14.cell? ⟨gb135, 1, none⟩ = some (.int .i64 0) := (blk_cell BK135.out 1).trans rfl; have hfz15_0 := blk_frozen BK135.out 0; have hfz15_1 := blk_frozen BK135.out 1))
        go_ret
        exact ⟨by first | rfl | (simp [errW_none, errW_some] <;> rfl) | (simp [*, errW_none, errW_some] <;> rfl), by repeat (first | (with_reducible first | exact HB.out | apply below_alloc | apply pw_below_drewN | apply below_drew1 | refine below_set ?_ GE135.out) | exact HB.out)⟩
    · rw [if_neg c6] at H
      have c6b0 : ((Int.tmod a1 1000000000000001) == 0) = false := beq_eq_false_iff_ne.mpr c6
      have c6b1 : ((Int.tmod a1 1000000000000001) != 0) = true := bne_iff_ne.mpr c6
      obtain ⟨ji16, hji16⟩ : ∃ j_ : Int, (mx (Int.tmod a1 1000000000000001) (wrap64 (-(Int.tmod a1 1000000000000001)))) = j_ := ⟨_, rfl⟩
      replace H : (if t134 = 0 then (if (wrap64 (2 * (wrap64 ((wrap64 ((Int.tmod a0 9000000000001) * 1000000)) - (wrap64 (t133 * (Int.tmod a1 1000000000000001))))))) > (ji16) then (chapmanlaw02_DecimalQuotients.j0 k a0 a1 true (Int.tmod a0 9000000000001) ji16 true t133 t134) else (if (wrap64 (2 * (wrap64 ((wrap64 ((Int.tmod a0 9000000000001) * 1000000)) - (wrap64 (t133 * (Int.tmod a1 1000000000000001))))))) < (wrap64 (-(ji16))) then (chapmanlaw02_DecimalQuotients.j0 k a0 a1 true (Int.tmod a0 9000000000001) ji16 true t133 t134) else (if (wrap64 (2 * (wrap64 ((wrap64 ((Int.tmod a0 9000000000001) * 1000000)) - (wrap64 (t133 * (Int.tmod a1 1000000000000001))))))) = (ji16) then (chapmanlaw02_DecimalQuotients.j0 k a0 a1 true (Int.tmod a0 9000000000001) ji16 ((Int.tmod t133 2) != 0) t133 t134) else (if (wrap64 (2 * (wrap64 ((wrap64 ((Int.tmod a0 9000000000001) * 1000000)) - (wrap64 (t133 * (Int.tmod a1 1000000000000001))))))) = (wrap64 (-(ji16))) then (chapmanlaw02_DecimalQuotients.j0 k a0 a1 true (Int.tmod a0 9000000000001) ji16 ((Int.tmod t133 2) != 0) t133 t134) else (chapmanlaw02_DecimalQuotients.j0 k a0 a1 true (Int.tmod a0 9000000000001) ji16 false t133 t134))))) else (chapmanlaw02_DecimalQuotients.j0 k a0 a1 true (Int.tmod a0 9000000000001) ji16 false t133 t134)) = some r := by first | (rw [hji16] at H; exact H) | (simp only [hji16] at H ⊢; exact H)
      (try rw [hji16] at A3)
      (try rw [hji16] at A5)
      have hji16_ : (if (Int.tmod a1 1000000000000001) < (wrap64 (-(Int.tmod a1 1000000000000001))) then (wrap64 (-(Int.tmod a1 1000000000000001))) else (Int.tmod a1 1000000000000001)) = ji16 := hji16
      have HC17 := Aside0.mk H
      clear H
      go_enter Tryz.func7, Tryz.ntmps7
      go_upto_region 9 with (first | ((with_reducible refine gate_callee (f := 9) rfl ?_); refine goesL_ (some 15) rfl rfl Tryz.func9 (by kernel_rfl) rfl #[] rfl (by (try simp only [List.map_toArray, List.map_cons, List.map_nil]); first | done | rfl | (simp only [List.length_drop, List.length_take]; rfl)) ?_; (with_reducible refine (chapmanlaw02_examples.calls  true _ ?side1 A3.out).mono ?_); (case side1 => first | exact hgl | exact hgl.drewN _ | exact hgl.below (by repeat (first | (with_reducible first | exact HB.out | apply below_alloc | apply pw_below_drewN | apply below_drew1) | exact HB.out)) | (repeat (first | exact hgl | apply Gl.drewN | apply Gl.drew))); rintro e w18 ⟨rfl, hb⟩; refine ⟨_, rfl, ?_⟩; have n0_ := Aside0.mk (below_step (by repeat (first | (with_reducible first | exact HB.out | apply below_alloc | apply pw_below_drewN | apply below_drew1) | exact HB.out)) hb); clear HB; have HB := n0_; clear n0_; (try clear hb); (try clear hb2); (try clear hk); (try clear hi)) | ((with_reducible refine gate_callee (f := 16) rfl ?_); refine goesL_ (some 24) rfl rfl Tryz.func16 (by kernel_rfl) rfl #[.int .i64 (Int.tmod a0 9000000000001), .int .i64 (Int.tmod a1 1000000000000001)] rfl (by (try simp only [List.map_toArray, List.map_cons, List.map_nil]); first | done | rfl | (simp only [List.length_drop, List.length_take]; rfl)) ?_; (with_reducible refine (chapmanlaw02_quotient.calls (Int.tmod a0 9000000000001) (Int.tmod a1 1000000000000001) t133 t134 _ A5.out).mono ?_); rintro e w19 ⟨rfl, hb⟩; refine ⟨_, rfl, ?_⟩; have n0_ := Aside0.mk (below_step (by repeat (first | (with_reducible first | exact HB.out | apply below_alloc | apply pw_below_drewN | apply below_drew1) | exact HB.out)) hb); clear HB; have HB := n0_; clear n0_; (try clear hb); (try clear hb2); (try clear hk); (try clear hi)) | ((with_reducible refine gate_dst (N := 8) rfl ?_); (try (refine gate_guard (by rfl) ?_; dsimp only)); refine box_event ?hg (N := 8) ?hd (cs := #[.int .i64 0, .int .i64 0]) (t := 30) ?hr ?_; (case hd => rfl); (case hg => rfl); (case hr => first | (go_simp; done) | (go_simp; rfl)); intro gb135 hg w20 hbox hb; have n0_ := Aside0.mk (below_step (by repeat (first | (with_reducible first | exact HB.out | apply below_alloc | apply pw_below_drewN | apply below_drew1) | exact HB.out)) hb); have n1_ := Aside0.mk (hbox); have n2_ := Aside0.mk ((by rw [hg]; exact (below_size (by repeat (first | (with_reducible first | exact HB.out | apply below_alloc | apply pw_below_drewN | apply below_drew1) | exact HB.out))) : w.heap.size ≤ gb135)); have n3_ := Aside0.mk ((by rw [hg]; exact (below_size (by repeat (first | (with_reducible first | exact HB.out | apply below_alloc | apply pw_below_drewN | apply below_drew1) | exact HB.out))) : w.heap.size ≤ gb135)); clear HB; have HB := n0_; have BK135 := n1_; have GW135 := n2_; have GE135 := n3_; clear n0_ n1_ n2_ n3_; clear hb hbox hg; have hcz21_0 : w20.cell? ⟨gb135, 0, none⟩ = some (.int .i64 0) := (blk_cell BK135.out 0).trans rfl; have hcz21_1 : w20.cell? ⟨gb135, 1, none⟩ = some (.int .i64 0) := (blk_cell BK135.out 1).trans rfl; have hfz21_0 := blk_frozen BK135.out 0; have hfz21_1 := blk_frozen BK135.out 1))
      (try simp only [Act.put, List.setIfInBounds_toArray, List.set_cons_zero, List.set_cons_succ])
      go_cut [78] (fun v78 wc => ∃ (kq : Nat) (x78_16 : Bool), v78 = .bool x78_16 ∧ Aside0 (chapmanlaw02_DecimalQuotients.j0 kq a0 a1 true (Int.tmod a0 9000000000001) ji16 x78_16 t133 t134 = some r) ∧ Aside0 (kq ≤ k) ∧ Aside0 (wc.heap[gb135]? = some (.cells #[.int .i64 t133, .int .i64 t134] 30 (0, 0))) ∧ Aside0 (Below w.heap.size w wc))
      case first =>
        have H := HC17.out
        clear HC17
        by_cases c22 : t134 = 0
        · rw [if_pos c22] at H
          have c22b0 : (t134 == 0) = true := beq_iff_eq.mpr c22
          have c22b1 : (t134 != 0) = false := bne_eq_false_iff_eq.mpr c22
          clear c22
          (first | rw [c22b0] | (simp only [i64_w, i32_w]; rw [c22b0]) | skip)
          by_cases c23 : (wrap64 (2 * (wrap64 ((wrap64 ((Int.tmod a0 9000000000001) * 1000000)) - (wrap64 (t133 * (Int.tmod a1 1000000000000001))))))) > (ji16)
          · rw [if_pos c23] at H
            have c23b0 : decide ((ji16) < (wrap64 (2 * (wrap64 ((wrap64 ((Int.tmod a0 9000000000001) * 1000000)) - (wrap64 (t133 * (Int.tmod a1 1000000000000001)))))))) = true := decide_eq_true c23
            clear c23
            have H' := Aside0.mk H
            clear H
            have hcz24_0 : w20.cell? ⟨gb135, 0, none⟩ = some (.int .i64 0) := (blk_cell BK135.out 0).trans rfl
            have hcz24_1 : w20.cell? ⟨gb135, 1, none⟩ = some (.int .i64 0) := (blk_cell BK135.out 1).trans rfl
            have hfz24_0 := blk_frozen BK135.out 0
            have hfz24_1 := blk_frozen BK135.out 1
            go_wp2
            go_meet
            case rel => exact ⟨_, (true), (by first | rfl | (simp; done) | (simp [*]; done)), H', ⟨by first | omega | exact Nat.le_refl _⟩, ⟨by (with_reducible repeat (first | refine blk_drewN ?_ _ | refine blk_drew ?_ | refine blk_alloc ?_ _)); refine blk_put (cs := #[.int .i64 t133, .int .i64 0]) ?_ 1 _ rfl; (with_reducible repeat (first | refine blk_drewN ?_ _ | refine blk_drew ?_ | refine blk_alloc ?_ _)); refine blk_put (cs := #[.int .i64 0, .int .i64 0]) ?_ 0 _ rfl; (with_reducible repeat (first | refine blk_drewN ?_ _ | refine blk_drew ?_ | refine blk_alloc ?_ _)); exact BK135.out⟩, ⟨by repeat (first | (with_reducible first | exact HB.out | apply below_alloc | apply pw_below_drewN | apply below_drew1 | refine below_set ?_ GE135.out) | exact HB.out)⟩⟩
          · rw [if_neg c23] at H
            have c23b0 : decide ((ji16) < (wrap64 (2 * (wrap64 ((wrap64 ((Int.tmod a0 9000000000001) * 1000000)) - (wrap64 (t133 * (Int.tmod a1 1000000000000001)))))))) = false := decide_eq_false c23
            clear c23
            by_cases c25 : (wrap64 (2 * (wrap64 ((wrap64 ((Int.tmod a0 9000000000001) * 1000000)) - (wrap64 (t133 * (Int.tmod a1 1000000000000001))))))) < (wrap64 (-(ji16)))
            · rw [if_pos c25] at H
              have c25b0 : decide ((wrap64 (2 * (wrap64 ((wrap64 ((Int.tmod a0 9000000000001) * 1000000)) - (wrap64 (t133 * (Int.tmod a1 1000000000000001))))))) < (wrap64 (-(ji16)))) = true := decide_eq_true c25
              clear c25
              have H' := Aside0.mk H
              clear H
              have hcz26_0 : w20.cell? ⟨gb135, 0, none⟩ = some (.int .i64 0) := (blk_cell BK135.out 0).trans rfl
              have hcz26_1 : w20.cell? ⟨gb135, 1, none⟩ = some (.int .i64 0) := (blk_cell BK135.out 1).trans rfl
              have hfz26_0 := blk_frozen BK135.out 0
              have hfz26_1 := blk_frozen BK135.out 1
              go_wp2
              go_meet
              case rel => exact ⟨_, (true), (by first | rfl | (simp; done) | (simp [*]; done)), H', ⟨by first | omega | exact Nat.le_refl _⟩, ⟨by (with_reducible repeat (first | refine blk_drewN ?_ _ | refine blk_drew ?_ | refine blk_alloc ?_ _)); refine blk_put (cs := #[.int .i64 t133, .int .i64 0]) ?_ 1 _ rfl; (with_reducible repeat (first | refine blk_drewN ?_ _ | refine blk_drew ?_ | refine blk_alloc ?_ _)); refine blk_put (cs := #[.int .i64 0, .int .i64 0]) ?_ 0 _ rfl; (with_reducible repeat (first | refine blk_drewN ?_ _ | refine blk_drew ?_ | refine blk_alloc ?_ _)); exact BK135.out⟩, ⟨by repeat (first | (with_reducible first | exact HB.out | apply below_alloc | apply pw_below_drewN | apply below_drew1 | refine below_set ?_ GE135.out) | exact HB.out)⟩⟩
            · rw [if_neg c25] at H
              have c25b0 : decide ((wrap64 (2 * (wrap64 ((wrap64 ((Int.tmod a0 9000000000001) * 1000000)) - (wrap64 (t133 * (Int.tmod a1 1000000000000001))))))) < (wrap64 (-(ji16)))) = false := decide_eq_false c25
              clear c25
              by_cases c27 : (wrap64 (2 * (wrap64 ((wrap64 ((Int.tmod a0 9000000000001) * 1000000)) - (wrap64 (t133 * (Int.tmod a1 1000000000000001))))))) = (ji16)
              · rw [if_pos c27] at H
                have c27b0 : ((wrap64 (2 * (wrap64 ((wrap64 ((Int.tmod a0 9000000000001) * 1000000)) - (wrap64 (t133 * (Int.tmod a1 1000000000000001))))))) == (ji16)) = true := beq_iff_eq.mpr c27
                have c27b1 : ((wrap64 (2 * (wrap64 ((wrap64 ((Int.tmod a0 9000000000001) * 1000000)) - (wrap64 (t133 * (Int.tmod a1 1000000000000001))))))) != (ji16)) = false := bne_eq_false_iff_eq.mpr c27
                clear c27
                have H' := Aside0.mk H
                clear H
                have hcz28_0 : w20.cell? ⟨gb135, 0, none⟩ = some (.int .i64 0) := (blk_cell BK135.out 0).trans rfl
                have hcz28_1 : w20.cell? ⟨gb135, 1, none⟩ = some (.int .i64 0) := (blk_cell BK135.out 1).trans rfl
                have hfz28_0 := blk_frozen BK135.out 0
                have hfz28_1 := blk_frozen BK135.out 1
                go_wp2
                go_meet
                case rel => exact ⟨_, (((Int.tmod t133 2) != 0)), (by first | rfl | (simp; done) | (simp [*]; done)), H', ⟨by first | omega | exact Nat.le_refl _⟩, ⟨by (with_reducible repeat (first | refine blk_drewN ?_ _ | refine blk_drew ?_ | refine blk_alloc ?_ _)); refine blk_put (cs := #[.int .i64 t133, .int .i64 0]) ?_ 1 _ rfl; (with_reducible repeat (first | refine blk_drewN ?_ _ | refine blk_drew ?_ | refine blk_alloc ?_ _)); refine blk_put (cs := #[.int .i64 0, .int .i64 0]) ?_ 0 _ rfl; (with_reducible repeat (first | refine blk_drewN ?_ _ | refine blk_drew ?_ | refine blk_alloc ?_ _)); exact BK135.out⟩, ⟨by repeat (first | (with_reducible first | exact HB.out | apply below_alloc | apply pw_below_drewN | apply below_drew1 | refine below_set ?_ GE135.out) | exact HB.out)⟩⟩
              · rw [if_neg c27] at H
                have c27b0 : ((wrap64 (2 * (wrap64 ((wrap64 ((Int.tmod a0 9000000000001) * 1000000)) - (wrap64 (t133 * (Int.tmod a1 1000000000000001))))))) == (ji16)) = false := beq_eq_false_iff_ne.mpr c27
                have c27b1 : ((wrap64 (2 * (wrap64 ((wrap64 ((Int.tmod a0 9000000000001) * 1000000)) - (wrap64 (t133 * (Int.tmod a1 1000000000000001))))))) != (ji16)) = true := bne_iff_ne.mpr c27
                by_cases c29 : (wrap64 (2 * (wrap64 ((wrap64 ((Int.tmod a0 9000000000001) * 1000000)) - (wrap64 (t133 * (Int.tmod a1 1000000000000001))))))) = (wrap64 (-(ji16)))
                · rw [if_pos c29] at H
                  have c29b0 : ((wrap64 (2 * (wrap64 ((wrap64 ((Int.tmod a0 9000000000001) * 1000000)) - (wrap64 (t133 * (Int.tmod a1 1000000000000001))))))) == (wrap64 (-(ji16)))) = true := beq_iff_eq.mpr c29
                  have c29b1 : ((wrap64 (2 * (wrap64 ((wrap64 ((Int.tmod a0 9000000000001) * 1000000)) - (wrap64 (t133 * (Int.tmod a1 1000000000000001))))))) != (wrap64 (-(ji16)))) = false := bne_eq_false_iff_eq.mpr c29
                  clear c29
                  have H' := Aside0.mk H
                  clear H
                  have hcz30_0 : w20.cell? ⟨gb135, 0, none⟩ = some (.int .i64 0) := (blk_cell BK135.out 0).trans rfl
                  have hcz30_1 : w20.cell? ⟨gb135, 1, none⟩ = some (.int .i64 0) := (blk_cell BK135.out 1).trans rfl
                  have hfz30_0 := blk_frozen BK135.out 0
                  have hfz30_1 := blk_frozen BK135.out 1
                  go_wp2
                  go_meet
                  case rel => exact ⟨_, (((Int.tmod t133 2) != 0)), (by first | rfl | (simp; done) | (simp [*]; done)), H', ⟨by first | omega | exact Nat.le_refl _⟩, ⟨by (with_reducible repeat (first | refine blk_drewN ?_ _ | refine blk_drew ?_ | refine blk_alloc ?_ _)); refine blk_put (cs := #[.int .i64 t133, .int .i64 0]) ?_ 1 _ rfl; (with_reducible repeat (first | refine blk_drewN ?_ _ | refine blk_drew ?_ | refine blk_alloc ?_ _)); refine blk_put (cs := #[.int .i64 0, .int .i64 0]) ?_ 0 _ rfl; (with_reducible repeat (first | refine blk_drewN ?_ _ | refine blk_drew ?_ | refine blk_alloc ?_ _)); exact BK135.out⟩, ⟨by repeat (first | (with_reducible first | exact HB.out | apply below_alloc | apply pw_below_drewN | apply below_drew1 | refine below_set ?_ GE135.out) | exact HB.out)⟩⟩
                · rw [if_neg c29] at H
                  have c29b0 : ((wrap64 (2 * (wrap64 ((wrap64 ((Int.tmod a0 9000000000001) * 1000000)) - (wrap64 (t133 * (Int.tmod a1 1000000000000001))))))) == (wrap64 (-(ji16)))) = false := beq_eq_false_iff_ne.mpr c29
                  have c29b1 : ((wrap64 (2 * (wrap64 ((wrap64 ((Int.tmod a0 9000000000001) * 1000000)) - (wrap64 (t133 * (Int.tmod a1 1000000000000001))))))) != (wrap64 (-(ji16)))) = true := bne_iff_ne.mpr c29
                  have H' := Aside0.mk H
                  clear H
                  have hcz31_0 : w20.cell? ⟨gb135, 0, none⟩ = some (.int .i64 0) := (blk_cell BK135.out 0).trans rfl
                  have hcz31_1 : w20.cell? ⟨gb135, 1, none⟩ = some (.int .i64 0) := (blk_cell BK135.out 1).trans rfl
                  have hfz31_0 := blk_frozen BK135.out 0
                  have hfz31_1 := blk_frozen BK135.out 1
                  go_wp2
                  go_meet
                  case rel => exact ⟨_, (false), (by first | rfl | (simp; done) | (simp [*]; done)), H', ⟨by first | omega | exact Nat.le_refl _⟩, ⟨by (with_reducible repeat (first | refine blk_drewN ?_ _ | refine blk_drew ?_ | refine blk_alloc ?_ _)); refine blk_put (cs := #[.int .i64 t133, .int .i64 0]) ?_ 1 _ rfl; (with_reducible repeat (first | refine blk_drewN ?_ _ | refine blk_drew ?_ | refine blk_alloc ?_ _)); refine blk_put (cs := #[.int .i64 0, .int .i64 0]) ?_ 0 _ rfl; (with_reducible repeat (first | refine blk_drewN ?_ _ | refine blk_drew ?_ | refine blk_alloc ?_ _)); exact BK135.out⟩, ⟨by repeat (first | (with_reducible first | exact HB.out | apply below_alloc | apply pw_below_drewN | apply below_drew1 | refine below_set ?_ GE135.out) | exact HB.out)⟩⟩
        · rw [if_neg c22] at H
          have c22b0 : (t134 == 0) = false := beq_eq_false_iff_ne.mpr c22
          have c22b1 : (t134 != 0) = true := bne_iff_ne.mpr c22
          (first | rw [c22b0] | (simp only [i64_w, i32_w]; rw [c22b0]) | skip)
          have H' := Aside0.mk H
          clear H
          have hcz32_0 : w20.cell? ⟨gb135, 0, none⟩ = some (.int .i64 0) := (blk_cell BK135.out 0).trans rfl
          have hcz32_1 : w20.cell? ⟨gb135, 1, none⟩ = some (.int .i64 0) := (blk_cell BK135.out 1).trans rfl
          have hfz32_0 := blk_frozen BK135.out 0
          have hfz32_1 := blk_frozen BK135.out 1
          go_wp2
          go_meet
          case rel => exact ⟨_, (false), (by first | rfl | (simp; done) | (simp [*]; done)), H', ⟨by first | omega | exact Nat.le_refl _⟩, ⟨by (with_reducible repeat (first | refine blk_drewN ?_ _ | refine blk_drew ?_ | refine blk_alloc ?_ _)); refine blk_put (cs := #[.int .i64 t133, .int .i64 0]) ?_ 1 _ rfl; (with_reducible repeat (first | refine blk_drewN ?_ _ | refine blk_drew ?_ | refine blk_alloc ?_ _)); refine blk_put (cs := #[.int .i64 0, .int .i64 0]) ?_ 0 _ rfl; (with_reducible repeat (first | refine blk_drewN ?_ _ | refine blk_drew ?_ | refine blk_alloc ?_ _)); exact BK135.out⟩, ⟨by repeat (first | (with_reducible first | exact HB.out | apply below_alloc | apply pw_below_drewN | apply below_drew1 | refine below_set ?_ GE135.out) | exact HB.out)⟩⟩
      case rest =>
        clear HC17
        try clear c1
        try clear c2
        try clear p2
        try clear c4
        try clear c6
        try clear c6b0
        try clear c6b1
        try clear p6
        try clear c7
        try clear c7b0
        try clear c7b1
        try clear c7b2
        try clear c9
        try clear c16
        try clear c22
        try clear c22b0
        try clear c22b1
        try clear c23
        try clear c23b0
        try clear c25
        try clear c25b0
        try clear c27
        try clear c27b0
        try clear c27b1
        try clear c29
        try clear c29b0
        try clear c29b1
        try clear hcz11_0
        try clear hcz11_1
        try clear hcz15_0
        try clear hcz15_1
        try clear hcz21_0
        try clear hcz21_1
        try clear hcz24_0
        try clear hcz24_1
        try clear hcz26_0
        try clear hcz26_1
        try clear hcz28_0
        try clear hcz28_1
        try clear hcz30_0
        try clear hcz30_1
        try clear hcz31_0
        try clear hcz31_1
        try clear hcz32_0
        try clear hcz32_1
        try clear hfz11_0
        try clear hfz11_1
        try clear hfz15_0
        try clear hfz15_1
        try clear hfz21_0
        try clear hfz21_1
        try clear hfz24_0
        try clear hfz24_1
        try clear hfz26_0
        try clear hfz26_1
        try clear hfz28_0
        try clear hfz28_1
        try clear hfz30_0
        try clear hfz30_1
        try clear hfz31_0
        try clear hfz31_1
        try clear hfz32_0
        try clear hfz32_1
        obtain ⟨kq, x78_16, rfl, HA, HJ16, BK135, HB⟩ := hcut
        cases kq with
        | zero => exact absurd HA.out (by simp [chapmanlaw02_DecimalQuotients.j0])
        | succ kj16 =>
          have H := HA.out
          clear HA
          simp only [chapmanlaw02_DecimalQuotients.j0] at H
          by_cases c33 : x78_16 = true
          · subst c33
            have H1 : (some false) = some r := by rw [if_pos rfl] at H; exact H
            clear H
            have H := H1
            clear H1
            obtain rfl := Option.some.inj H
            go_wp2
            go_ret
            exact ⟨by first | rfl | (simp [errW_none, errW_some] <;> rfl) | (simp only [← hji16]; first | rfl | (simp [errW_none, errW_some] <;> rfl)) | (simp [*, errW_none, errW_some] <;> rfl), by repeat (first | (with_reducible first | exact HB.out | apply below_alloc | apply pw_below_drewN | apply below_drew1 | refine below_set ?_ GE135.out) | exact HB.out)⟩
          · replace c33 := Bool.eq_false_iff.mpr c33
            subst c33
            have H1 : (if t134 = 0 then (chapmanlaw02_DecimalQuotients.j1 kj16 a0 a1 true false) else (if (!(t133 == 0) || (!(t134 == 2))) = true then (chapmanlaw02_DecimalQuotients.j1 kj16 a0 a1 true true) else (if ji16 = 0 then (none) else (chapmanlaw02_DecimalQuotients.j1 kj16 a0 a1 true (decide ((wrap64 (Int.tdiv (mx (Int.tmod a0 9000000000001) (wrap64 (-(Int.tmod a0 9000000000001)))) ji16)) < 1000000000)))))) = some r := by rw [if_neg (show ¬ (false = true) by decide)] at H; exact H
            clear H
            have H := H1
            clear H1
            have HC34 := Aside0.mk H
            clear H
            go_upto_region 11 with (fail)
            go_cut [95] (fun v95 wc => ∃ (kq : Nat) (x95_33 : Bool), v95 = .bool x95_33 ∧ Aside0 (chapmanlaw02_DecimalQuotients.j1 kq a0 a1 true x95_33 = some r) ∧ Aside0 (kq ≤ kj16) ∧ Aside0 (wc.heap[gb135]? = some (.cells #[.int .i64 t133, .int .i64 t134] 30 (0, 0))) ∧ Aside0 (Below w.heap.size w wc))
            case first =>
              have H := HC34.out
              clear HC34
              by_cases c35 : t134 = 0
              · rw [if_pos c35] at H
                have c35b0 : (t134 == 0) = true := beq_iff_eq.mpr c35
                have c35b1 : (t134 != 0) = false := bne_eq_false_iff_eq.mpr c35
                clear c35
                (first | rw [c35b0] | (simp only [i64_w, i32_w]; rw [c35b0]) | skip)
                have H' := Aside0.mk H
                clear H
                have hcz36_0 : wc.cell? ⟨gb135, 0, none⟩ = some (.int .i64 t133) := (blk_cell BK135.out 0).trans rfl
                have hcz36_1 : wc.cell? ⟨gb135, 1, none⟩ = some (.int .i64 t134) := (blk_cell BK135.out 1).trans rfl
                have hfz36_0 := blk_frozen BK135.out 0
                have hfz36_1 := blk_frozen BK135.out 1
                go_wp2
                go_meet
                case rel => exact ⟨_, (false), (by first | rfl | (simp; done) | (simp [*]; done)), H', ⟨by have := HJ16.out; first | omega | exact Nat.le_refl _⟩, ⟨by (with_reducible repeat (first | refine blk_drewN ?_ _ | refine blk_drew ?_ | refine blk_alloc ?_ _)); exact BK135.out⟩, ⟨by repeat (first | (with_reducible first | exact HB.out | apply below_alloc | apply pw_below_drewN | apply below_drew1 | refine below_set ?_ GE135.out) | exact HB.out)⟩⟩
              · rw [if_neg c35] at H
                have c35b0 : (t134 == 0) = false := beq_eq_false_iff_ne.mpr c35
                have c35b1 : (t134 != 0) = true := bne_iff_ne.mpr c35
                (first | rw [c35b0] | (simp only [i64_w, i32_w]; rw [c35b0]) | skip)
                by_cases c37 : (!(t133 == 0) || (!(t134 == 2))) = true
                · rw [if_pos c37] at H
                  have c37b0 : (!(t133 == 0) || (!(t134 == 2))) = true := c37
                  clear c37
                  have H' := Aside0.mk H
                  clear H
                  have hcz38_0 : wc.cell? ⟨gb135, 0, none⟩ = some (.int .i64 t133) := (blk_cell BK135.out 0).trans rfl
                  have hcz38_1 : wc.cell? ⟨gb135, 1, none⟩ = some (.int .i64 t134) := (blk_cell BK135.out 1).trans rfl
                  have hfz38_0 := blk_frozen BK135.out 0
                  have hfz38_1 := blk_frozen BK135.out 1
                  go_wp2
                  go_meet
                  case rel => exact ⟨_, (true), (by first | rfl | (simp; done) | (simp [*]; done)), H', ⟨by have := HJ16.out; first | omega | exact Nat.le_refl _⟩, ⟨by (with_reducible repeat (first | refine blk_drewN ?_ _ | refine blk_drew ?_ | refine blk_alloc ?_ _)); exact BK135.out⟩, ⟨by repeat (first | (with_reducible first | exact HB.out | apply below_alloc | apply pw_below_drewN | apply below_drew1 | refine below_set ?_ GE135.out) | exact HB.out)⟩⟩
                · rw [if_neg c37] at H
                  have c37b0 : (!(t133 == 0) || (!(t134 == 2))) = false := by simpa using c37
                  clear c37
                  obtain ⟨ji39, hji39⟩ : ∃ j_ : Int, (mx (Int.tmod a0 9000000000001) (wrap64 (-(Int.tmod a0 9000000000001)))) = j_ := ⟨_, rfl⟩
                  replace H : (if ji16 = 0 then (none) else (chapmanlaw02_DecimalQuotients.j1 kj16 a0 a1 true (decide ((wrap64 (Int.tdiv (ji39) ji16)) < 1000000000)))) = some r := by first | (rw [hji39] at H; exact H) | (simp only [hji39] at H ⊢; exact H)
                  have hji39_ : (if (Int.tmod a0 9000000000001) < (wrap64 (-(Int.tmod a0 9000000000001))) then (wrap64 (-(Int.tmod a0 9000000000001))) else (Int.tmod a0 9000000000001)) = ji39 := hji39
                  by_cases c40 : ji16 = 0
                  · rw [if_pos c40] at H
                    exact absurd H (by simp)
                  · rw [if_neg c40] at H
                    have c40b0 : (ji16 == 0) = false := beq_eq_false_iff_ne.mpr c40
                    have c40b1 : (ji16 != 0) = true := bne_iff_ne.mpr c40
                    have H' := Aside0.mk H
                    clear H
                    have hcz41_0 : wc.cell? ⟨gb135, 0, none⟩ = some (.int .i64 t133) := (blk_cell BK135.out 0).trans rfl
                    have hcz41_1 : wc.cell? ⟨gb135, 1, none⟩ = some (.int .i64 t134) := (blk_cell BK135.out 1).trans rfl
                    have hfz41_0 := blk_frozen BK135.out 0
                    have hfz41_1 := blk_frozen BK135.out 1
                    go_wp2
                    go_meet
                    case rel => exact ⟨_, (decide ((wrap64 (Int.tdiv (ji39) ji16)) < 1000000000)), (by first | rfl | (simp; done) | (simp only [← hji16, ← hji39] <;> (first | rfl | simp)) | (simp [*]; done)), H', ⟨by have := HJ16.out; first | omega | exact Nat.le_refl _⟩, ⟨by (with_reducible repeat (first | refine blk_drewN ?_ _ | refine blk_drew ?_ | refine blk_alloc ?_ _)); exact BK135.out⟩, ⟨by repeat (first | (with_reducible first | exact HB.out | apply below_alloc | apply pw_below_drewN | apply below_drew1 | refine below_set ?_ GE135.out) | exact HB.out)⟩⟩
            case rest =>
              clear HC34
              try clear c1
              try clear c2
              try clear p2
              try clear c3
              try clear c4
              try clear c6
              try clear c6b0
              try clear c6b1
              try clear p6
              try clear c7
              try clear c7b0
              try clear c7b1
              try clear c7b2
              try clear c9
              try clear c16
              try clear c22
              try clear c22b0
              try clear c22b1
              try clear c23
              try clear c23b0
              try clear c25
              try clear c25b0
              try clear c27
              try clear c27b0
              try clear c27b1
              try clear c29
              try clear c29b0
              try clear c29b1
              try clear c33
              try clear c35
              try clear c35b0
              try clear c35b1
              try clear c37
              try clear c37b0
              try clear c40
              try clear c40b0
              try clear c40b1
              try clear hcz11_0
              try clear hcz11_1
              try clear hcz15_0
              try clear hcz15_1
              try clear hcz21_0
              try clear hcz21_1
              try clear hcz24_0
              try clear hcz24_1
              try clear hcz26_0
              try clear hcz26_1
              try clear hcz28_0
              try clear hcz28_1
              try clear hcz30_0
              try clear hcz30_1
              try clear hcz31_0
              try clear hcz31_1
              try clear hcz32_0
              try clear hcz32_1
              try clear hcz36_0
              try clear hcz36_1
              try clear hcz38_0
              try clear hcz38_1
              try clear hcz41_0
              try clear hcz41_1
              try clear hfz11_0
              try clear hfz11_1
              try clear hfz15_0
              try clear hfz15_1
              try clear hfz21_0
              try clear hfz21_1
              try clear hfz24_0
              try clear hfz24_1
              try clear hfz26_0
              try clear hfz26_1
              try clear hfz28_0
              try clear hfz28_1
              try clear hfz30_0
              try clear hfz30_1
              try clear hfz31_0
              try clear hfz31_1
              try clear hfz32_0
              try clear hfz32_1
              try clear hfz36_0
              try clear hfz36_1
              try clear hfz38_0
              try clear hfz38_1
              try clear hfz41_0
              try clear hfz41_1
              try clear p2
              try clear p6
              obtain ⟨kq, x95_33, rfl, HA, HJ33, BK135, HB⟩ := hcut
              cases kq with
              | zero => exact absurd HA.out (by simp [chapmanlaw02_DecimalQuotients.j1])
              | succ kj33 =>
                have H := HA.out
                clear HA
                simp only [chapmanlaw02_DecimalQuotients.j1] at H
                by_cases c42 : x95_33 = true
                · subst c42
                  have H1 : (some false) = some r := by rw [if_pos rfl] at H; exact H
                  clear H
                  have H := H1
                  clear H1
                  obtain rfl := Option.some.inj H
                  go_wp2
                  go_ret
                  exact ⟨by first | rfl | (simp [errW_none, errW_some] <;> rfl) | (simp only [← hji16]; first | rfl | (simp [errW_none, errW_some] <;> rfl)) | (simp [*, errW_none, errW_some] <;> rfl), by repeat (first | (with_reducible first | exact HB.out | apply below_alloc | apply pw_below_drewN | apply below_drew1 | refine below_set ?_ GE135.out) | exact HB.out)⟩
                · replace c42 := Bool.eq_false_iff.mpr c42
                  subst c42
                  have H1 : ((chapmanlaw02_product.f (Int.tmod a0 3000000001) (Int.tmod a1 3000000001)).bind fun bt136 => (if (Int.tmod a1 3000000001) = 0 then (chapmanlaw02_DecimalQuotients.j2 kj33 a1 true false) else (if (Int.tmod (wrap64 ((Int.tmod a0 3000000001) * (Int.tmod a1 3000000001))) 1000000) = 0 then (if bt136.2 = 0 then ((chapmanlaw02_quotient.f bt136.1 (Int.tmod a1 3000000001)).bind fun bt139 => (chapmanlaw02_DecimalQuotients.j2 kj33 a1 true (!(bt139.1 == (Int.tmod a0 3000000001)) || (!(bt139.2 == 0))))) else (chapmanlaw02_DecimalQuotients.j2 kj33 a1 true true)) else (chapmanlaw02_DecimalQuotients.j2 kj33 a1 true false)))) = some r := by rw [if_neg (show ¬ (false = true) by decide)] at H; exact H
                  clear H
                  have H := H1
                  clear H1
                  replace H := Option.bind_eq_some_iff.mp H
                  obtain ⟨⟨t136, t137⟩, A430, H⟩ := H
                  replace H : (if (Int.tmod a1 3000000001) = 0 then (chapmanlaw02_DecimalQuotients.j2 kj33 a1 true false) else (if (Int.tmod (wrap64 ((Int.tmod a0 3000000001) * (Int.tmod a1 3000000001))) 1000000) = 0 then (if t137 = 0 then ((chapmanlaw02_quotient.f t136 (Int.tmod a1 3000000001)).bind fun bt139 => (chapmanlaw02_DecimalQuotients.j2 kj33 a1 true (!(bt139.1 == (Int.tmod a0 3000000001)) || (!(bt139.2 == 0))))) else (chapmanlaw02_DecimalQuotients.j2 kj33 a1 true true)) else (chapmanlaw02_DecimalQuotients.j2 kj33 a1 true false))) = some r := H
                  have A43 := Aside0.mk A430
                  clear A430
                  have HC44 := Aside0.mk H
                  clear H
                  go_upto_region 15 with (first | ((with_reducible refine gate_callee (f := 14) rfl ?_); refine goesL_ (some 102) rfl rfl Tryz.func14 (by kernel_rfl) rfl #[.int .i64 (Int.tmod a0 3000000001), .int .i64 (Int.tmod a1 3000000001)] rfl (by (try simp only [List.map_toArray, List.map_cons, List.map_nil]); first | done | rfl | (simp only [List.length_drop, List.length_take]; rfl)) ?_; (with_reducible refine (chapmanlaw02_product.calls (Int.tmod a0 3000000001) (Int.tmod a1 3000000001) t136 t137 _ A43.out).mono ?_); rintro e w45 ⟨rfl, hb⟩; refine ⟨_, rfl, ?_⟩; have n0_ := Aside0.mk (blk_below (g := gb135) (o := .cells #[.int .i64 t133, .int .i64 t134] 30 (0, 0)) (by (with_reducible repeat (first | refine blk_drewN ?_ _ | refine blk_drew ?_ | refine blk_alloc ?_ _)); exact BK135.out) hb); have n1_ := Aside0.mk (below_step (by repeat (first | (with_reducible first | exact HB.out | apply below_alloc | apply pw_below_drewN | apply below_drew1 | refine below_set ?_ GE135.out) | exact HB.out)) hb); clear BK135; clear HB; have BK135 := n0_; have HB := n1_; clear n0_ n1_; (try clear hb); (try clear hb2); (try clear hk); (try clear hi)) | ((with_reducible refine gate_dst (N := 13) rfl ?_); (try (refine gate_guard (by rfl) ?_; dsimp only)); refine box_event ?hg (N := 13) ?hd (cs := #[.int .i64 0, .int .i64 0]) (t := 30) ?hr ?_; (case hd => rfl); (case hg => rfl); (case hr => first | (go_simp; done) | (go_simp; rfl)); intro gb138 hg w46 hbox hb; have n0_ := Aside0.mk (blk_below (g := gb135) (o := .cells #[.int .i64 t133, .int .i64 t134] 30 (0, 0)) (by (with_reducible repeat (first | refine blk_drewN ?_ _ | refine blk_drew ?_ | refine blk_alloc ?_ _)); exact BK135.out) hb); have n1_ := Aside0.mk (below_step (by repeat (first | (with_reducible first | exact HB.out | apply below_alloc | apply pw_below_drewN | apply below_drew1 | refine below_set ?_ GE135.out) | exact HB.out)) hb); have n2_ := Aside0.mk (hbox); have n3_ := Aside0.mk ((by rw [hg]; exact (below_size (by repeat (first | (with_reducible first | exact HB.out | apply below_alloc | apply pw_below_drewN | apply below_drew1 | refine below_set ?_ GE135.out) | exact HB.out))) : w.heap.size ≤ gb138)); have n4_ := Aside0.mk ((by rw [hg]; exact (below_size (by repeat (first | (with_reducible first | exact HB.out | apply below_alloc | apply pw_below_drewN | apply below_drew1 | refine below_set ?_ GE135.out) | exact HB.out))) : w.heap.size ≤ gb138)); have n5_ := Aside0.mk ((by rw [hg]; exact Nat.ne_of_lt (blk_lt (g := gb135) (o := .cells #[.int .i64 t133, .int .i64 t134] 30 (0, 0)) (by (with_reducible repeat (first | refine blk_drewN ?_ _ | refine blk_drew ?_ | refine blk_alloc ?_ _)); exact BK135.out)) : gb135 ≠ gb138)); have n6_ := Aside0.mk ((by rw [hg]; exact Nat.ne_of_gt (blk_lt (g := gb135) (o := .cells #[.int .i64 t133, .int .i64 t134] 30 (0, 0)) (by (with_reducible repeat (first | refine blk_drewN ?_ _ | refine blk_drew ?_ | refine blk_alloc ?_ _)); exact BK135.out)) : gb138 ≠ gb135)); clear BK135; clear HB; have BK135 := n0_; have HB := n1_; have BK138 := n2_; have GW138 := n3_; have GE138 := n4_; have NB135_138 := n5_; have NB138_135 := n6_; clear n0_ n1_ n2_ n3_ n4_ n5_ n6_; clear hb hbox hg; have hnb47 := NB138_135.out; have hnc47 := NB135_138.out; have hcz48_0 : w46.cell? ⟨gb138, 0, none⟩ = some (.int .i64 0) := (blk_cell BK138.out 0).trans rfl; have hcz48_1 : w46.cell? ⟨gb138, 1, none⟩ = some (.int .i64 0) := (blk_cell BK138.out 1).trans rfl; have hfz48_0 := blk_frozen BK138.out 0; have hfz48_1 := blk_frozen BK138.out 1))
                  (try simp only [Act.put, List.setIfInBounds_toArray, List.set_cons_zero, List.set_cons_succ])
                  go_cut [125] (fun v125 wc => ∃ (kq : Nat) (x125_43 : Bool), v125 = .bool x125_43 ∧ Aside0 (chapmanlaw02_DecimalQuotients.j2 kq a1 true x125_43 = some r) ∧ Aside0 (kq ≤ kj33) ∧ Aside0 (wc.heap[gb135]? = some (.cells #[.int .i64 t133, .int .i64 t134] 30 (0, 0))) ∧ Aside0 (wc.heap[gb138]? = some (.cells #[.int .i64 t136, .int .i64 t137] 30 (0, 0))) ∧ Aside0 (Below w.heap.size w wc))
                  case first =>
                    have H := HC44.out
                    clear HC44
                    by_cases c49 : (Int.tmod a1 3000000001) = 0
                    · rw [if_pos c49] at H
                      have c49b0 : ((Int.tmod a1 3000000001) == 0) = true := beq_iff_eq.mpr c49
                      have c49b1 : ((Int.tmod a1 3000000001) != 0) = false := bne_eq_false_iff_eq.mpr c49
                      clear c49
                      (first | rw [c49b0] | (simp only [i64_w, i32_w]; rw [c49b0]) | skip)
                      have H' := Aside0.mk H
                      clear H
                      go_wp2
                      go_meet
                      case rel => exact ⟨_, (false), (by first | rfl | (simp; done) | (simp [*]; done)), H', ⟨by have := HJ16.out; have := HJ33.out; first | omega | exact Nat.le_refl _⟩, ⟨by (with_reducible repeat (first | refine blk_drewN ?_ _ | refine blk_drew ?_ | refine blk_alloc ?_ _)); refine blk_far ?_ NB135_138.out _; (with_reducible repeat (first | refine blk_drewN ?_ _ | refine blk_drew ?_ | refine blk_alloc ?_ _)); refine blk_far ?_ NB135_138.out _; (with_reducible repeat (first | refine blk_drewN ?_ _ | refine blk_drew ?_ | refine blk_alloc ?_ _)); exact BK135.out⟩, ⟨by (with_reducible repeat (first | refine blk_drewN ?_ _ | refine blk_drew ?_ | refine blk_alloc ?_ _)); refine blk_put (cs := #[.int .i64 t136, .int .i64 0]) ?_ 1 _ rfl; (with_reducible repeat (first | refine blk_drewN ?_ _ | refine blk_drew ?_ | refine blk_alloc ?_ _)); refine blk_put (cs := #[.int .i64 0, .int .i64 0]) ?_ 0 _ rfl; (with_reducible repeat (first | refine blk_drewN ?_ _ | refine blk_drew ?_ | refine blk_alloc ?_ _)); exact BK138.out⟩, ⟨by repeat (first | (with_reducible first | exact HB.out | apply below_alloc | apply pw_below_drewN | apply below_drew1 | refine below_set ?_ GE135.out | refine below_set ?_ GE138.out) | exact HB.out)⟩⟩
                    · rw [if_neg c49] at H
                      have c49b0 : ((Int.tmod a1 3000000001) == 0) = false := beq_eq_false_iff_ne.mpr c49
                      have c49b1 : ((Int.tmod a1 3000000001) != 0) = true := bne_iff_ne.mpr c49
                      (first | rw [c49b0] | (simp only [i64_w, i32_w]; rw [c49b0]) | skip)
                      by_cases c50 : (Int.tmod (wrap64 ((Int.tmod a0 3000000001) * (Int.tmod a1 3000000001))) 1000000) = 0
                      · rw [if_pos c50] at H
                        have c50b0 : ((Int.tmod (wrap64 ((Int.tmod a0 3000000001) * (Int.tmod a1 3000000001))) 1000000) == 0) = true := beq_iff_eq.mpr c50
                        have c50b1 : ((Int.tmod (wrap64 ((Int.tmod a0 3000000001) * (Int.tmod a1 3000000001))) 1000000) != 0) = false := bne_eq_false_iff_eq.mpr c50
                        clear c50
                        by_cases c51 : t137 = 0
                        · rw [if_pos c51] at H
                          have c51b0 : (t137 == 0) = true := beq_iff_eq.mpr c51
                          have c51b1 : (t137 != 0) = false := bne_eq_false_iff_eq.mpr c51
                          clear c51
                          replace H := Option.bind_eq_some_iff.mp H
                          obtain ⟨⟨t139, t140⟩, A520, H⟩ := H
                          replace H : (chapmanlaw02_DecimalQuotients.j2 kj33 a1 true (!(t139 == (Int.tmod a0 3000000001)) || (!(t140 == 0)))) = some r := H
                          have A52 := Aside0.mk A520
                          clear A520
                          have H' := Aside0.mk H
                          clear H
                          have hnb53 := NB138_135.out
                          have hnc53 := NB135_138.out
                          have hcz54_0 : w46.cell? ⟨gb138, 0, none⟩ = some (.int .i64 0) := (blk_cell BK138.out 0).trans rfl
                          have hcz54_1 : w46.cell? ⟨gb138, 1, none⟩ = some (.int .i64 0) := (blk_cell BK138.out 1).trans rfl
                          have hfz54_0 := blk_frozen BK138.out 0
                          have hfz54_1 := blk_frozen BK138.out 1
                          go_wp2_with (first | (go_at_call 16; (with_reducible refine (chapmanlaw02_quotient.calls t136 (Int.tmod a1 3000000001) t139 t140 _ A52.out).mono ?_); rintro e w55 ⟨rfl, hb⟩; have n0_ := Aside0.mk (blk_below (g := gb135) (o := .cells #[.int .i64 t133, .int .i64 t134] 30 (0, 0)) (by (with_reducible repeat (first | refine blk_drewN ?_ _ | refine blk_drew ?_ | refine blk_alloc ?_ _)); refine blk_far ?_ NB135_138.out _; (with_reducible repeat (first | refine blk_drewN ?_ _ | refine blk_drew ?_ | refine blk_alloc ?_ _)); refine blk_far ?_ NB135_138.out _; (with_reducible repeat (first | refine blk_drewN ?_ _ | refine blk_drew ?_ | refine blk_alloc ?_ _)); exact BK135.out) hb); have n1_ := Aside0.mk (blk_below (g := gb138) (o := .cells #[.int .i64 t136, .int .i64 t137] 30 (0, 0)) (by (with_reducible repeat (first | refine blk_drewN ?_ _ | refine blk_drew ?_ | refine blk_alloc ?_ _)); refine blk_put (cs := #[.int .i64 t136, .int .i64 0]) ?_ 1 _ rfl; (with_reducible repeat (first | refine blk_drewN ?_ _ | refine blk_drew ?_ | refine blk_alloc ?_ _)); refine blk_put (cs := #[.int .i64 0, .int .i64 0]) ?_ 0 _ rfl; (with_reducible repeat (first | refine blk_drewN ?_ _ | refine blk_drew ?_ | refine blk_alloc ?_ _)); exact BK138.out) hb); have n2_ := Aside0.mk (below_step (by repeat (first | (with_reducible first | exact HB.out | apply below_alloc | apply pw_below_drewN | apply below_drew1 | refine below_set ?_ GE135.out | refine below_set ?_ GE138.out) | exact HB.out)) hb); clear BK135; clear BK138; clear HB; have BK135 := n0_; have BK138 := n1_; have HB := n2_; clear n0_ n1_ n2_; (try clear hb); (try clear hb2); (try clear hk); (try clear hi)))
                          go_meet
                          case rel => exact ⟨_, ((!(t139 == (Int.tmod a0 3000000001)) || (!(t140 == 0)))), (by first | rfl | (simp; done) | (simp [*]; done)), H', ⟨by have := HJ16.out; have := HJ33.out; first | omega | exact Nat.le_refl _⟩, ⟨by (with_reducible repeat (first | refine blk_drewN ?_ _ | refine blk_drew ?_ | refine blk_alloc ?_ _)); exact BK135.out⟩, ⟨by (with_reducible repeat (first | refine blk_drewN ?_ _ | refine blk_drew ?_ | refine blk_alloc ?_ _)); exact BK138.out⟩, ⟨by repeat (first | (with_reducible first | exact HB.out | apply below_alloc | apply pw_below_drewN | apply below_drew1 | refine below_set ?_ GE135.out | refine below_set ?_ GE138.out) | exact HB.out)⟩⟩
                        · rw [if_neg c51] at H
                          have c51b0 : (t137 == 0) = false := beq_eq_false_iff_ne.mpr c51
                          have c51b1 : (t137 != 0) = true := bne_iff_ne.mpr c51
                          have H' := Aside0.mk H
                          clear H
                          have hnb56 := NB138_135.out
                          have hnc56 := NB135_138.out
                          have hcz57_0 : w46.cell? ⟨gb138, 0, none⟩ = some (.int .i64 0) := (blk_cell BK138.out 0).trans rfl
                          have hcz57_1 : w46.cell? ⟨gb138, 1, none⟩ = some (.int .i64 0) := (blk_cell BK138.out 1).trans rfl
                          have hfz57_0 := blk_frozen BK138.out 0
                          have hfz57_1 := blk_frozen BK138.out 1
                          go_wp2
                          go_meet
                          case rel => exact ⟨_, (true), (by first | rfl | (simp; done) | (simp [*]; done)), H', ⟨by have := HJ16.out; have := HJ33.out; first | omega | exact Nat.le_refl _⟩, ⟨by (with_reducible repeat (first | refine blk_drewN ?_ _ | refine blk_drew ?_ | refine blk_alloc ?_ _)); refine blk_far ?_ NB135_138.out _; (with_reducible repeat (first | refine blk_drewN ?_ _ | refine blk_drew ?_ | refine blk_alloc ?_ _)); refine blk_far ?_ NB135_138.out _; (with_reducible repeat (first | refine blk_drewN ?_ _ | refine blk_drew ?_ | refine blk_alloc ?_ _)); exact BK135.out⟩, ⟨by (with_reducible repeat (first | refine blk_drewN ?_ _ | refine blk_drew ?_ | refine blk_alloc ?_ _)); refine blk_put (cs := #[.int .i64 t136, .int .i64 0]) ?_ 1 _ rfl; (with_reducible repeat (first | refine blk_drewN ?_ _ | refine blk_drew ?_ | refine blk_alloc ?_ _)); refine blk_put (cs := #[.int .i64 0, .int .i64 0]) ?_ 0 _ rfl; (with_reducible repeat (first | refine blk_drewN ?_ _ | refine blk_drew ?_ | refine blk_alloc ?_ _)); exact BK138.out⟩, ⟨by repeat (first | (with_reducible first | exact HB.out | apply below_alloc | apply pw_below_drewN | apply below_drew1 | refine below_set ?_ GE135.out | refine below_set ?_ GE138.out) | exact HB.out)⟩⟩
                      · rw [if_neg c50] at H
                        have c50b0 : ((Int.tmod (wrap64 ((Int.tmod a0 3000000001) * (Int.tmod a1 3000000001))) 1000000) == 0) = false := beq_eq_false_iff_ne.mpr c50
                        have c50b1 : ((Int.tmod (wrap64 ((Int.tmod a0 3000000001) * (Int.tmod a1 3000000001))) 1000000) != 0) = true := bne_iff_ne.mpr c50
                        have H' := Aside0.mk H
                        clear H
                        go_wp2
                        go_meet
                        case rel => exact ⟨_, (false), (by first | rfl | (simp; done) | (simp [*]; done)), H', ⟨by have := HJ16.out; have := HJ33.out; first | omega | exact Nat.le_refl _⟩, ⟨by (with_reducible repeat (first | refine blk_drewN ?_ _ | refine blk_drew ?_ | refine blk_alloc ?_ _)); refine blk_far ?_ NB135_138.out _; (with_reducible repeat (first | refine blk_drewN ?_ _ | refine blk_drew ?_ | refine blk_alloc ?_ _)); refine blk_far ?_ NB135_138.out _; (with_reducible repeat (first | refine blk_drewN ?_ _ | refine blk_drew ?_ | refine blk_alloc ?_ _)); exact BK135.out⟩, ⟨by (with_reducible repeat (first | refine blk_drewN ?_ _ | refine blk_drew ?_ | refine blk_alloc ?_ _)); refine blk_put (cs := #[.int .i64 t136, .int .i64 0]) ?_ 1 _ rfl; (with_reducible repeat (first | refine blk_drewN ?_ _ | refine blk_drew ?_ | refine blk_alloc ?_ _)); refine blk_put (cs := #[.int .i64 0, .int .i64 0]) ?_ 0 _ rfl; (with_reducible repeat (first | refine blk_drewN ?_ _ | refine blk_drew ?_ | refine blk_alloc ?_ _)); exact BK138.out⟩, ⟨by repeat (first | (with_reducible first | exact HB.out | apply below_alloc | apply pw_below_drewN | apply below_drew1 | refine below_set ?_ GE135.out | refine below_set ?_ GE138.out) | exact HB.out)⟩⟩
                  case rest =>
                    clear HC44
                    try clear c1
                    try clear c2
                    try clear p2
                    try clear c3
                    try clear c4
                    try clear c5
                    try clear c6
                    try clear c6b0
                    try clear c6b1
                    try clear p6
                    try clear c7
                    try clear c7b0
                    try clear c7b1
                    try clear c7b2
                    try clear c9
                    try clear c14
                    try clear c16
                    try clear c22
                    try clear c22b0
                    try clear c22b1
                    try clear c23
                    try clear c23b0
                    try clear c25
                    try clear c25b0
                    try clear c27
                    try clear c27b0
                    try clear c27b1
                    try clear c29
                    try clear c29b0
                    try clear c29b1
                    try clear c33
                    try clear c35
                    try clear c35b0
                    try clear c35b1
                    try clear c37
                    try clear c37b0
                    try clear c40
                    try clear c40b0
                    try clear c40b1
                    try clear c42
                    try clear c47
                    try clear c49
                    try clear c49b0
                    try clear c49b1
                    try clear c50
                    try clear c50b0
                    try clear c50b1
                    try clear c51
                    try clear c51b0
                    try clear c51b1
                    try clear c53
                    try clear c56
                    try clear hcz11_0
                    try clear hcz11_1
                    try clear hcz15_0
                    try clear hcz15_1
                    try clear hcz21_0
                    try clear hcz21_1
                    try clear hcz24_0
                    try clear hcz24_1
                    try clear hcz26_0
                    try clear hcz26_1
                    try clear hcz28_0
                    try clear hcz28_1
                    try clear hcz30_0
                    try clear hcz30_1
                    try clear hcz31_0
                    try clear hcz31_1
                    try clear hcz32_0
                    try clear hcz32_1
                    try clear hcz36_0
                    try clear hcz36_1
                    try clear hcz38_0
                    try clear hcz38_1
                    try clear hcz41_0
                    try clear hcz41_1
                    try clear hcz48_0
                    try clear hcz48_1
                    try clear hcz54_0
                    try clear hcz54_1
                    try clear hcz57_0
                    try clear hcz57_1
                    try clear hfz11_0
                    try clear hfz11_1
                    try clear hfz15_0
                    try clear hfz15_1
                    try clear hfz21_0
                    try clear hfz21_1
                    try clear hfz24_0
                    try clear hfz24_1
                    try clear hfz26_0
                    try clear hfz26_1
                    try clear hfz28_0
                    try clear hfz28_1
                    try clear hfz30_0
                    try clear hfz30_1
                    try clear hfz31_0
                    try clear hfz31_1
                    try clear hfz32_0
                    try clear hfz32_1
                    try clear hfz36_0
                    try clear hfz36_1
                    try clear hfz38_0
                    try clear hfz38_1
                    try clear hfz41_0
                    try clear hfz41_1
                    try clear hfz48_0
                    try clear hfz48_1
                    try clear hfz54_0
                    try clear hfz54_1
                    try clear hfz57_0
                    try clear hfz57_1
                    try clear p2
                    try clear p6
                    obtain ⟨kq, x125_43, rfl, HA, HJ43, BK135, BK138, HB⟩ := hcut
                    cases kq with
                    | zero => exact absurd HA.out (by simp [chapmanlaw02_DecimalQuotients.j2])
                    | succ kj43 =>
                      have H := HA.out
                      clear HA
                      simp only [chapmanlaw02_DecimalQuotients.j2] at H
                      by_cases c58 : x125_43 = true
                      · subst c58
                        have H1 : (some false) = some r := by rw [if_pos rfl] at H; exact H
                        clear H
                        have H := H1
                        clear H1
                        obtain rfl := Option.some.inj H
                        go_wp2
                        go_ret
                        exact ⟨by first | rfl | (simp [errW_none, errW_some] <;> rfl) | (simp only [← hji16]; first | rfl | (simp [errW_none, errW_some] <;> rfl)) | (simp [*, errW_none, errW_some] <;> rfl), by repeat (first | (with_reducible first | exact HB.out | apply below_alloc | apply pw_below_drewN | apply below_drew1 | refine below_set ?_ GE135.out | refine below_set ?_ GE138.out) | exact HB.out)⟩
                      · replace c58 := Bool.eq_false_iff.mpr c58
                        subst c58
                        have H1 : ((chapmanlaw02_quotient.f (Int.tmod a1 1000000000000001) 1000000).bind fun bt141 => (if (bt141.1 == (Int.tmod a1 1000000000000001) && (bt141.2 == 0)) = true then ((chapmanlaw02_quotient.f (Int.tmod a1 1000000000000001) (-1000000)).bind fun bt143 => (if (bt143.1 == (wrap64 (-(Int.tmod a1 1000000000000001))) && (bt143.2 == 0)) = true then (some true) else (some false))) else (some false))) = some r := by rw [if_neg (show ¬ (false = true) by decide)] at H; exact H
                        clear H
                        have H := H1
                        clear H1
                        replace H := Option.bind_eq_some_iff.mp H
                        obtain ⟨⟨t141, t142⟩, A590, H⟩ := H
                        replace H : (if (t141 == (Int.tmod a1 1000000000000001) && (t142 == 0)) = true then ((chapmanlaw02_quotient.f (Int.tmod a1 1000000000000001) (-1000000)).bind fun bt143 => (if (bt143.1 == (wrap64 (-(Int.tmod a1 1000000000000001))) && (bt143.2 == 0)) = true then (some true) else (some false))) else (some false)) = some r := H
                        have A59 := Aside0.mk A590
                        clear A590
                        by_cases c60 : (t141 == (Int.tmod a1 1000000000000001) && (t142 == 0)) = true
                        · rw [if_pos c60] at H
                          have c60b0 : (t141 == (Int.tmod a1 1000000000000001) && (t142 == 0)) = true := c60
                          (try (have c60b1 : decide (t141 = (Int.tmod a1 1000000000000001) && (t142 == 0)) = true := by simpa using c60))
                          (try (have c60b2 : (t141 == (Int.tmod a1 1000000000000001) && (t142 == 0)) = true := by simpa using c60))
                          clear c60
                          replace H := Option.bind_eq_some_iff.mp H
                          obtain ⟨⟨t143, t144⟩, A610, H⟩ := H
                          replace H : (if (t143 == (wrap64 (-(Int.tmod a1 1000000000000001))) && (t144 == 0)) = true then (some true) else (some false)) = some r := H
                          have A61 := Aside0.mk A610
                          clear A610
                          by_cases c62 : (t143 == (wrap64 (-(Int.tmod a1 1000000000000001))) && (t144 == 0)) = true
                          · rw [if_pos c62] at H
                            have c62b0 : (t143 == (wrap64 (-(Int.tmod a1 1000000000000001))) && (t144 == 0)) = true := c62
                            (try (have c62b1 : decide (t143 = (wrap64 (-(Int.tmod a1 1000000000000001))) && (t144 == 0)) = true := by simpa using c62))
                            (try (have c62b2 : (t143 == (wrap64 (-(Int.tmod a1 1000000000000001))) && (t144 == 0)) = true := by simpa using c62))
                            clear c62
                            obtain rfl := Option.some.inj H
                            go_wp2_with (first | ((with_reducible refine gate_callee (f := 16) rfl ?_); refine goesL_ (some 129) rfl rfl Tryz.func16 (by kernel_rfl) rfl #[.int .i64 (Int.tmod a1 1000000000000001), .int .i64 1000000] rfl (by (try simp only [List.map_toArray, List.map_cons, List.map_nil]); first | done | rfl | (simp only [List.length_drop, List.length_take]; rfl)) ?_; (with_reducible refine (chapmanlaw02_quotient.calls (Int.tmod a1 1000000000000001) 1000000 t141 t142 _ A59.out).mono ?_); rintro e w63 ⟨rfl, hb⟩; refine ⟨_, rfl, ?_⟩; have n0_ := Aside0.mk (blk_below (g := gb135) (o := .cells #[.int .i64 t133, .int .i64 t134] 30 (0, 0)) (by (with_reducible repeat (first | refine blk_drewN ?_ _ | refine blk_drew ?_ | refine blk_alloc ?_ _)); exact BK135.out) hb); have n1_ := Aside0.mk (blk_below (g := gb138) (o := .cells #[.int .i64 t136, .int .i64 t137] 30 (0, 0)) (by (with_reducible repeat (first | refine blk_drewN ?_ _ | refine blk_drew ?_ | refine blk_alloc ?_ _)); exact BK138.out) hb); have n2_ := Aside0.mk (below_step (by repeat (first | (with_reducible first | exact HB.out | apply below_alloc | apply pw_below_drewN | apply below_drew1 | refine below_set ?_ GE135.out | refine below_set ?_ GE138.out) | exact HB.out)) hb); clear BK135; clear BK138; clear HB; have BK135 := n0_; have BK138 := n1_; have HB := n2_; clear n0_ n1_ n2_; (try clear hb); (try clear hb2); (try clear hk); (try clear hi)) | (go_at_call 16; (with_reducible refine (chapmanlaw02_quotient.calls (Int.tmod a1 1000000000000001) (-1000000) t143 t144 _ A61.out).mono ?_); rintro e w64 ⟨rfl, hb⟩; have n0_ := Aside0.mk (blk_below (g := gb135) (o := .cells #[.int .i64 t133, .int .i64 t134] 30 (0, 0)) (by (with_reducible repeat (first | refine blk_drewN ?_ _ | refine blk_drew ?_ | refine blk_alloc ?_ _)); exact BK135.out) hb); have n1_ := Aside0.mk (blk_below (g := gb138) (o := .cells #[.int .i64 t136, .int .i64 t137] 30 (0, 0)) (by (with_reducible repeat (first | refine blk_drewN ?_ _ | refine blk_drew ?_ | refine blk_alloc ?_ _)); exact BK138.out) hb); have n2_ := Aside0.mk (below_step (by repeat (first | (with_reducible first | exact HB.out | apply below_alloc | apply pw_below_drewN | apply below_drew1 | refine below_set ?_ GE135.out | refine below_set ?_ GE138.out) | exact HB.out)) hb); clear BK135; clear BK138; clear HB; have BK135 := n0_; have BK138 := n1_; have HB := n2_; clear n0_ n1_ n2_; (try clear hb); (try clear hb2); (try clear hk); (try clear hi)))
                            go_ret
                            exact ⟨by first | rfl | (simp [errW_none, errW_some] <;> rfl) | (simp only [← hji16]; first | rfl | (simp [errW_none, errW_some] <;> rfl)) | (simp [*, errW_none, errW_some] <;> rfl), by repeat (first | (with_reducible first | exact HB.out | apply below_alloc | apply pw_below_drewN | apply below_drew1 | refine below_set ?_ GE135.out | refine below_set ?_ GE138.out) | exact HB.out)⟩
                          · rw [if_neg c62] at H
                            have c62b0 : (t143 == (wrap64 (-(Int.tmod a1 1000000000000001))) && (t144 == 0)) = false := by simpa using c62
                            (try (have c62b1 : decide (t143 = (wrap64 (-(Int.tmod a1 1000000000000001))) && (t144 == 0)) = false := by simpa using c62))
                            (try (have c62b2 : (t143 == (wrap64 (-(Int.tmod a1 1000000000000001))) && (t144 == 0)) = false := by simpa using c62))
                            (try (have c62b3 : ¬ (t143 = (wrap64 (-(Int.tmod a1 1000000000000001))) && (t144 == 0)) := by simpa using c62))
                            clear c62
                            obtain rfl := Option.some.inj H
                            go_wp2_with (first | ((with_reducible refine gate_callee (f := 16) rfl ?_); refine goesL_ (some 129) rfl rfl Tryz.func16 (by kernel_rfl) rfl #[.int .i64 (Int.tmod a1 1000000000000001), .int .i64 1000000] rfl (by (try simp only [List.map_toArray, List.map_cons, List.map_nil]); first | done | rfl | (simp only [List.length_drop, List.length_take]; rfl)) ?_; (with_reducible refine (chapmanlaw02_quotient.calls (Int.tmod a1 1000000000000001) 1000000 t141 t142 _ A59.out).mono ?_); rintro e w65 ⟨rfl, hb⟩; refine ⟨_, rfl, ?_⟩; have n0_ := Aside0.mk (blk_below (g := gb135) (o := .cells #[.int .i64 t133, .int .i64 t134] 30 (0, 0)) (by (with_reducible repeat (first | refine blk_drewN ?_ _ | refine blk_drew ?_ | refine blk_alloc ?_ _)); exact BK135.out) hb); have n1_ := Aside0.mk (blk_below (g := gb138) (o := .cells #[.int .i64 t136, .int .i64 t137] 30 (0, 0)) (by (with_reducible repeat (first | refine blk_drewN ?_ _ | refine blk_drew ?_ | refine blk_alloc ?_ _)); exact BK138.out) hb); have n2_ := Aside0.mk (below_step (by repeat (first | (with_reducible first | exact HB.out | apply below_alloc | apply pw_below_drewN | apply below_drew1 | refine below_set ?_ GE135.out | refine below_set ?_ GE138.out) | exact HB.out)) hb); clear BK135; clear BK138; clear HB; have BK135 := n0_; have BK138 := n1_; have HB := n2_; clear n0_ n1_ n2_; (try clear hb); (try clear hb2); (try clear hk); (try clear hi)) | (go_at_call 16; (with_reducible refine (chapmanlaw02_quotient.calls (Int.tmod a1 1000000000000001) (-1000000) t143 t144 _ A61.out).mono ?_); rintro e w66 ⟨rfl, hb⟩; have n0_ := Aside0.mk (blk_below (g := gb135) (o := .cells #[.int .i64 t133, .int .i64 t134] 30 (0, 0)) (by (with_reducible repeat (first | refine blk_drewN ?_ _ | refine blk_drew ?_ | refine blk_alloc ?_ _)); exact BK135.out) hb); have n1_ := Aside0.mk (blk_below (g := gb138) (o := .cells #[.int .i64 t136, .int .i64 t137] 30 (0, 0)) (by (with_reducible repeat (first | refine blk_drewN ?_ _ | refine blk_drew ?_ | refine blk_alloc ?_ _)); exact BK138.out) hb); have n2_ := Aside0.mk (below_step (by repeat (first | (with_reducible first | exact HB.out | apply below_alloc | apply pw_below_drewN | apply below_drew1 | refine below_set ?_ GE135.out | refine below_set ?_ GE138.out) | exact HB.out)) hb); clear BK135; clear BK138; clear HB; have BK135 := n0_; have BK138 := n1_; have HB := n2_; clear n0_ n1_ n2_; (try clear hb); (try clear hb2); (try clear hk); (try clear hi)))
                            go_ret
                            exact ⟨by first | rfl | (simp [errW_none, errW_some] <;> rfl) | (simp only [← hji16]; first | rfl | (simp [errW_none, errW_some] <;> rfl)) | (simp [*, errW_none, errW_some] <;> rfl), by repeat (first | (with_reducible first | exact HB.out | apply below_alloc | apply pw_below_drewN | apply below_drew1 | refine below_set ?_ GE135.out | refine below_set ?_ GE138.out) | exact HB.out)⟩
                        · rw [if_neg c60] at H
                          have c60b0 : (t141 == (Int.tmod a1 1000000000000001) && (t142 == 0)) = false := by simpa using c60
                          (try (have c60b1 : decide (t141 = (Int.tmod a1 1000000000000001) && (t142 == 0)) = false := by simpa using c60))
                          (try (have c60b2 : (t141 == (Int.tmod a1 1000000000000001) && (t142 == 0)) = false := by simpa using c60))
                          (try (have c60b3 : ¬ (t141 = (Int.tmod a1 1000000000000001) && (t142 == 0)) := by simpa using c60))
                          clear c60
                          obtain rfl := Option.some.inj H
                          go_wp2_with (first | ((with_reducible refine gate_callee (f := 16) rfl ?_); refine goesL_ (some 129) rfl rfl Tryz.func16 (by kernel_rfl) rfl #[.int .i64 (Int.tmod a1 1000000000000001), .int .i64 1000000] rfl (by (try simp only [List.map_toArray, List.map_cons, List.map_nil]); first | done | rfl | (simp only [List.length_drop, List.length_take]; rfl)) ?_; (with_reducible refine (chapmanlaw02_quotient.calls (Int.tmod a1 1000000000000001) 1000000 t141 t142 _ A59.out).mono ?_); rintro e w67 ⟨rfl, hb⟩; refine ⟨_, rfl, ?_⟩; have n0_ := Aside0.mk (blk_below (g := gb135) (o := .cells #[.int .i64 t133, .int .i64 t134] 30 (0, 0)) (by (with_reducible repeat (first | refine blk_drewN ?_ _ | refine blk_drew ?_ | refine blk_alloc ?_ _)); exact BK135.out) hb); have n1_ := Aside0.mk (blk_below (g := gb138) (o := .cells #[.int .i64 t136, .int .i64 t137] 30 (0, 0)) (by (with_reducible repeat (first | refine blk_drewN ?_ _ | refine blk_drew ?_ | refine blk_alloc ?_ _)); exact BK138.out) hb); have n2_ := Aside0.mk (below_step (by repeat (first | (with_reducible first | exact HB.out | apply below_alloc | apply pw_below_drewN | apply below_drew1 | refine below_set ?_ GE135.out | refine below_set ?_ GE138.out) | exact HB.out)) hb); clear BK135; clear BK138; clear HB; have BK135 := n0_; have BK138 := n1_; have HB := n2_; clear n0_ n1_ n2_; (try clear hb); (try clear hb2); (try clear hk); (try clear hi)))
                          go_ret
                          exact ⟨by first | rfl | (simp [errW_none, errW_some] <;> rfl) | (simp only [← hji16]; first | rfl | (simp [errW_none, errW_some] <;> rfl)) | (simp [*, errW_none, errW_some] <;> rfl), by repeat (first | (with_reducible first | exact HB.out | apply below_alloc | apply pw_below_drewN | apply below_drew1 | refine below_set ?_ GE135.out | refine below_set ?_ GE138.out) | exact HB.out)⟩
  · replace c4 := Bool.eq_false_iff.mpr c4
    subst c4
    have H1 : (some false) = some r := by rw [if_neg (show ¬ (false = true) by decide)] at H; exact H
    clear H
    have H := H1
    clear H1
    obtain rfl := Option.some.inj H
    go_enter Tryz.func7, Tryz.ntmps7
    go_wp2_with (first | ((with_reducible refine gate_callee (f := 9) rfl ?_); refine goesL_ (some 15) rfl rfl Tryz.func9 (by kernel_rfl) rfl #[] rfl (by (try simp only [List.map_toArray, List.map_cons, List.map_nil]); first | done | rfl | (simp only [List.length_drop, List.length_take]; rfl)) ?_; (with_reducible refine (chapmanlaw02_examples.calls  false _ ?side1 A3.out).mono ?_); (case side1 => first | exact hgl | exact hgl.drewN _ | exact hgl.below (by repeat (first | (with_reducible first | exact HB.out | apply below_alloc | apply pw_below_drewN | apply below_drew1) | exact HB.out)) | (repeat (first | exact hgl | apply Gl.drewN | apply Gl.drew))); rintro e w68 ⟨rfl, hb⟩; refine ⟨_, rfl, ?_⟩; have n0_ := Aside0.mk (below_step (by repeat (first | (with_reducible first | exact HB.out | apply below_alloc | apply pw_below_drewN | apply below_drew1) | exact HB.out)) hb); clear HB; have HB := n0_; clear n0_; (try clear hb); (try clear hb2); (try clear hk); (try clear hi)))
    go_ret
    exact ⟨by first | rfl | (simp [errW_none, errW_some] <;> rfl) | (simp [*, errW_none, errW_some] <;> rfl), by repeat (first | (with_reducible first | exact HB.out | apply below_alloc | apply pw_below_drewN | apply below_drew1) | exact HB.out)⟩

/-- THE ONE PURE STATEMENT of chapmanlaw02_DecimalQuotients: yours. -/
def chapmanlaw02_DecimalQuotients.Pure : Prop := ∀ (a0 : Int) (a1 : Int), (Lit.int .i64 a0).wf = true → (Lit.int .i64 a1).wf = true → ∃ k, chapmanlaw02_DecimalQuotients.f k a0 a1 = some true
theorem chapmanlaw02_DecimalQuotients.walk (P : chapmanlaw02_DecimalQuotients.Pure) (a0 : Int) (a1 : Int) (w : World) (hgl : Gl w) (w0 : (Lit.int .i64 a0).wf = true) (w1 : (Lit.int .i64 a1).wf = true) :
    Calls Tryz.prog 7 #[.int .i64 a0, .int .i64 a1] w fun e w' => e = .returned (.bool true) ∧ Below w.heap.size w w' := by
  obtain ⟨k, h⟩ := P a0 a1 w0 w1
  refine (chapmanlaw02_DecimalQuotients.calls k a0 a1 true w hgl h).mono ?_
  rintro e w' ⟨rfl, hd⟩
  exact ⟨rfl, hd⟩

end Go.Proofs.YtckonpphagkfeaaGreatDoor.R
