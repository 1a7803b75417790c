/- decimal.Trunc and decimal.Fits, which read the table of the last places. -/
import Derived.Test.YtckonpphagkfeaaGreatDoorHLib
import Derived.Deep.QuietTactic
import Derived.BigQuiet
import Derived.Lib.Hide
namespace Go.Proofs.YtckonpphagkfeaaGreatDoor.H
open Go.RowKit Go.Proofs.YtckonpphagkfeaaGreatDoorW.PrintWords

/-- A unit of the last place of a scale. -/
def stepOf (scale : Int) : Int := stepsTab.getD scale.toNat 0
theorem stepOf_pos (k : Nat) (hk : k < 7) : 1 ≤ stepsTab.getD k 0 ∧ stepsTab.getD k 0 ≤ 1000000 := by
  have : ∀ k : Fin 7, 1 ≤ stepsTab.getD k.val 0 ∧ stepsTab.getD k.val 0 ≤ 1000000 := by decide
  exact this ⟨k, hk⟩

theorem scaled_yes (k : Nat) (hk : k < 7) (w : World) : Calls Tryz.prog 51 #[.int .i64 k] w fun e w' => e = .returned (.bool true) ∧ Drawn0 w w' := by
  go_enter Tryz.func51, Tryz.ntmps51
  go_wp2
  all_goals (go_ret; exact ⟨by first | rfl | (simp; omega), by repeat (first | exact Drawn0.refl _ | apply Drawn0.step)⟩)
theorem scaled_no (z : Int) (hz : ¬ (0 ≤ z ∧ z < 7)) (w : World) : Calls Tryz.prog 51 #[.int .i64 z] w fun e w' => e = .returned (.bool false) ∧ Drawn0 w w' := by
  go_enter Tryz.func51, Tryz.ntmps51
  go_wp2
  all_goals (go_ret; exact ⟨by first | rfl | (simp; omega), by repeat (first | exact Drawn0.refl _ | apply Drawn0.step)⟩)

def decimal_Trunc.f (a0 a1 : Int) : Option Int := if 0 ≤ a1 ∧ a1 < 7 then some (wrap64 (wrap64 (Int.tdiv a0 (stepOf a1)) * stepOf a1)) else some a0

set_option maxHeartbeats 400000 in
theorem decimal_Trunc.calls (a0 a1 r : Int) (w : World) (hgl : Gl w) (h : decimal_Trunc.f a0 a1 = some r) :
    Calls Tryz.prog 26 #[.int .i64 a0, .int .i64 a1] w fun e w' => e = .returned (.int .i64 r) ∧ Drawn0 w w' := by
  unfold decimal_Trunc.f at h
  by_cases hs : 0 ≤ a1 ∧ a1 < 7
  · rw [if_pos hs] at h
    obtain ⟨k, rfl⟩ : ∃ k : Nat, a1 = k := ⟨a1.toNat, by omega⟩
    have hk : k < 7 := by omega
    unfold stepOf at h
    rw [Int.toNat_natCast] at h
    have hp := stepOf_pos k hk
    have hc := hgl.steps k hk
    obtain rfl := Option.some.inj h
    generalize hx : stepsTab.getD k 0 = s at *
    have Hx := Lib.hid hx
    clear hx h
    obtain ⟨hp1, hp2⟩ := hp
    have hz : (s == 0) = false := beq_eq_false_iff_ne.2 (by omega)
    go_enter Tryz.func26, Tryz.ntmps26
    go_wp2_with (go_at_call 51; refine (scaled_yes k hk _).mono ?_; rintro e w' ⟨rfl, ⟨nd, rfl⟩⟩)
    go_quiet (fail)
    go_wp2
    go_ret
    exact ⟨rfl, by repeat (first | exact Drawn0.refl _ | apply Drawn0.step)⟩
  · rw [if_neg hs] at h
    obtain rfl := Option.some.inj h
    go_enter Tryz.func26, Tryz.ntmps26
    go_wp2_with (go_at_call 51; refine (scaled_no a1 hs _).mono ?_; rintro e w' ⟨rfl, ⟨nd, rfl⟩⟩)
    go_ret
    exact ⟨rfl, by repeat (first | exact Drawn0.refl _ | apply Drawn0.step)⟩

def decimal_Fits.f (a0 a1 : Int) : Option Bool := if 0 ≤ a1 ∧ a1 < 7 then some (Int.tmod a0 (stepOf a1) == 0) else some false

set_option maxHeartbeats 400000 in
theorem decimal_Fits.calls (a0 a1 : Int) (r : Bool) (w : World) (hgl : Gl w) (h : decimal_Fits.f a0 a1 = some r) :
    Calls Tryz.prog 28 #[.int .i64 a0, .int .i64 a1] w fun e w' => e = .returned (.bool r) ∧ Drawn0 w w' := by
  unfold decimal_Fits.f at h
  by_cases hs : 0 ≤ a1 ∧ a1 < 7
  · rw [if_pos hs] at h
    obtain ⟨k, rfl⟩ : ∃ k : Nat, a1 = k := ⟨a1.toNat, by omega⟩
    have hk : k < 7 := by omega
    unfold stepOf at h
    rw [Int.toNat_natCast] at h
    have hp := stepOf_pos k hk
    have hc := hgl.steps k hk
    obtain rfl := Option.some.inj h
    generalize hx : stepsTab.getD k 0 = s at *
    have Hx := Lib.hid hx
    clear hx h
    obtain ⟨hp1, hp2⟩ := hp
    have hz : (s == 0) = false := beq_eq_false_iff_ne.2 (by omega)
    go_enter Tryz.func28, Tryz.ntmps28
    go_wp2_with (go_at_call 51; refine (scaled_yes k hk _).mono ?_; rintro e w' ⟨rfl, ⟨nd, rfl⟩⟩)
    go_ret
    exact ⟨rfl, by repeat (first | exact Drawn0.refl _ | apply Drawn0.step)⟩
  · rw [if_neg hs] at h
    obtain rfl := Option.some.inj h
    go_enter Tryz.func28, Tryz.ntmps28
    go_wp2_with (go_at_call 51; refine (scaled_no a1 hs _).mono ?_; rintro e w' ⟨rfl, ⟨nd, rfl⟩⟩)
    go_ret
    exact ⟨rfl, by repeat (first | exact Drawn0.refl _ | apply Drawn0.step)⟩
end Go.Proofs.YtckonpphagkfeaaGreatDoor.H
