/- decimal's pair: the sizes of two operands. -/
import Derived.Test.YtckonpphagkfeaaGreatDoorHBits
import Derived.Test.YtckonpphagkfeaaGreatDoorWMore
import Derived.Deep.QuietTactic
import Derived.BigQuiet
import Derived.Outline
import Derived.Lib.Hide
namespace Go.Proofs.YtckonpphagkfeaaGreatDoor.H
open Go.RowKit Go.Proofs.YtckonpphagkfeaaGreatDoorW.PrintWords Go.Proofs.YtckonpphagkfeaaGreatDoorW.PrintLast Go.Proofs.YtckonpphagkfeaaGreatDoorW.PrintMore

attribute [local go_sem] max2_int min2_int max_two min_two max_three min_three max_four min_four

theorem ret_u64 {a b : Int} (h : a = b) : Ending.returned (.int .u64 a) = .returned (.int .u64 b) := by rw [h]

theorem abs_calls (n : Int) (w : World) (h0 : -1000000000000000 ≤ n) (h1 : n ≤ 1000000000000000) :
    Calls Tryz.prog 93 #[.int .i64 n] w fun e w' => e = .returned (.int .u64 (n.natAbs : Int)) ∧ w' = w := by
  by_cases hn : n < 0
  · go_enter Tryz.func93, Tryz.ntmps93
    go_wp2
    go_ret
    exact ⟨ret_u64 (by omega), rfl⟩
  · go_enter Tryz.func93, Tryz.ntmps93
    go_wp2
    go_ret
    exact ⟨ret_u64 (by omega), rfl⟩

set_option maxHeartbeats 400000 in
theorem sizes_calls (a b : Int) (w : World) (ha0 : -1000000000000000 ≤ a) (ha1 : a ≤ 1000000000000000) (hb0 : -1000000000000000 ≤ b) (hb1 : b ≤ 1000000000000000) :
    Calls Tryz.prog 76 #[.agg #[.int .i64 a, .int .i64 b]] w fun e w' => e = .returned (.tuple #[.int .u64 (a.natAbs : Int), .int .u64 (b.natAbs : Int), .bool (decide (a < 0) != decide (b < 0))]) ∧ Below w.heap.size w w' := by
  go_enter Tryz.func76, Tryz.ntmps76
  go_wp2
  go_quiet ((go_at_call 93; exact Calls.quiet_of_same (abs_calls _ _ (by assumption) (by assumption))))
  go_wp2
  go_ret3
  exact ⟨rfl, by repeat (first | exact Below.refl _ _ | apply pw_below_drewN | apply below_drew1 | apply below_alloc)⟩
end Go.Proofs.YtckonpphagkfeaaGreatDoor.H
