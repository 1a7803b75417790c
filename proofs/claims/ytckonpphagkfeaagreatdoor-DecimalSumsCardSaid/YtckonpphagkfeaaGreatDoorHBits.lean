/- math/bits.Len64 and math/bits.Mul64 as Lean functions, with the contracts of their calls. -/
import Derived.Test.YtckonpphagkfeaaGreatDoorHLib
namespace Go.Proofs.YtckonpphagkfeaaGreatDoor.H
open Go.RowKit Go.Proofs.YtckonpphagkfeaaGreatDoorW.PrintWords

def bits_Len64.f (a0 : Int) : Option Int := if 0 ≤ a0 ∧ a0 ≤ 18446744073709551615 then some (Lib.bitLen a0.toNat) else none
theorem bits_Len64.calls (a0 r : Int) (w : World) (h : bits_Len64.f a0 = some r) :
    Calls Tryz.prog 112 #[.int .u64 a0] w fun e w' => e = .returned (.int .i64 r) ∧ Drawn0 w w' := by
  unfold bits_Len64.f at h
  split at h
  · rename_i hb
    obtain rfl := Option.some.inj h
    refine (Tryz.bits_Len64 a0 w hb.1 hb.2).mono ?_
    rintro e w' ⟨rfl, rfl⟩
    exact ⟨rfl, Drawn0.refl _⟩
  · cases h

/-- The greatest uint64 and one. -/
def two64 : Int := 18446744073709551616
def bits_Mul64.f (a0 a1 : Int) : Option (Int × Int) := if 0 ≤ a0 ∧ a0 < two64 ∧ 0 ≤ a1 ∧ a1 < two64 then some (a0 * a1 / two64, a0 * a1 % two64) else none
theorem bits_Mul64.calls (a0 a1 r1 r2 : Int) (w : World) (h : bits_Mul64.f a0 a1 = some (r1, r2)) :
    Calls Tryz.prog 77 #[.int .u64 a0, .int .u64 a1] w fun e w' => e = .returned (.tuple #[.int .u64 r1, .int .u64 r2]) ∧ Drawn0 w w' := by
  unfold bits_Mul64.f at h
  split at h
  · rename_i hb
    unfold two64 at hb h
    obtain ⟨x, rfl⟩ : ∃ x : Nat, a0 = x := ⟨a0.toNat, by omega⟩
    obtain ⟨y, rfl⟩ : ∃ y : Nat, a1 = y := ⟨a1.toNat, by omega⟩
    simp only [Option.some.injEq, Prod.mk.injEq] at h
    obtain ⟨rfl, rfl⟩ := h
    refine (Tryz.bits_Mul64 x y (by omega) (by omega) w).mono ?_
    rintro e w' ⟨rfl, rfl⟩
    have e : ((x * y : Nat) : Int) = (x : Int) * (y : Int) := Int.natCast_mul x y
    rw [← e]
    generalize x * y = p
    have e1 : ((p / 18446744073709551616 : Nat) : Int) = (p : Int) / 18446744073709551616 := by omega
    have e2 : ((p % 18446744073709551616 : Nat) : Int) = (p : Int) % 18446744073709551616 := by omega
    rw [e1, e2]
    exact ⟨rfl, Drawn0.refl _⟩
  · cases h
end Go.Proofs.YtckonpphagkfeaaGreatDoor.H
