/- The library functions that package decimal calls, each as one Lean function on bytes with the contract of its call. -/
import Derived.Test.YtckonpphagkfeaaGreatDoorHGl
import Derived.Test.YtckonpphagkfeaaGreatDoorHShelf
import Derived.Test.YtckonpphagkfeaaGreatDoorWWords
import Derived.Lib.SlTrimSet
namespace Go.Proofs.YtckonpphagkfeaaGreatDoor.H
open Go.RowKit Go.Proofs.YtckonpphagkfeaaGreatDoorW.PrintWords

/-- The decimal digits of u, by a number of rounds. -/
def dec : Nat → Nat → List UInt8
  | 0, _ => []
  | k + 1, u => if u < 10 then [UInt8.ofNat (48 + u)] else dec k (u / 10) ++ [UInt8.ofNat (48 + u % 10)]

theorem dec_eq : ∀ (k u : Nat), u < 10 ^ k → dec k u = if k = 0 then [] else Lib.decDigits u
  | 0, u, h => by simp [dec]
  | k + 1, u, h => by
    rw [Lib.decDigits]
    by_cases h10 : u < 10
    · simp [dec, h10]
    · have hk : k ≠ 0 := by
        rintro rfl
        simp at h; omega
      have hu : u / 10 < 10 ^ k := by
        rw [Nat.pow_succ] at h
        omega
      simp [dec, h10, dec_eq k (u / 10) hu, hk]

/-- The decimal text of a whole number. -/
def itoa (n : Int) : List UInt8 := if n < 0 then 45 :: dec 20 n.natAbs else dec 20 n.toNat

theorem itoa_eq (n : Int) (h0 : -9223372036854775808 ≤ n) (h1 : n ≤ 9223372036854775807) : itoa n = Lib.itoa n := by
  have e : ∀ u : Nat, u ≤ 9223372036854775808 → dec 20 u = Lib.decDigits u := fun u hu => by
    have := dec_eq 20 u (Nat.lt_of_le_of_lt hu (by decide))
    simpa using this
  unfold itoa Lib.itoa
  by_cases hn : n < 0
  · rw [if_pos hn, if_pos hn, e _ (by omega)]
  · rw [if_neg hn, if_neg hn, e _ (by omega)]

def strconv_Itoa.f (a0 : Int) : Option (ByteArray) := if -9223372036854775808 ≤ a0 ∧ a0 ≤ 9223372036854775807 then some ⟨(itoa a0).toArray⟩ else none

theorem grow_below (w : World) (k : Nat) (os : Array Obj) : Below w.heap.size w (Go.Sort.grow (w.drewN k) os) := by
  have h0 : Below w.heap.size w (w.drewN k) := ((Drawn0.refl w).step k).below
  refine h0.trans ?_
  refine ⟨rfl, rfl, rfl, ?_, ?_⟩
  · simp [Go.Sort.grow]
  · intro i hi
    have hz : i < (w.drewN k).heap.size := Nat.lt_of_lt_of_le hi h0.size
    simp only [Go.Sort.grow]
    rw [Array.getElem?_append_left hz]

theorem strconv_Itoa.calls (a0 : Int) (r : ByteArray) (w : World) (hgl : Gl w) (h : strconv_Itoa.f a0 = some r) :
    Calls Tryz.prog 43 #[.int .i64 a0] w fun e w' => e = .returned (.string r) ∧ Below w.heap.size w w' := by
  unfold strconv_Itoa.f at h
  split at h
  · rename_i hb
    obtain rfl := Option.some.inj h
    refine (Tryz.strconv_Itoa a0 hb.1 hb.2 w hgl.pow10).mono ?_
    rintro e w' ⟨rfl, k, os, rfl⟩
    exact ⟨by rw [itoa_eq a0 hb.1 hb.2], grow_below w k os⟩
  · cases h

def strings_Repeat.f (a0 : ByteArray) (a1 : Int) : Option (ByteArray) := if 0 ≤ a1 ∧ a1 ≤ 64 ∧ a0.size ≤ 64 then some ⟨(Lib.repeatL a0.data.toList a1.toNat).toArray⟩ else none

theorem strings_Repeat.calls (a0 : ByteArray) (a1 : Int) (r : ByteArray) (w : World) (h : strings_Repeat.f a0 a1 = some r) :
    Calls Tryz.prog 44 #[.string a0, .int .i64 a1] w fun e w' => e = .returned (.string r) ∧ Below w.heap.size w w' := by
  unfold strings_Repeat.f at h
  split at h
  · rename_i hb
    obtain rfl := Option.some.inj h
    obtain ⟨c, rfl⟩ : ∃ c : Nat, a1 = c := ⟨a1.toNat, by omega⟩
    have hm : a0.size * c ≤ 64 * 64 := Nat.mul_le_mul hb.2.2 (by omega)
    refine (Tryz.strings_Repeat a0 c w (by omega) (by omega)).mono ?_
    rintro e w' ⟨rfl, hw⟩
    exact ⟨rfl, hw⟩
  · cases h

def strings_TrimRight.f (a0 : ByteArray) (a1 : ByteArray) : Option (ByteArray) := if a0.size ≤ 9223372036854775807 ∧ a1.data.toList = [48] then some ⟨(Lib.trimRightB a0.data.toList 48).toArray⟩ else none

theorem strings_TrimRight.calls (a0 : ByteArray) (a1 : ByteArray) (r : ByteArray) (w : World) (h : strings_TrimRight.f a0 a1 = some r) :
    Calls Tryz.prog 45 #[.string a0, .string a1] w fun e w' => e = .returned (.string r) ∧ Drawn0 w w' := by
  unfold strings_TrimRight.f at h
  split at h
  · rename_i hb
    obtain rfl := Option.some.inj h
    obtain ⟨⟨l⟩⟩ := a1
    obtain rfl : l = [48] := hb.2
    refine (Tryz.strings_TrimRight_one a0 48 (by decide) w hb.1).mono ?_
    rintro e w' ⟨rfl, rfl⟩
    exact ⟨rfl, Drawn0.refl _⟩
  · cases h
end Go.Proofs.YtckonpphagkfeaaGreatDoor.H
