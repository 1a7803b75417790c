/- Texts of this claim, bound together: what the functions that it reaches compute, with the contracts of their calls (Gx2, Gx3, Gx4, PRef, PAny, HTop, HPutA, HPutB, HPutC, HPutD, HPutE, HPutF, HPutG, HPutH, HAnyL, HValT, HSortS, HSort, HAttrs, HAttrsA, HOfR). -/
import Derived.WalkLawsBesides
import Derived.Defers
import Derived.Recover
import Derived.Tactics2
import Derived.Shelf.Strings.Builder1
import Derived.Shelf.Strings.Builder2
import Derived.Shelf.Strings.Trim
import Derived.Shelf.Small.Utf8
import Derived.Shelf.Small.Strs
import Derived.Shelf.Small.Wraps
import Derived.Shelf.Strings.BuilderF
import Derived.Shelf.Strconv.Atoi
import Derived.Shelf.Strconv.Itoa0
import Derived.Shelf.Strconv.Itoa1
import Derived.Shelf.LaysM
import Derived.Shelf.Strconv.Itoa2
import Derived.Shelf.Strconv.Itoa3
import Derived.Shelf.Strconv.AtoiErrFast
import Derived.Shelf.Strconv.ParseIntEmpty
import Derived.Shelf.Strconv.AtoiFail
import Derived.Shelf.Strconv.Clone
import Derived.Shelf.Strconv.SyntaxError
import Derived.Shelf.LaysC
import Derived.Shelf.Strconv.ToError
import Derived.Shelf.Strconv.Lower
import Derived.Shelf.Strconv.ParseUint10
import Derived.Shelf.Strconv.ParseUint10Empty
import Derived.Shelf.Strconv.ParseUint10Any
import Derived.Shelf.Strconv.ParseInt10
import Derived.Shelf.Strconv.AtoiLong
import Derived.Shelf.Strconv.AtoiInnerAll
import Derived.Shelf.Strconv.RangeError
import Derived.Shelf.Strconv.ToErrorRange
import Derived.Shelf.Strconv.AtoiAll
import Derived.Shelf.Strconv.ErrVarAll
import Derived.Shelf.Strings.Search1
import Derived.Shelf.Strings.Search2
import Derived.Shelf.Strings.Search3
import Derived.Shelf.Strings.Cut
import Derived.Shelf.Strings.Shaped
import Derived.Shelf.Sort.Plain
import Derived.Shelf.Strings.Prefix
import Derived.Shelf.Strings.Runes
import Derived.Shelf.Strings.AsciiSet
import Derived.Shelf.Bits.Mul64
import Derived.Shelf.Strings.Repeat
import Derived.Shelf.Unicode.DecodeSlow
import Derived.Ground.Names2Prog
import Derived.Shelf.Slices.CompactI
import Derived.Shelf.Slices.In.SortNone
import Derived.Test.YtmebkjdknhknbaaGreatDoorProg
import Derived.Sort.OwnSortedInts
import Derived.Lib.OwnBridge
import Derived.Test.YtmebkjdknhknbaaGreatDoorJ3
set_option linter.unusedVariables false
set_option linter.unusedSimpArgs false
set_option linter.unusedSectionVars false
set_option maxHeartbeats 16000000
set_option maxRecDepth 100000
open Go.Proofs.YtmebkjdknhknbaaGreatDoorW.PrintWords Go.Proofs.YtmebkjdknhknbaaGreatDoorW.PrintLast Go.Proofs.YtmebkjdknhknbaaGreatDoorW.PrintMore
namespace Go.Proofs.YtmebkjdknhknbaaGreatDoor.G
section
open Go.RowKit YtmebkjdknhknbaaGreatDoor.H
attribute [local go_sem] max2_int min2_int max_two min_two max_three min_three max_four min_four   -- for this text's walks alone
attribute [local go_sem high] eqA39
def chapmanref16_In.l0 : Nat → List Int → Int → Int → Option (Bool)
 | 0, _, _, _ => none
 | k + 1, x0, x1, x5 => if x5 < (x0.length : Int) then (if 0 ≤ x5 then (if (rd x0 x5) = x1 then (some true) else (chapmanref16_In.l0 k x0 x1 (wrap64 (x5 + 1)))) else (none)) else (some false)
def chapmanref16_In.f (k : Nat) (l0 : List Int) (a1 : Int) : Option (Bool) := chapmanref16_In.l0 k l0 a1 0
theorem chapmanref16_In.calls (k : Nat) (A0 : Option Addr) (c0 : Nat) (l0 : List Int) (a1 : Int) (r : Bool) (w : World) (hr0 : Kd.C (Kd.int .i64) w A0 l0.length l0) (hc0 : l0.length ≤ c0) (h : chapmanref16_In.f k l0 a1 = some r) :
  Calls Tryz.prog 19 #[.slice A0 l0.length c0, .int .i64 a1] w fun e w' => e = .returned (.bool r) ∧ yR w w' := by
 have HR0 := yC.mk hr0
 have HC0 := yC.mk hc0
 clear hr0 hc0
 have H : (chapmanref16_In.l0 k l0 a1 0) = some r := h
 clear h
 have H' := yC.mk H
 clear H
 go_enter Tryz.func19, Tryz.ntmps19
 go_wp2
 go_loopg [5] k (fun kq v5 w' => ∃ (x5_1 : Int), v5 = .int .i64 x5_1 ∧ yC (chapmanref16_In.l0 kq l0 a1 x5_1 = some r) ∧ yC (kq ≤ k) ∧ yR w w')
 case atStart => exact ⟨(0), (by first | rfl | (simp; done) | (simp [*]; done)), H', ⟨Nat.le_refl _⟩, by repeat (first | exact yR.refl _ | apply yR.step)⟩
 case round =>
  clear H'
  try clear c1
  try clear p2
  obtain ⟨x5_1, rfl, HA, HK1, ⟨m1, rfl⟩⟩ := hrel
  cases gk with
  | zero => exact absurd HA.out (by simp [chapmanref16_In.l0])
  | succ k1 =>
   have H := HA.out
   clear HA
   simp only [chapmanref16_In.l0] at H
   by_cases c3 : x5_1 < (l0.length : Int)
   ·rw [if_pos c3] at H
    have c3b0 : decide (x5_1 < (l0.length : Int)) = true := decide_eq_true c3
    clear c3
    by_cases c4 : 0 ≤ x5_1
    ·rw [if_pos c4] at H
     have c4b0 : decide (0 ≤ x5_1) = true := decide_eq_true c4
     clear c4
     by_cases c5 : (rd l0 x5_1) = a1
     ·rw [if_pos c5] at H
      have c5b0 : ((rd l0 x5_1) == a1) = true := beq_iff_eq.mpr c5
      have c5b1 : ((rd l0 x5_1) != a1) = false := bne_eq_false_iff_eq.mpr c5
      clear c5
      obtain rfl := Option.some.inj H
      have p101 : 0 ≤ (x5_1 : Int) := of_decide_eq_true (by first | (with_reducible assumption) | assumption)
      have q101 : x5_1 < (l0.length : Int) := of_decide_eq_true (by first | (with_reducible assumption) | assumption)
      obtain ⟨ad101, e101, hx101_0⟩ := Kd.at_int HR0.out x5_1 p101 q101
      cases e101
      replace p101 := eq_true p101
      replace q101 := eq_true q101
      go_wp2
      go_ret
      exact ⟨by first | rfl | (simp; done) | (simp [*]; done), by repeat (first | exact yR.refl _ | apply yR.step)⟩
     ·rw [if_neg c5] at H
      have c5b0 : ((rd l0 x5_1) == a1) = false := beq_eq_false_iff_ne.mpr c5
      have c5b1 : ((rd l0 x5_1) != a1) = true := bne_iff_ne.mpr c5
      have H' := yC.mk H
      clear H
      have p101 : 0 ≤ (x5_1 : Int) := of_decide_eq_true (by first | (with_reducible assumption) | assumption)
      have q101 : x5_1 < (l0.length : Int) := of_decide_eq_true (by first | (with_reducible assumption) | assumption)
      obtain ⟨ad101, e101, hx101_0⟩ := Kd.at_int HR0.out x5_1 p101 q101
      cases e101
      replace p101 := eq_true p101
      replace q101 := eq_true q101
      go_wp2
      go_roundg k1
      case measure => have := HK1.out; omega
      case rel => exact ⟨(wrap64 (x5_1 + 1)), (by first | rfl | (simp; done) | (simp [*]; done)), H', ⟨by have := HK1.out; omega⟩, by repeat (first | exact yR.refl _ | apply yR.step)⟩
    ·rw [if_neg c4] at H
     exact absurd H (by simp)
   ·rw [if_neg c3] at H
    have c3b0 : decide (x5_1 < (l0.length : Int)) = false := decide_eq_false c3
    clear c3
    obtain rfl := Option.some.inj H
    go_wp2
    go_ret
    exact ⟨by first | rfl | (simp; done) | (simp [*]; done), by repeat (first | exact yR.refl _ | apply yR.step)⟩
def chapmanref16_Same.l0 : Nat → List (S39) → List (S39) → Int → Option (Bool)
 | 0, _, _, _ => none
 | k + 1, x0, x1, x5 => if x5 < (x0.length : Int) then (if 0 ≤ x5 then (if x5 < (x1.length : Int) then (if (!(((yP x0 x5).f0) == ((yP x1 x5).f0)) || (!(((yP x0 x5).f1) == ((yP x1 x5).f1)) || (!((((yP x0 x5).f2).toList) == (((yP x1 x5).f2).toList))))) = true then (some false) else (chapmanref16_Same.l0 k x0 x1 (wrap64 (x5 + 1)))) else (none)) else (none)) else (some true)
def chapmanref16_Same.f (k : Nat) (l0 : List (S39)) (l1 : List (S39)) : Option (Bool) := if (l0.length : Int) = (l1.length : Int) then (chapmanref16_Same.l0 k l0 l1 0) else (some false)
theorem chapmanref16_Same.calls (k : Nat) (A0 : Option Addr) (c0 : Nat) (l0 : List (S39)) (A1 : Option Addr) (c1 : Nat) (l1 : List (S39)) (r : Bool) (w : World) (hr0 : Kd.C k39 w A0 l0.length l0) (hc0 : l0.length ≤ c0) (hr1 : Kd.C k39 w A1 l1.length l1) (hc1 : l1.length ≤ c1) (h : chapmanref16_Same.f k l0 l1 = some r) :
  Calls Tryz.prog 13 #[.slice A0 l0.length c0, .slice A1 l1.length c1] w fun e w' => e = .returned (.bool r) ∧ yR w w' := by
 have hu39 := Tryz.underlying39
 have HR0 := yC.mk hr0
 have HC0 := yC.mk hc0
 clear hr0 hc0
 have HR1 := yC.mk hr1
 have HC1 := yC.mk hc1
 clear hr1 hc1
 have H : (if (l0.length : Int) = (l1.length : Int) then (chapmanref16_Same.l0 k l0 l1 0) else (some false)) = some r := h
 clear h
 by_cases c3 : (l0.length : Int) = (l1.length : Int)
 ·rw [if_pos c3] at H
  have c3b0 : ((l0.length : Int) == (l1.length : Int)) = true := beq_iff_eq.mpr c3
  have c3b1 : ((l0.length : Int) != (l1.length : Int)) = false := bne_eq_false_iff_eq.mpr c3
  have c3b2 : (l0.length == l1.length) = true := by first | simpa using c3 | (simp at c3 ⊢; omega)
  clear c3
  have H' := yC.mk H
  clear H
  go_enter Tryz.func13, Tryz.ntmps13
  go_wp2
  repeat (go_quiet (fail); try go_wp2)
  go_loopg [5] k (fun kq v5 w' => ∃ (x5_1 : Int), v5 = .int .i64 x5_1 ∧ yC (chapmanref16_Same.l0 kq l0 l1 x5_1 = some r) ∧ yC (kq ≤ k) ∧ yR w w')
  case atStart => exact ⟨(0), (by first | rfl | (simp; done) | (simp [*]; done)), H', ⟨Nat.le_refl _⟩, by repeat (first | exact yR.refl _ | apply yR.step)⟩
  case round =>
   clear H'
   try clear c1
   try clear p2
   try clear c3
   try clear c3b0
   try clear c3b1
   try clear c3b2
   obtain ⟨x5_1, rfl, HA, HK1, ⟨m1, rfl⟩⟩ := hrel
   cases gk with
   | zero => exact absurd HA.out (by simp [chapmanref16_Same.l0])
   | succ k1 =>
    have H := HA.out
    clear HA
    simp only [chapmanref16_Same.l0] at H
    by_cases c4 : x5_1 < (l0.length : Int)
    ·rw [if_pos c4] at H
     have c4b0 : decide (x5_1 < (l0.length : Int)) = true := decide_eq_true c4
     clear c4
     by_cases c5 : 0 ≤ x5_1
     ·rw [if_pos c5] at H
      have c5b0 : decide (0 ≤ x5_1) = true := decide_eq_true c5
      clear c5
      by_cases c6 : x5_1 < (l1.length : Int)
      ·rw [if_pos c6] at H
       have c6b0 : decide (x5_1 < (l1.length : Int)) = true := decide_eq_true c6
       clear c6
       by_cases c7 : (!(((yP l0 x5_1).f0) == ((yP l1 x5_1).f0)) || (!(((yP l0 x5_1).f1) == ((yP l1 x5_1).f1)) || (!((((yP l0 x5_1).f2).toList) == (((yP l1 x5_1).f2).toList))))) = true
       ·rw [if_pos c7] at H
        have c7b0 : (!(((yP l0 x5_1).f0) == ((yP l1 x5_1).f0)) || (!(((yP l0 x5_1).f1) == ((yP l1 x5_1).f1)) || (!((((yP l0 x5_1).f2).toList) == (((yP l1 x5_1).f2).toList))))) = true := c7
        clear c7
        obtain rfl := Option.some.inj H
        have p102 : 0 ≤ (x5_1 : Int) := of_decide_eq_true (by first | (with_reducible assumption) | assumption)
        have q102 : x5_1 < (l0.length : Int) := of_decide_eq_true (by first | (with_reducible assumption) | assumption)
        obtain ⟨ad102, e102, hx102_0, hx102_1, hx102_2⟩ := at_T39 HR0.out x5_1 p102 q102
        cases e102
        replace p102 := eq_true p102
        replace q102 := eq_true q102
        have p103 : 0 ≤ (x5_1 : Int) := of_decide_eq_true (by first | (with_reducible assumption) | assumption)
        have q103 : x5_1 < (l1.length : Int) := of_decide_eq_true (by first | (with_reducible assumption) | assumption)
        obtain ⟨ad103, e103, hx103_0, hx103_1, hx103_2⟩ := at_T39 HR1.out x5_1 p103 q103
        cases e103
        replace p103 := eq_true p103
        replace q103 := eq_true q103
        go_wp2
        repeat (go_quiet (fail); try go_wp2)
        go_ret
        exact ⟨by first | rfl | (simp; done) | (simp [*]; done), by repeat (first | exact yR.refl _ | apply yR.step)⟩
       ·rw [if_neg c7] at H
        have c7b0 : (!(((yP l0 x5_1).f0) == ((yP l1 x5_1).f0)) || (!(((yP l0 x5_1).f1) == ((yP l1 x5_1).f1)) || (!((((yP l0 x5_1).f2).toList) == (((yP l1 x5_1).f2).toList))))) = false := by simpa using c7
        clear c7
        have H' := yC.mk H
        clear H
        have p102 : 0 ≤ (x5_1 : Int) := of_decide_eq_true (by first | (with_reducible assumption) | assumption)
        have q102 : x5_1 < (l0.length : Int) := of_decide_eq_true (by first | (with_reducible assumption) | assumption)
        obtain ⟨ad102, e102, hx102_0, hx102_1, hx102_2⟩ := at_T39 HR0.out x5_1 p102 q102
        cases e102
        replace p102 := eq_true p102
        replace q102 := eq_true q102
        have p103 : 0 ≤ (x5_1 : Int) := of_decide_eq_true (by first | (with_reducible assumption) | assumption)
        have q103 : x5_1 < (l1.length : Int) := of_decide_eq_true (by first | (with_reducible assumption) | assumption)
        obtain ⟨ad103, e103, hx103_0, hx103_1, hx103_2⟩ := at_T39 HR1.out x5_1 p103 q103
        cases e103
        replace p103 := eq_true p103
        replace q103 := eq_true q103
        go_wp2
        repeat (go_quiet (fail); try go_wp2)
        go_roundg k1
        case measure => have := HK1.out; omega
        case rel => exact ⟨(wrap64 (x5_1 + 1)), (by first | rfl | (simp; done) | (simp [*]; done)), H', ⟨by have := HK1.out; omega⟩, by repeat (first | exact yR.refl _ | apply yR.step)⟩
      ·rw [if_neg c6] at H
       exact absurd H (by simp)
     ·rw [if_neg c5] at H
      exact absurd H (by simp)
    ·rw [if_neg c4] at H
     have c4b0 : decide (x5_1 < (l0.length : Int)) = false := decide_eq_false c4
     clear c4
     obtain rfl := Option.some.inj H
     go_wp2
     repeat (go_quiet (fail); try go_wp2)
     go_ret
     exact ⟨by first | rfl | (simp; done) | (simp [*]; done), by repeat (first | exact yR.refl _ | apply yR.step)⟩
 ·rw [if_neg c3] at H
  have c3b0 : ((l0.length : Int) == (l1.length : Int)) = false := beq_eq_false_iff_ne.mpr c3
  have c3b1 : ((l0.length : Int) != (l1.length : Int)) = true := bne_iff_ne.mpr c3
  have c3b2 : (l0.length == l1.length) = false := by first | simpa using c3 | (simp at c3 ⊢; omega)
  obtain rfl := Option.some.inj H
  go_enter Tryz.func13, Tryz.ntmps13
  go_wp2
  repeat (go_quiet (fail); try go_wp2)
  go_ret
  exact ⟨by first | rfl | (simp; done) | (simp [*]; done), by repeat (first | exact yR.refl _ | apply yR.step)⟩
def chapmanref16_Texted.f (a0 : ByteArray) : Option (Int × Int × ByteArray) := some (3, 0, a0)
theorem chapmanref16_Texted.calls (a0 : ByteArray) (r1 : Int) (r2 : Int) (r3 : ByteArray) (w : World) (h : chapmanref16_Texted.f a0 = some (r1, r2, r3)) :
  Calls Tryz.prog 29 #[.string a0] w fun e w' => e = .returned (.agg #[.int .i64 r1, .int .i64 r2, .string r3]) ∧ Below w.heap.size w w' := by
 have hu39 := Tryz.underlying39
 have HB := yC.mk (Below.refl w.heap.size w)
 have H : (some (3, 0, a0)) = some (r1, r2, r3) := h
 clear h
 simp only [Option.some.injEq, Prod.mk.injEq] at H
 obtain ⟨rfl, rfl, rfl⟩ := H
 go_enter Tryz.func29, Tryz.ntmps29
 go_wp2_with (first | ((with_reducible refine yK (N := 2) rfl ?_); refine xF ?hg (N := 2) ?hd (cs := #[.int .i64 0, .int .i64 0, .string (⟨#[]⟩ : ByteArray)]) (t := 39) ?hr ?_; (case hd | hg => rfl); (case hr => go_simp; try rfl); intro gb104 hg w2 hbox hb; have n0_ := yC.mk (yD (hbw) hb); have n1_ := yC.mk (hbox); have n2_ := yC.mk ((by rw [hg]; exact (yU (hbw)) : w.heap.size ≤ gb104)); have n3_ := yC.mk ((by rw [hg]; exact (yU (hbw)) : w.heap.size ≤ gb104)); clear HB; have HB := n0_; have BK104 := n1_; have GW104 := n2_; have GE104 := n3_; clear n0_ n1_ n2_ n3_; clear hb hbox hg; have hcz3_0 : w2.cell? ⟨gb104, 0, none⟩ = some (.int .i64 0) := (yO BK104.out 0).trans rfl; have hcz3_1 : w2.cell? ⟨gb104, 1, none⟩ = some (.int .i64 0) := (yO BK104.out 1).trans rfl; have hcz3_2 : w2.cell? ⟨gb104, 2, none⟩ = some (.string (⟨#[]⟩ : ByteArray)) := (yO BK104.out 2).trans rfl; have hfz3_0 := yN BK104.out 0; have hfz3_1 := yN BK104.out 1; have hfz3_2 := yN BK104.out 2))
 refine bodyPost_ret (results_cell_row rfl _ _ gb104 39 #[.int .i64 3, .int .i64 0, .string a0] (0, 0) _ rfl (by (with_reducible repeat (first | refine blk_drewN ?_ _ | refine blk_drew ?_ | refine blk_alloc ?_ _)); refine blk_put (cs := #[.int .i64 3, .int .i64 0, .string (⟨#[]⟩ : ByteArray)]) ?_ 2 _ rfl; (with_reducible repeat (first | refine blk_drewN ?_ _ | refine blk_drew ?_ | refine blk_alloc ?_ _)); refine blk_put (cs := #[.int .i64 3, .int .i64 0, .string (⟨#[]⟩ : ByteArray)]) ?_ 1 _ rfl; (with_reducible repeat (first | refine blk_drewN ?_ _ | refine blk_drew ?_ | refine blk_alloc ?_ _)); refine blk_put (cs := #[.int .i64 0, .int .i64 0, .string (⟨#[]⟩ : ByteArray)]) ?_ 0 _ rfl; (with_reducible repeat (first | refine blk_drewN ?_ _ | refine blk_drew ?_ | refine blk_alloc ?_ _)); exact BK104.out) Tryz.underlying39 rfl (by kernel_rfl)) rfl ?_
 exact ⟨by first | rfl | (simp [yS, yT] <;> rfl) | (simp [*, yS, yT] <;> rfl), by repeat (first | (with_reducible first | exact HB.out | apply yF | apply yE | apply yG | refine xA ?_ GE104.out) | exact HB.out)⟩
mutual
def chapmanref16_word.l0 : Nat → Int → Int → ByteArray → Int → Option (ByteArray)
 | 0, _, _, _, _ => none
 | k + 1, x0, x1, x5, x6 => if x6 < (Int.tmod x0 8) then ((some (([(⟨#[97]⟩ : ByteArray), (⟨#[98]⟩ : ByteArray), (⟨#[32]⟩ : ByteArray), (⟨#[44]⟩ : ByteArray), (⟨#[49]⟩ : ByteArray), (⟨#[46, 53]⟩ : ByteArray), (⟨#[45]⟩ : ByteArray), (⟨#[32, 97]⟩ : ByteArray)] : List ByteArray) : List ByteArray)).bind fun y105 => (if 0 ≤ (Int.tmod (wrap64 ((wrap64 (Int.tdiv x0 8)) + (wrap64 (x1 * (wrap64 (x6 + 1)))))) 8) then (if (Int.tmod (wrap64 ((wrap64 (Int.tdiv x0 8)) + (wrap64 (x1 * (wrap64 (x6 + 1)))))) 8) < (y105.length : Int) then (if x5.size + (rdOf ByteArray.empty y105 (Int.tmod (wrap64 ((wrap64 (Int.tdiv x0 8)) + (wrap64 (x1 * (wrap64 (x6 + 1)))))) 8)).size ≤ 9223372036854775807 then (chapmanref16_word.l0 k x0 x1 (x5 ++ (rdOf ByteArray.empty y105 (Int.tmod (wrap64 ((wrap64 (Int.tdiv x0 8)) + (wrap64 (x1 * (wrap64 (x6 + 1)))))) 8))) (wrap64 (x6 + 1))) else (none)) else (none)) else (none))) else (chapmanref16_word.l1 k x0 x5)
def chapmanref16_word.l1 : Nat → Int → ByteArray → Option (ByteArray)
 | 0, _, _ => none
 | k + 1, x0, x5 => if (Int.tmod x0 32) = 31 then (if (x5.size : Int) < 40 then (if x5.size + 1 ≤ 9223372036854775807 then (chapmanref16_word.l1 k x0 (x5 ++ (⟨#[122]⟩ : ByteArray))) else (none)) else (if 0 ≤ (mn (x5.size : Int) 40) then (if (mn (x5.size : Int) 40) ≤ (x5.size : Int) then (some (x5.extract 0 ((mn (x5.size : Int) 40) : Int).toNat)) else (none)) else (none))) else (if 0 ≤ (mn (x5.size : Int) 40) then (if (mn (x5.size : Int) 40) ≤ (x5.size : Int) then (some (x5.extract 0 ((mn (x5.size : Int) 40) : Int).toNat)) else (none)) else (none))
end
def chapmanref16_word.f (k : Nat) (a0 : Int) (a1 : Int) : Option (ByteArray) := chapmanref16_word.l0 k a0 a1 (⟨#[]⟩ : ByteArray) 0
theorem chapmanref16_word.calls (k : Nat) (a0 : Int) (a1 : Int) (r : ByteArray) (w : World) (h : chapmanref16_word.f k a0 a1 = some r) :
  Calls Tryz.prog 39 #[.int .i64 a0, .int .i64 a1] w fun e w' => e = .returned (.string r) ∧ Below w.heap.size w w' := by
 have HB := yC.mk (Below.refl w.heap.size w)
 have H : (chapmanref16_word.l0 k a0 a1 (⟨#[]⟩ : ByteArray) 0) = some r := h
 clear h
 have H' := yC.mk H
 clear H
 go_enter Tryz.func39, Tryz.ntmps39
 go_wp2
 go_loopg [5, 6] k (fun kq v5 v6 w' => ∃ (x5_1 : ByteArray) (x6_1 : Int), v5 = .string x5_1 ∧ v6 = .int .i64 x6_1 ∧ yC (chapmanref16_word.l0 kq a0 a1 x5_1 x6_1 = some r) ∧ yC (kq ≤ k) ∧ yC (Below w.heap.size w w'))
 case atStart => exact ⟨((⟨#[]⟩ : ByteArray)), (0), (by first | rfl | (simp; done) | (simp [*]; done)), (by first | rfl | (simp; done) | (simp [*]; done)), H', ⟨Nat.le_refl _⟩, ⟨hbw⟩⟩
 case round =>
  clear H'
  try clear p2
  obtain ⟨x5_1, x6_1, rfl, rfl, HA, HK1, HB⟩ := hrel
  cases gk with
  | zero => exact absurd HA.out (by simp [chapmanref16_word.l0])
  | succ k1 =>
   have H := HA.out
   clear HA
   simp only [chapmanref16_word.l0] at H
   by_cases c3 : x6_1 < (Int.tmod a0 8)
   ·rw [if_pos c3] at H
    have c3b0 : decide (x6_1 < (Int.tmod a0 8)) = true := decide_eq_true c3
    clear c3
    obtain ⟨y105, hy105⟩ : ∃ y_ : List ByteArray, y_ = (([(⟨#[97]⟩ : ByteArray), (⟨#[98]⟩ : ByteArray), (⟨#[32]⟩ : ByteArray), (⟨#[44]⟩ : ByteArray), (⟨#[49]⟩ : ByteArray), (⟨#[46, 53]⟩ : ByteArray), (⟨#[45]⟩ : ByteArray), (⟨#[32, 97]⟩ : ByteArray)] : List ByteArray)) := ⟨_, rfl⟩
    replace H : (if 0 ≤ (Int.tmod (wrap64 ((wrap64 (Int.tdiv a0 8)) + (wrap64 (a1 * (wrap64 (x6_1 + 1)))))) 8) then (if (Int.tmod (wrap64 ((wrap64 (Int.tdiv a0 8)) + (wrap64 (a1 * (wrap64 (x6_1 + 1)))))) 8) < (y105.length : Int) then (if x5_1.size + (rdOf ByteArray.empty y105 (Int.tmod (wrap64 ((wrap64 (Int.tdiv a0 8)) + (wrap64 (a1 * (wrap64 (x6_1 + 1)))))) 8)).size ≤ 9223372036854775807 then (chapmanref16_word.l0 k1 a0 a1 (x5_1 ++ (rdOf ByteArray.empty y105 (Int.tmod (wrap64 ((wrap64 (Int.tdiv a0 8)) + (wrap64 (a1 * (wrap64 (x6_1 + 1)))))) 8))) (wrap64 (x6_1 + 1))) else (none)) else (none)) else (none)) = some r := by first | (rw [hy105]; with_reducible exact H) | (have H2_ := (Option.bind_some _ _).symm.trans H; rw [hy105]; with_reducible exact H2_) | (have H2_ := (Option.bind_some _ _).symm.trans H; with_reducible exact H2_) | with_reducible exact H | (rw [hy105]; exact H) | exact H
    have Ny105 := yC.mk hy105
    clear hy105
    obtain ⟨ji4, hji4⟩ : ∃ j_ : Int, (Int.tmod (wrap64 ((wrap64 (Int.tdiv a0 8)) + (wrap64 (a1 * (wrap64 (x6_1 + 1)))))) 8) = j_ := ⟨_, rfl⟩
    replace H : (if 0 ≤ (ji4) then (if (ji4) < (y105.length : Int) then (if x5_1.size + (rdOf ByteArray.empty y105 (ji4)).size ≤ 9223372036854775807 then (chapmanref16_word.l0 k1 a0 a1 (x5_1 ++ (rdOf ByteArray.empty y105 (ji4))) (wrap64 (x6_1 + 1))) else (none)) else (none)) else (none)) = some r := by first | (rw [hji4] at H; exact H) | (simp only [hji4] at H ⊢; exact H)
    by_cases c5 : 0 ≤ (ji4)
    ·rw [if_pos c5] at H
     have c5b0 : decide (0 ≤ (ji4)) = true := decide_eq_true c5
     clear c5
     by_cases c6 : (ji4) < (y105.length : Int)
     ·rw [if_pos c6] at H
      have c6b0 : decide ((ji4) < (y105.length : Int)) = true := decide_eq_true c6
      clear c6
      by_cases c7 : x5_1.size + (rdOf ByteArray.empty y105 (ji4)).size ≤ 9223372036854775807
      ·rw [if_pos c7] at H
       have c7b0 := eq_true c7
       have c7b1 : decide (x5_1.size + (rdOf ByteArray.empty y105 (ji4)).size ≤ 9223372036854775807) = true := decide_eq_true c7
       try have c7b2 : (9223372036854775807 < x5_1.size + (rdOf ByteArray.empty y105 (ji4)).size) = False := eq_false (Nat.not_lt.2 c7)
       have H' := yC.mk H
       clear H
       go_wp2_with (first | ((with_reducible refine yK (N := 14) rfl ?_); (try (refine gate_guard (by rfl) ?_; dsimp only)); refine Kd.R_lit Kd.string _ 9 ?hg (N := 14) ?hd (xs := ([(⟨#[97]⟩ : ByteArray), (⟨#[98]⟩ : ByteArray), (⟨#[32]⟩ : ByteArray), (⟨#[44]⟩ : ByteArray), (⟨#[49]⟩ : ByteArray), (⟨#[46, 53]⟩ : ByteArray), (⟨#[45]⟩ : ByteArray), (⟨#[32, 97]⟩ : ByteArray)] : List ByteArray)) (inner := [.string (⟨#[97]⟩ : ByteArray), .string (⟨#[98]⟩ : ByteArray), .string (⟨#[32]⟩ : ByteArray), .string (⟨#[44]⟩ : ByteArray), .string (⟨#[49]⟩ : ByteArray), .string (⟨#[46, 53]⟩ : ByteArray), .string (⟨#[45]⟩ : ByteArray), .string (⟨#[32, 97]⟩ : ByteArray)]) (ok := fun _ => True) (okp := fun _ => True) ?hr ?hp (fun _ hk => hk) trivial (Below.refl _ _) (Nat.le_refl _) (by simp) ?_; (case hd | hg => rfl); (case hr => go_simp; try rfl); (case hp => exact (Reps.one (show Kd.M Kd.string _ _ _ (⟨#[97]⟩ : ByteArray) [.string (⟨#[97]⟩ : ByteArray)] from rfl) (Reps.one (show Kd.M Kd.string _ _ _ (⟨#[98]⟩ : ByteArray) [.string (⟨#[98]⟩ : ByteArray)] from rfl) (Reps.one (show Kd.M Kd.string _ _ _ (⟨#[32]⟩ : ByteArray) [.string (⟨#[32]⟩ : ByteArray)] from rfl) (Reps.one (show Kd.M Kd.string _ _ _ (⟨#[44]⟩ : ByteArray) [.string (⟨#[44]⟩ : ByteArray)] from rfl) (Reps.one (show Kd.M Kd.string _ _ _ (⟨#[49]⟩ : ByteArray) [.string (⟨#[49]⟩ : ByteArray)] from rfl) (Reps.one (show Kd.M Kd.string _ _ _ (⟨#[46, 53]⟩ : ByteArray) [.string (⟨#[46, 53]⟩ : ByteArray)] from rfl) (Reps.one (show Kd.M Kd.string _ _ _ (⟨#[45]⟩ : ByteArray) [.string (⟨#[45]⟩ : ByteArray)] from rfl) (Reps.one (show Kd.M Kd.string _ _ _ (⟨#[32, 97]⟩ : ByteArray) [.string (⟨#[32, 97]⟩ : ByteArray)] from rfl) (Reps.none _ _)))))))))); intro v106 w8 ho9 hb hg_ hnew_; clear hg_ hnew_; (first | rw [← Ny105.out] at ho9 | (simp only [Int.reduceToNat] at ho9; rw [← Ny105.out] at ho9)); have n0_ := yC.mk (Kd.xJ ho9 (yU (hbw))); have n1_ := yC.mk (yD (hbw) hb); clear HB; have HO107 := n0_; have HB := n1_; clear n0_ n1_; clear hb ho9; obtain ⟨Ao10, co10, eo10⟩ := Kd.R_slice HO107.out; subst eo10; have p108 : 0 ≤ ((ji4) : Int) := of_decide_eq_true (by first | (with_reducible assumption) | assumption); have q108 : (ji4) < (y105.length : Int) := of_decide_eq_true (by first | (with_reducible assumption) | assumption); obtain ⟨ad108, e108, hx108_0⟩ := Kd.at_string (Kd.R_reads' HO107.out).2.2 (ji4) p108 q108; cases e108; replace p108 := eq_true p108; replace q108 := eq_true q108))
       go_roundg k1
       case measure => have := HK1.out; omega
       case rel => exact ⟨(x5_1 ++ (rdOf ByteArray.empty y105 (ji4))), (wrap64 (x6_1 + 1)), (by first | rfl | (simp; done) | (simp only [← hji4] <;> (first | rfl | simp)) | (simp [*]; done)), (by first | rfl | (simp; done) | (simp [*]; done)), H', ⟨by have := HK1.out; omega⟩, ⟨hbw⟩⟩
      ·rw [if_neg c7] at H
       exact absurd H (by simp)
     ·rw [if_neg c6] at H
      exact absurd H (by simp)
    ·rw [if_neg c5] at H
     exact absurd H (by simp)
   ·rw [if_neg c3] at H
    have c3b0 : decide (x6_1 < (Int.tmod a0 8)) = false := decide_eq_false c3
    clear c3
    have H' := yC.mk H
    clear H
    go_wp2
    go_loopg [5] k1 (fun kq v5 w' => ∃ (x5_2 : ByteArray), v5 = .string x5_2 ∧ yC (chapmanref16_word.l1 kq a0 x5_2 = some r) ∧ yC (kq ≤ k1) ∧ yC (Below w.heap.size w w'))
    case atStart => exact ⟨(x5_1), (by first | rfl | (simp; done) | (simp [*]; done)), H', ⟨Nat.le_refl _⟩, ⟨hbw⟩⟩
    case round =>
     clear H'
     try clear p1
     try clear q1
     try clear hx1
     try clear p2
     try clear c3
     try clear c3b0
     try clear c5
     try clear c5b0
     try clear c6
     try clear c6b0
     try clear p6
     try clear c7
     try clear c7b0
     try clear c7b1
     try clear c7b2
     try clear p10
     try clear q10
     try clear hx10
     try clear hx108_0
     try clear p108
     try clear p2
     try clear q108
     obtain ⟨x5_2, rfl, HA, HK2, HB⟩ := hrel
     cases gk with
     | zero => exact absurd HA.out (by simp [chapmanref16_word.l1])
     | succ k2 =>
      have H := HA.out
      clear HA
      simp only [chapmanref16_word.l1] at H
      by_cases c11 : (Int.tmod a0 32) = 31
      ·rw [if_pos c11] at H
       have c11b0 : ((Int.tmod a0 32) == 31) = true := beq_iff_eq.mpr c11
       have c11b1 : ((Int.tmod a0 32) != 31) = false := bne_eq_false_iff_eq.mpr c11
       clear c11
       by_cases c12 : (x5_2.size : Int) < 40
       ·rw [if_pos c12] at H
        have c12b0 : decide ((x5_2.size : Int) < 40) = true := decide_eq_true c12
        have c12b1 : decide (x5_2.size < 40) = true := decide_eq_true (by omega)
        clear c12
        by_cases c13 : x5_2.size + 1 ≤ 9223372036854775807
        ·rw [if_pos c13] at H
         have c13b0 := eq_true c13
         have c13b1 : decide (x5_2.size + 1 ≤ 9223372036854775807) = true := decide_eq_true c13
         try have c13b2 : (9223372036854775807 < x5_2.size + 1) = False := eq_false (Nat.not_lt.2 c13)
         have H' := yC.mk H
         clear H
         go_wp2
         go_roundg k2
         case measure => have := HK1.out; have := HK2.out; omega
         case rel => exact ⟨(x5_2 ++ (⟨#[122]⟩ : ByteArray)), (by first | rfl | (simp; done) | (simp [*]; done)), H', ⟨by have := HK1.out; have := HK2.out; omega⟩, ⟨hbw⟩⟩
        ·rw [if_neg c13] at H
         exact absurd H (by simp)
       ·rw [if_neg c12] at H
        have c12b0 : decide ((x5_2.size : Int) < 40) = false := decide_eq_false c12
        have c12b1 : decide (x5_2.size < 40) = false := decide_eq_false (by omega)
        clear c12
        obtain ⟨ji14, hji14⟩ : ∃ j_ : Int, (mn (x5_2.size : Int) 40) = j_ := ⟨_, rfl⟩
        replace H : (if 0 ≤ (ji14) then (if (ji14) ≤ (x5_2.size : Int) then (some (x5_2.extract 0 ((ji14) : Int).toNat)) else (none)) else (none)) = some r := by first | (rw [hji14] at H; exact H) | (simp only [hji14] at H ⊢; exact H)
        have hji14_ : (if 40 < (x5_2.size : Int) then 40 else (x5_2.size : Int)) = ji14 := hji14
        by_cases c15 : 0 ≤ (ji14)
        ·rw [if_pos c15] at H
         have c15b0 := eq_true c15
         have c15b1 : decide (0 ≤ (ji14)) = true := decide_eq_true c15
         clear c15
         by_cases c16 : (ji14) ≤ (x5_2.size : Int)
         ·rw [if_pos c16] at H
          have c16b0 := eq_true c16
          have c16b1 : decide ((ji14) ≤ (x5_2.size : Int)) = true := decide_eq_true c16
          clear c16
          obtain rfl := Option.some.inj H
          go_wp2
          go_ret
          exact ⟨by first | rfl | (simp [yS, yT] <;> rfl) | (simp only [← hji14]; first | rfl | (simp [yS, yT] <;> rfl)) | (simp [*, yS, yT] <;> rfl), hbw⟩
         ·rw [if_neg c16] at H
          exact absurd H (by simp)
        ·rw [if_neg c15] at H
         exact absurd H (by simp)
      ·rw [if_neg c11] at H
       have c11b0 : ((Int.tmod a0 32) == 31) = false := beq_eq_false_iff_ne.mpr c11
       have c11b1 : ((Int.tmod a0 32) != 31) = true := bne_iff_ne.mpr c11
       obtain ⟨ji17, hji17⟩ : ∃ j_ : Int, (mn (x5_2.size : Int) 40) = j_ := ⟨_, rfl⟩
       replace H : (if 0 ≤ (ji17) then (if (ji17) ≤ (x5_2.size : Int) then (some (x5_2.extract 0 ((ji17) : Int).toNat)) else (none)) else (none)) = some r := by first | (rw [hji17] at H; exact H) | (simp only [hji17] at H ⊢; exact H)
       have hji17_ : (if 40 < (x5_2.size : Int) then 40 else (x5_2.size : Int)) = ji17 := hji17
       by_cases c18 : 0 ≤ (ji17)
       ·rw [if_pos c18] at H
        have c18b0 := eq_true c18
        have c18b1 : decide (0 ≤ (ji17)) = true := decide_eq_true c18
        clear c18
        by_cases c19 : (ji17) ≤ (x5_2.size : Int)
        ·rw [if_pos c19] at H
         have c19b0 := eq_true c19
         have c19b1 : decide ((ji17) ≤ (x5_2.size : Int)) = true := decide_eq_true c19
         clear c19
         obtain rfl := Option.some.inj H
         go_wp2
         go_ret
         exact ⟨by first | rfl | (simp [yS, yT] <;> rfl) | (simp only [← hji17]; first | rfl | (simp [yS, yT] <;> rfl)) | (simp [*, yS, yT] <;> rfl), hbw⟩
        ·rw [if_neg c19] at H
         exact absurd H (by simp)
       ·rw [if_neg c18] at H
        exact absurd H (by simp)
def chapmanref16_Byte.f (l0 : List Int) (a1 : Int) : Option (Int) := if (l0.length : Int) = 0 then (some 0) else (if 0 ≤ (Int.tmod a1 (l0.length : Int)) then (if (Int.tmod a1 (l0.length : Int)) < (l0.length : Int) then (some (wrap64 (rd l0 (Int.tmod a1 (l0.length : Int))))) else (none)) else (none))
theorem chapmanref16_Byte.calls (A0 : Option Addr) (c0 : Nat) (l0 : List Int) (a1 : Int) (r : Int) (w : World) (hr0 : Kd.C (Kd.int .u8) w A0 l0.length l0) (hc0 : l0.length ≤ c0) (h : chapmanref16_Byte.f l0 a1 = some r) :
  Calls Tryz.prog 36 #[.slice A0 l0.length c0, .int .i64 a1] w fun e w' => e = .returned (.int .i64 r) ∧ yR w w' := by
 have HR0 := yC.mk hr0
 have HC0 := yC.mk hc0
 clear hr0 hc0
 have H : (if (l0.length : Int) = 0 then (some 0) else (if 0 ≤ (Int.tmod a1 (l0.length : Int)) then (if (Int.tmod a1 (l0.length : Int)) < (l0.length : Int) then (some (wrap64 (rd l0 (Int.tmod a1 (l0.length : Int))))) else (none)) else (none))) = some r := h
 clear h
 by_cases c3 : (l0.length : Int) = 0
 ·rw [if_pos c3] at H
  have c3b0 : ((l0.length : Int) == 0) = true := beq_iff_eq.mpr c3
  have c3b1 : ((l0.length : Int) != 0) = false := bne_eq_false_iff_eq.mpr c3
  clear c3
  obtain rfl := Option.some.inj H
  go_enter Tryz.func36, Tryz.ntmps36
  go_wp2
  go_ret
  exact ⟨by first | rfl | (simp; done) | (simp [*]; done), by repeat (first | exact yR.refl _ | apply yR.step)⟩
 ·rw [if_neg c3] at H
  have c3b0 : ((l0.length : Int) == 0) = false := beq_eq_false_iff_ne.mpr c3
  have c3b1 : ((l0.length : Int) != 0) = true := bne_iff_ne.mpr c3
  have c3b2 : ¬ (l0 = []) := fun h_ => c3 (by rw [h_]; rfl)
  obtain ⟨ji4, hji4⟩ : ∃ j_ : Int, (Int.tmod a1 (l0.length : Int)) = j_ := ⟨_, rfl⟩
  replace H : (if 0 ≤ (ji4) then (if (ji4) < (l0.length : Int) then (some (wrap64 (rd l0 (ji4)))) else (none)) else (none)) = some r := by first | (rw [hji4] at H; exact H) | (simp only [hji4] at H ⊢; exact H)
  by_cases c5 : 0 ≤ (ji4)
  ·rw [if_pos c5] at H
   have c5b0 : decide (0 ≤ (ji4)) = true := decide_eq_true c5
   clear c5
   by_cases c6 : (ji4) < (l0.length : Int)
   ·rw [if_pos c6] at H
    have c6b0 : decide ((ji4) < (l0.length : Int)) = true := decide_eq_true c6
    clear c6
    obtain rfl := Option.some.inj H
    have p109 : 0 ≤ ((ji4) : Int) := of_decide_eq_true (by first | (with_reducible assumption) | assumption)
    have q109 : (ji4) < (l0.length : Int) := of_decide_eq_true (by first | (with_reducible assumption) | assumption)
    obtain ⟨ad109, e109, hx109_0⟩ := Kd.at_int HR0.out (ji4) p109 q109
    cases e109
    replace p109 := eq_true p109
    replace q109 := eq_true q109
    go_enter Tryz.func36, Tryz.ntmps36
    go_wp2
    go_ret
    exact ⟨by first | rfl | (simp; done) | (simp only [← hji4] <;> (first | rfl | simp)) | (simp [*]; done), by repeat (first | exact yR.refl _ | apply yR.step)⟩
   ·rw [if_neg c6] at H
    exact absurd H (by simp)
  ·rw [if_neg c5] at H
   exact absurd H (by simp)
def chapmanref16_power.l0 : Nat → Int → Int → Int → Option (Int)
 | 0, _, _, _ => none
 | k + 1, x0, x3, x4 => if x4 < x0 then (chapmanref16_power.l0 k x0 (wrap64 (10 * x3)) (wrap64 (x4 + 1))) else (some x3)
def chapmanref16_power.f (k : Nat) (a0 : Int) : Option (Int) := chapmanref16_power.l0 k a0 1 0
theorem chapmanref16_power.calls (k : Nat) (a0 : Int) (r : Int) (w : World) (h : chapmanref16_power.f k a0 = some r) :
  Calls Tryz.prog 37 #[.int .i64 a0] w fun e w' => e = .returned (.int .i64 r) ∧ yR w w' := by
 have H : (chapmanref16_power.l0 k a0 1 0) = some r := h
 clear h
 have H' := yC.mk H
 clear H
 go_enter Tryz.func37, Tryz.ntmps37
 go_wp2
 go_loopg [3, 4] k (fun kq v3 v4 w' => ∃ (x3_1 : Int) (x4_1 : Int), v3 = .int .i64 x3_1 ∧ v4 = .int .i64 x4_1 ∧ yC (chapmanref16_power.l0 kq a0 x3_1 x4_1 = some r) ∧ yC (kq ≤ k) ∧ yR w w')
 case atStart => exact ⟨(1), (0), (by first | rfl | (simp; done) | (simp [*]; done)), (by first | rfl | (simp; done) | (simp [*]; done)), H', ⟨Nat.le_refl _⟩, by repeat (first | exact yR.refl _ | apply yR.step)⟩
 case round =>
  clear H'
  obtain ⟨x3_1, x4_1, rfl, rfl, HA, HK1, ⟨m1, rfl⟩⟩ := hrel
  cases gk with
  | zero => exact absurd HA.out (by simp [chapmanref16_power.l0])
  | succ k1 =>
   have H := HA.out
   clear HA
   simp only [chapmanref16_power.l0] at H
   by_cases c2 : x4_1 < a0
   ·rw [if_pos c2] at H
    have c2b0 : decide (x4_1 < a0) = true := decide_eq_true c2
    clear c2
    have H' := yC.mk H
    clear H
    go_wp2
    go_roundg k1
    case measure => have := HK1.out; omega
    case rel => exact ⟨(wrap64 (10 * x3_1)), (wrap64 (x4_1 + 1)), (by first | rfl | (simp; done) | (simp [*]; done)), (by first | rfl | (simp; done) | (simp [*]; done)), H', ⟨by have := HK1.out; omega⟩, by repeat (first | exact yR.refl _ | apply yR.step)⟩
   ·rw [if_neg c2] at H
    have c2b0 : decide (x4_1 < a0) = false := decide_eq_false c2
    clear c2
    obtain rfl := Option.some.inj H
    go_wp2
    go_ret
    exact ⟨by first | rfl | (simp; done) | (simp [*]; done), by repeat (first | exact yR.refl _ | apply yR.step)⟩
mutual
def chapmanref16_deeper.l0 : Nat → Int → Int → Int → Int → Int → ByteArray → List (S29) → Option (Bool)
 | 0, _, _, _, _, _, _, _ => none
 | k + 1, x1, x5, x111000, x111001, x111002, x111003, x111004 => if x5 < (x111004.length : Int) then (if 0 ≤ x5 then ((chapmanref16_deeper.f k ((yM x111004 x5).f0) ((yM x111004 x5).f1) ((yM x111004 x5).f2) ((yM x111004 x5).f3) ((yM x111004 x5).f4) (wrap64 (x1 - 1))).bind fun t112 => (if t112 = true then (some true) else (chapmanref16_deeper.l0 k x1 (wrap64 (x5 + 1)) x111000 x111001 x111002 x111003 x111004))) else (none)) else (some false)
def chapmanref16_deeper.f : Nat → Int → Int → Int → ByteArray → List (S29) → Int → Option (Bool)
 | 0, _, _, _, _, _, _ => none
 | k + 1, a0_0, a0_1, a0_2, a0_3, l0_4, a1 => if a1 = 0 then (some true) else (chapmanref16_deeper.l0 k a1 0 a0_0 a0_1 a0_2 a0_3 l0_4)
end
theorem chapmanref16_deeper.mono_l : ∀ k, (∀ y0 y1 y2 y3 y4 y5, LeO (chapmanref16_deeper.f k y0 y1 y2 y3 y4 y5) (chapmanref16_deeper.f (k + 1) y0 y1 y2 y3 y4 y5)) ∧ (∀ y0 y1 y2 y3 y4 y5 y6, LeO (chapmanref16_deeper.l0 k y0 y1 y2 y3 y4 y5 y6) (chapmanref16_deeper.l0 (k + 1) y0 y1 y2 y3 y4 y5 y6))
 | 0 => ⟨fun _ _ _ _ _ _ r h => by simp [chapmanref16_deeper.f] at h, fun _ _ _ _ _ _ _ r h => by simp [chapmanref16_deeper.l0] at h⟩
 | k + 1 => by
  obtain ⟨ih0, ih1⟩ := chapmanref16_deeper.mono_l k
  refine ⟨?_, ?_⟩
  ·intro y0 y1 y2 y3 y4 y5
   unfold chapmanref16_deeper.f
   repeat' first
   | (with_reducible exact ih0 _ _ _ _ _ _)
   | (with_reducible exact ih1 _ _ _ _ _ _ _)
   | (with_reducible exact LeO.refl _)
   | (with_reducible exact LeO.none _)
   | (with_reducible refine LeO.ite ?_ ?_)
   | (with_reducible refine LeO.bind ?_ (fun _ => ?_))
   | exact ih0 _ _ _ _ _ _
   | exact ih1 _ _ _ _ _ _ _
   | exact LeO.none _
   | refine LeO.ite ?_ ?_
   | refine LeO.bind ?_ (fun _ => ?_)
  ·intro y0 y1 y2 y3 y4 y5 y6
   unfold chapmanref16_deeper.l0
   repeat' first
   | (with_reducible exact ih0 _ _ _ _ _ _)
   | (with_reducible exact ih1 _ _ _ _ _ _ _)
   | (with_reducible exact LeO.refl _)
   | (with_reducible exact LeO.none _)
   | (with_reducible refine LeO.ite ?_ ?_)
   | (with_reducible refine LeO.bind ?_ (fun _ => ?_))
   | exact ih0 _ _ _ _ _ _
   | exact ih1 _ _ _ _ _ _ _
   | exact LeO.none _
   | refine LeO.ite ?_ ?_
   | refine LeO.bind ?_ (fun _ => ?_)
theorem chapmanref16_deeper.mono : ∀ a0 a1 a2 a3 a4 a5 k, LeO (chapmanref16_deeper.f k a0 a1 a2 a3 a4 a5) (chapmanref16_deeper.f (k + 1) a0 a1 a2 a3 a4 a5) := by
 intro a0 a1 a2 a3 a4 a5 k
 obtain ⟨ih0, ih1⟩ := chapmanref16_deeper.mono_l k
 exact ih0 a0 a1 a2 a3 a4 a5
theorem chapmanref16_deeper.calls (k : Nat) : ∀ (a0_0 : Int) (a0_1 : Int) (a0_2 : Int) (a0_3 : ByteArray) (A0_4 : Option Addr) (c0_4 : Nat) (l0_4 : List (S29)) (a1 : Int) (r : Bool) (w : World) (hr0_4 : Kd.C k29 w A0_4 l0_4.length l0_4) (hc0_4 : l0_4.length ≤ c0_4) (h : chapmanref16_deeper.f k a0_0 a0_1 a0_2 a0_3 l0_4 a1 = some r),
  Calls Tryz.prog 48 #[.agg #[.int .i64 a0_0, .int .i64 a0_1, .int .i64 a0_2, .string a0_3, .slice A0_4 l0_4.length c0_4], .int .i64 a1] w fun e w' => e = .returned (.bool r) ∧ Below w.heap.size w w' := by
 induction k using Nat.strongRecOn with
 | _ k ih =>
 intro a0_0 a0_1 a0_2 a0_3 A0_4 c0_4 l0_4 a1 r w hr0_4 hc0_4 h
 cases k with
 | zero => exact absurd h (by simp [chapmanref16_deeper.f])
 | succ k =>
 simp only [chapmanref16_deeper.f] at h
 have hu29 := Tryz.underlying29
 have HR0_4 := yC.mk hr0_4
 have HC0_4 := yC.mk hc0_4
 clear hr0_4 hc0_4
 have HB := yC.mk (Below.refl w.heap.size w)
 have H : (if a1 = 0 then (some true) else (chapmanref16_deeper.l0 k a1 0 a0_0 a0_1 a0_2 a0_3 l0_4)) = some r := h
 clear h
 by_cases c3 : a1 = 0
 ·rw [if_pos c3] at H
  have c3b0 : (a1 == 0) = true := beq_iff_eq.mpr c3
  have c3b1 : (a1 != 0) = false := bne_eq_false_iff_eq.mpr c3
  clear c3
  obtain rfl := Option.some.inj H
  go_enter Tryz.func48, Tryz.ntmps48
  go_wp2_with (first | ((with_reducible refine yK (N := 2) rfl ?_); refine xF ?hg (N := 2) ?hd (cs := #[.int .i64 a0_0, .int .i64 a0_1, .int .i64 a0_2, .string a0_3, .slice A0_4 l0_4.length c0_4]) (t := 29) ?hr ?_; (case hd | hg => rfl); (case hr => go_simp; try rfl); intro gb110 hg w4 hbox hb; have n0_ := yC.mk (yD (hbw) hb); have n1_ := yC.mk (hbox); have n2_ := yC.mk ((by rw [hg]; exact (yU (hbw)) : w.heap.size ≤ gb110)); have n3_ := yC.mk ((by rw [hg]; exact (yU (hbw)) : w.heap.size ≤ gb110)); clear HB; have HB := n0_; have BK110 := n1_; have GW110 := n2_; have GE110 := n3_; clear n0_ n1_ n2_ n3_; clear hb hbox hg))
  go_ret
  exact ⟨by first | rfl | (simp [yS, yT] <;> rfl) | (simp [*, yS, yT] <;> rfl), by repeat (first | (with_reducible first | exact HB.out | apply yF | apply yE | apply yG | refine xA ?_ GE110.out) | exact HB.out)⟩
 ·rw [if_neg c3] at H
  have c3b0 : (a1 == 0) = false := beq_eq_false_iff_ne.mpr c3
  have c3b1 : (a1 != 0) = true := bne_iff_ne.mpr c3
  have H' := yC.mk H
  clear H
  go_enter Tryz.func48, Tryz.ntmps48
  go_wp2_with (first | ((with_reducible refine yK (N := 2) rfl ?_); refine xF ?hg (N := 2) ?hd (cs := #[.int .i64 a0_0, .int .i64 a0_1, .int .i64 a0_2, .string a0_3, .slice A0_4 l0_4.length c0_4]) (t := 29) ?hr ?_; (case hd | hg => rfl); (case hr => go_simp; try rfl); intro gb110 hg w5 hbox hb; have n0_ := yC.mk (yD (hbw) hb); have n1_ := yC.mk (hbox); have n2_ := yC.mk ((by rw [hg]; exact (yU (hbw)) : w.heap.size ≤ gb110)); have n3_ := yC.mk ((by rw [hg]; exact (yU (hbw)) : w.heap.size ≤ gb110)); clear HB; have HB := n0_; have BK110 := n1_; have GW110 := n2_; have GE110 := n3_; clear n0_ n1_ n2_ n3_; clear hb hbox hg))
  go_loopg [5] k (fun kq v5 w' => ∃ (x5_1 : Int), v5 = .int .i64 x5_1 ∧ yC (chapmanref16_deeper.l0 kq a1 x5_1 a0_0 a0_1 a0_2 a0_3 l0_4 = some r) ∧ yC (kq ≤ k) ∧ yC (w'.heap[gb110]? = some (.cells #[.int .i64 a0_0, .int .i64 a0_1, .int .i64 a0_2, .string a0_3, (.slice A0_4 l0_4.length c0_4)] 29 (0, 0))) ∧ yC (Below w.heap.size w w'))
  case atStart => exact ⟨(0), (by first | rfl | (simp; done) | (simp [*]; done)), H', ⟨Nat.le_refl _⟩, ⟨by (with_reducible repeat (first | refine blk_drewN ?_ _ | refine blk_drew ?_ | refine blk_alloc ?_ _)); exact BK110.out⟩, ⟨by repeat (first | (with_reducible first | exact HB.out | apply yF | apply yE | apply yG | refine xA ?_ GE110.out) | exact HB.out)⟩⟩
  case round =>
   clear H'
   try clear p2
   try clear c3
   try clear c3b0
   try clear c3b1
   try clear c4
   obtain ⟨x5_1, rfl, HA, HK1, BK110, HB⟩ := hrel
   cases gk with
   | zero => exact absurd HA.out (by simp [chapmanref16_deeper.l0])
   | succ k1 =>
    have H := HA.out
    clear HA
    simp only [chapmanref16_deeper.l0] at H
    by_cases c6 : x5_1 < (l0_4.length : Int)
    ·rw [if_pos c6] at H
     have c6b0 : decide (x5_1 < (l0_4.length : Int)) = true := decide_eq_true c6
     clear c6
     by_cases c7 : 0 ≤ x5_1
     ·rw [if_pos c7] at H
      have c7b0 : decide (0 ≤ x5_1) = true := decide_eq_true c7
      clear c7
      replace H := Option.bind_eq_some_iff.mp H
      obtain ⟨t112, A80, H⟩ := H
      replace H : (if t112 = true then (some true) else (chapmanref16_deeper.l0 k1 a1 (wrap64 (x5_1 + 1)) a0_0 a0_1 a0_2 a0_3 l0_4)) = some r := H
      have A8 := yC.mk A80
      clear A80
      by_cases c9 : t112 = true
      ·subst c9
       have H1 : (some true) = some r := by rw [if_pos rfl] at H; exact H
       clear H
       have H := H1
       clear H1
       obtain rfl := Option.some.inj H
       have hcz10_0 : wr.cell? ⟨gb110, 0, none⟩ = some (.int .i64 a0_0) := (yO BK110.out 0).trans rfl
       have hcz10_1 : wr.cell? ⟨gb110, 1, none⟩ = some (.int .i64 a0_1) := (yO BK110.out 1).trans rfl
       have hcz10_2 : wr.cell? ⟨gb110, 2, none⟩ = some (.int .i64 a0_2) := (yO BK110.out 2).trans rfl
       have hcz10_3 : wr.cell? ⟨gb110, 3, none⟩ = some (.string a0_3) := (yO BK110.out 3).trans rfl
       have hcz10_4 : wr.cell? ⟨gb110, 4, none⟩ = some (.slice A0_4 l0_4.length c0_4) := (yO BK110.out 4).trans rfl
       have hfz10_0 := yN BK110.out 0
       have hfz10_1 := yN BK110.out 1
       have hfz10_2 := yN BK110.out 2
       have hfz10_3 := yN BK110.out 3
       have hfz10_4 := yN BK110.out 4
       have p111 : 0 ≤ (x5_1 : Int) := of_decide_eq_true (by first | (with_reducible assumption) | assumption)
       have q111 : x5_1 < (l0_4.length : Int) := of_decide_eq_true (by first | (with_reducible assumption) | assumption)
       obtain ⟨ad111, A111_4, c111_4, e111, hx111_0, hx111_1, hx111_2, hx111_3, hx111_4, hl111_4, hi111_4⟩ := at_T29 HR0_4.out x5_1 p111 q111
       cases e111
       replace hx111_0 := (HB.out.cell (World.block_lt_of_cell? w _ hx111_0)).trans hx111_0
       replace hx111_1 := (HB.out.cell (World.block_lt_of_cell? w _ hx111_1)).trans hx111_1
       replace hx111_2 := (HB.out.cell (World.block_lt_of_cell? w _ hx111_2)).trans hx111_2
       replace hx111_3 := (HB.out.cell (World.block_lt_of_cell? w _ hx111_3)).trans hx111_3
       replace hx111_4 := (HB.out.cell (World.block_lt_of_cell? w _ hx111_4)).trans hx111_4
       have HR111_4 := yC.mk hi111_4
       have HC111_4 := yC.mk hl111_4
       clear hi111_4 hl111_4
       replace p111 := eq_true p111
       replace q111 := eq_true q111
       go_wp2_with (first | ((with_reducible refine gate_callee (f := 48) rfl ?_); refine goesL_ (some 22) rfl rfl Tryz.func48 (by kernel_rfl) rfl #[.agg #[.int .i64 ((yM l0_4 x5_1).f0), .int .i64 ((yM l0_4 x5_1).f1), .int .i64 ((yM l0_4 x5_1).f2), .string ((yM l0_4 x5_1).f3), .slice A111_4 ((yM l0_4 x5_1).f4).length c111_4], .int .i64 (wrap64 (a1 - 1))] rfl (by (try simp only [List.map_toArray, List.map_cons, List.map_nil]); first | done | rfl | (simp only [List.length_drop, List.length_take]; rfl)) ?_; (with_reducible refine (ih k1 (by have := HK1.out; omega) ((yM l0_4 x5_1).f0) ((yM l0_4 x5_1).f1) ((yM l0_4 x5_1).f2) ((yM l0_4 x5_1).f3) _ _ ((yM l0_4 x5_1).f4) (wrap64 (a1 - 1)) true _ ?side1 ?side2 A8.out).mono ?_); (case side1 => repeat (first | exact (Kd.yI HR111_4.out HB.out) | (with_reducible refine Kd.C_alloc ?_ _) | (with_reducible refine Kd.C_drewN ?_ _) | (with_reducible refine Kd.C_drew ?_))); (case side2 => exact HC111_4.out); rintro e w11 ⟨rfl, hb⟩; refine ⟨_, rfl, ?_⟩; have n0_ := yC.mk (blk_below (g := gb110) (o := .cells #[.int .i64 a0_0, .int .i64 a0_1, .int .i64 a0_2, .string a0_3, .slice (some ad111) l0_4.length c0_4] 29 (0, 0)) (by (with_reducible repeat (first | refine blk_drewN ?_ _ | refine blk_drew ?_ | refine blk_alloc ?_ _)); exact BK110.out) hb); have n1_ := yC.mk (yD (by repeat (first | (with_reducible first | exact HB.out | apply yF | apply yE | apply yG | refine xA ?_ GE110.out) | exact HB.out)) hb); clear BK110; clear HB; have BK110 := n0_; have HB := n1_; clear n0_ n1_; (try clear hb); (try clear hb2); (try clear hk); (try clear hi)))
       go_ret
       exact ⟨by first | rfl | (simp [yS, yT] <;> rfl) | (simp [*, yS, yT] <;> rfl), by repeat (first | (with_reducible first | exact HB.out | apply yF | apply yE | apply yG | refine xA ?_ GE110.out) | exact HB.out)⟩
      ·replace c9 := Bool.eq_false_iff.mpr c9
       subst c9
       have H1 : (chapmanref16_deeper.l0 k1 a1 (wrap64 (x5_1 + 1)) a0_0 a0_1 a0_2 a0_3 l0_4) = some r := by rw [if_neg (show ¬ (false = true) by decide)] at H; exact H
       clear H
       have H := H1
       clear H1
       have H' := yC.mk H
       clear H
       have hcz12_0 : wr.cell? ⟨gb110, 0, none⟩ = some (.int .i64 a0_0) := (yO BK110.out 0).trans rfl
       have hcz12_1 : wr.cell? ⟨gb110, 1, none⟩ = some (.int .i64 a0_1) := (yO BK110.out 1).trans rfl
       have hcz12_2 : wr.cell? ⟨gb110, 2, none⟩ = some (.int .i64 a0_2) := (yO BK110.out 2).trans rfl
       have hcz12_3 : wr.cell? ⟨gb110, 3, none⟩ = some (.string a0_3) := (yO BK110.out 3).trans rfl
       have hcz12_4 : wr.cell? ⟨gb110, 4, none⟩ = some (.slice A0_4 l0_4.length c0_4) := (yO BK110.out 4).trans rfl
       have hfz12_0 := yN BK110.out 0
       have hfz12_1 := yN BK110.out 1
       have hfz12_2 := yN BK110.out 2
       have hfz12_3 := yN BK110.out 3
       have hfz12_4 := yN BK110.out 4
       have p111 : 0 ≤ (x5_1 : Int) := of_decide_eq_true (by first | (with_reducible assumption) | assumption)
       have q111 : x5_1 < (l0_4.length : Int) := of_decide_eq_true (by first | (with_reducible assumption) | assumption)
       obtain ⟨ad111, A111_4, c111_4, e111, hx111_0, hx111_1, hx111_2, hx111_3, hx111_4, hl111_4, hi111_4⟩ := at_T29 HR0_4.out x5_1 p111 q111
       cases e111
       replace hx111_0 := (HB.out.cell (World.block_lt_of_cell? w _ hx111_0)).trans hx111_0
       replace hx111_1 := (HB.out.cell (World.block_lt_of_cell? w _ hx111_1)).trans hx111_1
       replace hx111_2 := (HB.out.cell (World.block_lt_of_cell? w _ hx111_2)).trans hx111_2
       replace hx111_3 := (HB.out.cell (World.block_lt_of_cell? w _ hx111_3)).trans hx111_3
       replace hx111_4 := (HB.out.cell (World.block_lt_of_cell? w _ hx111_4)).trans hx111_4
       have HR111_4 := yC.mk hi111_4
       have HC111_4 := yC.mk hl111_4
       clear hi111_4 hl111_4
       replace p111 := eq_true p111
       replace q111 := eq_true q111
       go_wp2_with (first | ((with_reducible refine gate_callee (f := 48) rfl ?_); refine goesL_ (some 22) rfl rfl Tryz.func48 (by kernel_rfl) rfl #[.agg #[.int .i64 ((yM l0_4 x5_1).f0), .int .i64 ((yM l0_4 x5_1).f1), .int .i64 ((yM l0_4 x5_1).f2), .string ((yM l0_4 x5_1).f3), .slice A111_4 ((yM l0_4 x5_1).f4).length c111_4], .int .i64 (wrap64 (a1 - 1))] rfl (by (try simp only [List.map_toArray, List.map_cons, List.map_nil]); first | done | rfl | (simp only [List.length_drop, List.length_take]; rfl)) ?_; (with_reducible refine (ih k1 (by have := HK1.out; omega) ((yM l0_4 x5_1).f0) ((yM l0_4 x5_1).f1) ((yM l0_4 x5_1).f2) ((yM l0_4 x5_1).f3) _ _ ((yM l0_4 x5_1).f4) (wrap64 (a1 - 1)) false _ ?side1 ?side2 A8.out).mono ?_); (case side1 => repeat (first | exact (Kd.yI HR111_4.out HB.out) | (with_reducible refine Kd.C_alloc ?_ _) | (with_reducible refine Kd.C_drewN ?_ _) | (with_reducible refine Kd.C_drew ?_))); (case side2 => exact HC111_4.out); rintro e w13 ⟨rfl, hb⟩; refine ⟨_, rfl, ?_⟩; have n0_ := yC.mk (blk_below (g := gb110) (o := .cells #[.int .i64 a0_0, .int .i64 a0_1, .int .i64 a0_2, .string a0_3, .slice (some ad111) l0_4.length c0_4] 29 (0, 0)) (by (with_reducible repeat (first | refine blk_drewN ?_ _ | refine blk_drew ?_ | refine blk_alloc ?_ _)); exact BK110.out) hb); have n1_ := yC.mk (yD (by repeat (first | (with_reducible first | exact HB.out | apply yF | apply yE | apply yG | refine xA ?_ GE110.out) | exact HB.out)) hb); clear BK110; clear HB; have BK110 := n0_; have HB := n1_; clear n0_ n1_; (try clear hb); (try clear hb2); (try clear hk); (try clear hi)))
       go_roundg k1
       case measure => have := HK1.out; omega
       case rel => exact ⟨(wrap64 (x5_1 + 1)), (by first | rfl | (simp; done) | (simp [*]; done)), H', ⟨by have := HK1.out; omega⟩, ⟨by (with_reducible repeat (first | refine blk_drewN ?_ _ | refine blk_drew ?_ | refine blk_alloc ?_ _)); exact BK110.out⟩, ⟨by repeat (first | (with_reducible first | exact HB.out | apply yF | apply yE | apply yG | refine xA ?_ GE110.out) | exact HB.out)⟩⟩
     ·rw [if_neg c7] at H
      exact absurd H (by simp)
    ·rw [if_neg c6] at H
     have c6b0 : decide (x5_1 < (l0_4.length : Int)) = false := decide_eq_false c6
     clear c6
     obtain rfl := Option.some.inj H
     have hcz14_0 : wr.cell? ⟨gb110, 0, none⟩ = some (.int .i64 a0_0) := (yO BK110.out 0).trans rfl
     have hcz14_1 : wr.cell? ⟨gb110, 1, none⟩ = some (.int .i64 a0_1) := (yO BK110.out 1).trans rfl
     have hcz14_2 : wr.cell? ⟨gb110, 2, none⟩ = some (.int .i64 a0_2) := (yO BK110.out 2).trans rfl
     have hcz14_3 : wr.cell? ⟨gb110, 3, none⟩ = some (.string a0_3) := (yO BK110.out 3).trans rfl
     have hcz14_4 : wr.cell? ⟨gb110, 4, none⟩ = some (.slice A0_4 l0_4.length c0_4) := (yO BK110.out 4).trans rfl
     have hfz14_0 := yN BK110.out 0
     have hfz14_1 := yN BK110.out 1
     have hfz14_2 := yN BK110.out 2
     have hfz14_3 := yN BK110.out 3
     have hfz14_4 := yN BK110.out 4
     go_wp2
     go_ret
     exact ⟨by first | rfl | (simp [yS, yT] <;> rfl) | (simp [*, yS, yT] <;> rfl), by repeat (first | (with_reducible first | exact HB.out | apply yF | apply yE | apply yG | refine xA ?_ GE110.out) | exact HB.out)⟩
end
section
open Go.RowKit YtmebkjdknhknbaaGreatDoor.H
attribute [local go_sem] max2_int min2_int max_two min_two max_three min_three max_four min_four   -- for this text's walks alone
end
section
open Go.RowKit YtmebkjdknhknbaaGreatDoor.H
attribute [local go_sem] max2_int min2_int max_two min_two max_three min_three max_four min_four   -- for this text's walks alone
def chapmanref16_text.l0 : Nat → ByteArray → Int → Option (Bool)
 | 0, _, _ => none
 | k + 1, x0, x3 => if x3 < (x0.size : Int) then (if 0 ≤ x3 then (if (bt x0 x3) < 32 then (some false) else (if (bt x0 x3) > 126 then (some false) else (chapmanref16_text.l0 k x0 (wrap64 (x3 + 1))))) else (none)) else (some (decide ((x0.size : Int) ≤ 40)))
def chapmanref16_text.f (k : Nat) (a0 : ByteArray) : Option (Bool) := chapmanref16_text.l0 k a0 0
theorem chapmanref16_text.calls (k : Nat) (a0 : ByteArray) (r : Bool) (w : World) (h : chapmanref16_text.f k a0 = some r) :
  Calls Tryz.prog 47 #[.string a0] w fun e w' => e = .returned (.bool r) ∧ yR w w' := by
 have H : (chapmanref16_text.l0 k a0 0) = some r := h
 clear h
 have H' := yC.mk H
 clear H
 go_enter Tryz.func47, Tryz.ntmps47
 go_wp2
 go_loopg [3] k (fun kq v3 w' => ∃ (x3_1 : Int), v3 = .int .i64 x3_1 ∧ yC (chapmanref16_text.l0 kq a0 x3_1 = some r) ∧ yC (kq ≤ k) ∧ yR w w')
 case atStart => exact ⟨(0), (by first | rfl | (simp; done) | (simp [*]; done)), H', ⟨Nat.le_refl _⟩, by repeat (first | exact yR.refl _ | apply yR.step)⟩
 case round =>
  clear H'
  obtain ⟨x3_1, rfl, HA, HK1, ⟨m1, rfl⟩⟩ := hrel
  cases gk with
  | zero => exact absurd HA.out (by simp [chapmanref16_text.l0])
  | succ k1 =>
   have H := HA.out
   clear HA
   simp only [chapmanref16_text.l0] at H
   by_cases c2 : x3_1 < (a0.size : Int)
   ·rw [if_pos c2] at H
    have c2b0 : decide (x3_1 < (a0.size : Int)) = true := decide_eq_true c2
    clear c2
    by_cases c3 : 0 ≤ x3_1
    ·rw [if_pos c3] at H
     have c3b0 : decide (0 ≤ x3_1) = true := decide_eq_true c3
     clear c3
     by_cases c5 : (bt a0 x3_1) < 32
     ·rw [if_pos c5] at H
      have c5b0 : decide ((bt a0 x3_1) < 32) = true := decide_eq_true c5
      clear c5
      obtain rfl := Option.some.inj H
      have p4 : 0 ≤ (x3_1 : Int) := of_decide_eq_true (by first | (with_reducible assumption) | assumption)
      have q4 : x3_1 < (a0.size : Int) := of_decide_eq_true (by first | (with_reducible assumption) | assumption)
      have hx4 := bt_at a0 x3_1
      replace p4 := eq_true p4
      replace q4 := eq_true q4
      go_wp2
      go_ret
      exact ⟨by first | rfl | (simp; done) | (simp [*]; done), by repeat (first | exact yR.refl _ | apply yR.step)⟩
     ·rw [if_neg c5] at H
      have c5b0 : decide ((bt a0 x3_1) < 32) = false := decide_eq_false c5
      clear c5
      by_cases c7 : (bt a0 x3_1) > 126
      ·rw [if_pos c7] at H
       have c7b0 : decide (126 < (bt a0 x3_1)) = true := decide_eq_true c7
       clear c7
       obtain rfl := Option.some.inj H
       have p4 : 0 ≤ (x3_1 : Int) := of_decide_eq_true (by first | (with_reducible assumption) | assumption)
       have q4 : x3_1 < (a0.size : Int) := of_decide_eq_true (by first | (with_reducible assumption) | assumption)
       have hx4 := bt_at a0 x3_1
       replace p4 := eq_true p4
       replace q4 := eq_true q4
       have p6 : 0 ≤ (x3_1 : Int) := of_decide_eq_true (by first | (with_reducible assumption) | assumption)
       have q6 : x3_1 < (a0.size : Int) := of_decide_eq_true (by first | (with_reducible assumption) | assumption)
       have hx6 := bt_at a0 x3_1
       replace p6 := eq_true p6
       replace q6 := eq_true q6
       go_wp2
       go_ret
       exact ⟨by first | rfl | (simp; done) | (simp [*]; done), by repeat (first | exact yR.refl _ | apply yR.step)⟩
      ·rw [if_neg c7] at H
       have c7b0 : decide (126 < (bt a0 x3_1)) = false := decide_eq_false c7
       clear c7
       have H' := yC.mk H
       clear H
       have p4 : 0 ≤ (x3_1 : Int) := of_decide_eq_true (by first | (with_reducible assumption) | assumption)
       have q4 : x3_1 < (a0.size : Int) := of_decide_eq_true (by first | (with_reducible assumption) | assumption)
       have hx4 := bt_at a0 x3_1
       replace p4 := eq_true p4
       replace q4 := eq_true q4
       have p6 : 0 ≤ (x3_1 : Int) := of_decide_eq_true (by first | (with_reducible assumption) | assumption)
       have q6 : x3_1 < (a0.size : Int) := of_decide_eq_true (by first | (with_reducible assumption) | assumption)
       have hx6 := bt_at a0 x3_1
       replace p6 := eq_true p6
       replace q6 := eq_true q6
       go_wp2
       go_roundg k1
       case measure => have := HK1.out; omega
       case rel => exact ⟨(wrap64 (x3_1 + 1)), (by first | rfl | (simp; done) | (simp [*]; done)), H', ⟨by have := HK1.out; omega⟩, by repeat (first | exact yR.refl _ | apply yR.step)⟩
    ·rw [if_neg c3] at H
     exact absurd H (by simp)
   ·rw [if_neg c2] at H
    have c2b0 : decide (x3_1 < (a0.size : Int)) = false := decide_eq_false c2
    clear c2
    obtain rfl := Option.some.inj H
    go_wp2
    go_ret
    exact ⟨by first | rfl | (simp; done) | (simp [*]; done), by repeat (first | exact yR.refl _ | apply yR.step)⟩
def chapmanref16_sep.f (k : Nat) (a0 : ByteArray) : Option (Bool) := if (a0.size : Int) = 1 then ((chapmanref16_text.f k a0).bind fun t117 => (some t117)) else (some false)
theorem chapmanref16_sep.calls (k : Nat) (a0 : ByteArray) (r : Bool) (w : World) (h : chapmanref16_sep.f k a0 = some r) :
  Calls Tryz.prog 93 #[.string a0] w fun e w' => e = .returned (.bool r) ∧ yR w w' := by
 have H : (if (a0.size : Int) = 1 then ((chapmanref16_text.f k a0).bind fun t117 => (some t117)) else (some false)) = some r := h
 clear h
 by_cases c2 : (a0.size : Int) = 1
 ·rw [if_pos c2] at H
  have c2b0 : ((a0.size : Int) == 1) = true := beq_iff_eq.mpr c2
  have c2b1 : ((a0.size : Int) != 1) = false := bne_eq_false_iff_eq.mpr c2
  clear c2
  replace H := Option.bind_eq_some_iff.mp H
  obtain ⟨t117, A30, H⟩ := H
  replace H : (some t117) = some r := H
  have A3 := yC.mk A30
  clear A30
  obtain rfl := Option.some.inj H
  go_enter Tryz.func93, Tryz.ntmps93
  go_wp2_with (first | (go_at_call 47; (with_reducible refine (chapmanref16_text.calls k a0 t117 _ A3.out).mono ?_); rintro e w' ⟨rfl, ⟨nd, rfl⟩⟩))
  go_ret
  exact ⟨by first | rfl | (simp; done) | (simp [*]; done), by repeat (first | exact yR.refl _ | apply yR.step)⟩
 ·rw [if_neg c2] at H
  have c2b0 : ((a0.size : Int) == 1) = false := beq_eq_false_iff_ne.mpr c2
  have c2b1 : ((a0.size : Int) != 1) = true := bne_iff_ne.mpr c2
  obtain rfl := Option.some.inj H
  go_enter Tryz.func93, Tryz.ntmps93
  go_wp2
  go_ret
  exact ⟨by first | rfl | (simp; done) | (simp [*]; done), by repeat (first | exact yR.refl _ | apply yR.step)⟩
end
end Go.Proofs.YtmebkjdknhknbaaGreatDoor.G
namespace Go.Proofs.YtmebkjdknhknbaaGreatDoor.H
section
open Go.RowKit YtmebkjdknhknbaaGreatDoor.A YtmebkjdknhknbaaGreatDoor.C YtmebkjdknhknbaaGreatDoor.G
theorem xS {w w' : World} (h : yR w w') : Below w.heap.size w w' := by
 obtain ⟨m, rfl⟩ := h
 exact yE (Below.refl _ _) m
theorem deeper_up {x0 x1 x2 x4 : Int} {x3 : ByteArray} {l : List S29} {r : Bool} {j k : Nat} (h : chapmanref16_deeper.f j x0 x1 x2 x3 l x4 = some r) (hk : j ≤ k) : chapmanref16_deeper.f k x0 x1 x2 x3 l x4 = some r := by
 induction hk with
 | refl => exact h
 | step _ ih => exact chapmanref16_deeper.mono _ _ _ _ _ _ _ _ ih
theorem deeperl_up {y0 y1 y2 y3 y4 : Int} {y5 : ByteArray} {l : List S29} {r : Bool} {j k : Nat} (h : chapmanref16_deeper.l0 j y0 y1 y2 y3 y4 y5 l = some r) (hk : j ≤ k) : chapmanref16_deeper.l0 k y0 y1 y2 y3 y4 y5 l = some r := by
 induction hk with
 | refl => exact h
 | step _ ih => exact (chapmanref16_deeper.mono_l _).2 _ _ _ _ _ _ _ _ ih
theorem deeper_no : ∀ (k : Nat) (x : S29), dep k x → ∀ n : Int, (k : Int) ≤ n → n ≤ 100 → ∃ K, chapmanref16_deeper.f K x.f0 x.f1 x.f2 x.f3 x.f4 n = some false := by
 intro k
 induction k with
 | zero => intro x h; exact h.elim
 | succ k ih =>
  intro x h n hn hm
  unfold dep at h
  have hw : wrap64 (n - 1) = n - 1 := by unfold wrap64; rw [Int.emod_def]; omega
  have hl : ∀ (m : Nat) (i : Nat), i + m = x.f4.length → ∃ K, chapmanref16_deeper.l0 K n i x.f0 x.f1 x.f2 x.f3 x.f4 = some false := by
   intro m
   induction m with
   | zero =>
    intro i hi
    refine ⟨1, ?_⟩
    rw [chapmanref16_deeper.l0, if_neg (by omega)]
   | succ m ihm =>
    intro i hi
    obtain ⟨K1, h1⟩ := ih (yM x.f4 (i : Int)) (h.2 i (by omega)) (n - 1) (by omega) (by omega)
    obtain ⟨K2, h2⟩ := ihm (i + 1) (by omega)
    refine ⟨max K1 K2 + 1, ?_⟩
    have hi2 : wrap64 ((i : Int) + 1) = ((i + 1 : Nat) : Int) := by unfold wrap64; rw [Int.emod_def]; omega
    rw [chapmanref16_deeper.l0, if_pos (by omega), if_pos (by omega), hw, deeper_up h1 (Nat.le_max_left _ _), Option.bind_some, if_neg (by decide), hi2]
    exact deeperl_up h2 (Nat.le_max_right _ _)
  obtain ⟨K, hK⟩ := hl x.f4.length 0 (by omega)
  refine ⟨K + 1, ?_⟩
  rw [chapmanref16_deeper.f, if_neg (by omega)]
  exact hK
theorem sep_f {s : ByteArray} (h : s.size = 1) (h0 : 32 ≤ (s.data.toList.headD 0).toNat) (h1 : (s.data.toList.headD 0).toNat ≤ 126) : chapmanref16_sep.f 2 s = some true := by
 obtain ⟨⟨l⟩⟩ := s
 change l.length = 1 at h
 obtain ⟨b, rfl⟩ := List.length_eq_one_iff.1 h
 change 32 ≤ b.toNat at h0
 change b.toNat ≤ 126 at h1
 unfold chapmanref16_sep.f chapmanref16_text.f
 have hb : bt ⟨#[b]⟩ 0 = b.toNat := rfl
 have hz : ((ByteArray.mk #[b]).size : Int) = 1 := rfl
 rw [if_pos hz, chapmanref16_text.l0, hz, if_pos (by decide), if_pos (by decide), hb, if_neg (by omega), if_neg (by omega), show wrap64 (0 + 1) = 1 from by decide +kernel, chapmanref16_text.l0, hz, if_neg (by decide)]
 rfl
theorem of_at (l0 : List S57) : ∀ (k : Nat) (x : S29) (d : Int), (ofV k l0 x d).2 = true → ∀ e : Int, (k : Int) ≤ e → ofV k l0 x e = ofV k l0 x d := by
 intro k
 induction k with
 | zero => intro x d h; cases h
 | succ k ih =>
  intro x d h e he
  obtain ⟨h1, h2, h3, h4, h5, h6, h7⟩ := of_inv h
  rw [h7, ofV_succ, if_neg (by unfold kindB; rw [decide_eq_true h1]; decide), if_neg (by rintro (h | h | h); omega; exact h h3; rw [h4] at h; cases h), if_pos]
  unfold okKids
  rw [List.all_eq_true]
  intro y hy
  obtain ⟨i, hi, rfl⟩ := List.getElem_of_mem hy
  have h8 := h5 i hi
  rw [rd_get x.f4 i hi] at h8
  show ((ofV k l0 x.f4[i] (e - 1)).2 && decide ((ofV k l0 x.f4[i] (e - 1)).1.f0 = 3)) = true
  rw [ih _ _ h8.1 (e - 1) (by omega), h8.1, h8.2]
  rfl
theorem vOk_at {k : Nat} {l0 : List S57} {x : S29} (h : vOk (k + 1) l0 x) (e : Int) (he : ((k + 1 : Nat) : Int) ≤ e) : ofV (k + 1) l0 x e = tailV k l0 x := by
 obtain ⟨hd, d, hv⟩ := h
 rw [of_at l0 _ x d hv e he, (of_inv hv).2.2.2.2.2.2]
theorem tailV_parts (k : Nat) (l0 : List S57) (x : S29) (hx : ¬ x.f0 ≤ 3) : tailV k l0 x = partsV (ofV k l0 (yM x.f4 (0 : Nat)) 8).1 x.f0 := by
 unfold tailV
 rw [if_neg (by omega), if_neg (by omega), if_neg (by omega)]
theorem parts_inv {k : Nat} {l0 : List S57} {x : S29} (h : vOk (k + 1) l0 x) (hk8 : k ≤ 8) (hx : ¬ x.f0 ≤ 3) :
  x.f1 = 0 ∧ x.f2 = 0 ∧ chapmanref16_sep.f 2 x.f3 = some true ∧ (∀ i : Nat, i < x.f4.length → (tailV (k - 1) l0 (yM x.f4 (i : Int))).1.f0 = 3) ∧ (x.f0 = 6 → (tailV (k - 1) l0 (yM x.f4 (0 : Nat))).1.f2 = false) ∧ tailV k l0 x = (⟨3, 0, (tailV (k - 1) l0 (yM x.f4 (0 : Nat))).1.f2 || decide (x.f0 = 5)⟩, true) := by
 have hn := xQ h hx
 obtain ⟨hd, d, hv⟩ := h
 obtain ⟨h1, _, h2, h3, h4, h5, _⟩ := of_inv hv
 have hp : 0 < x.f4.length := by have := hn.2.2; split at this <;> omega
 obtain ⟨k, rfl⟩ : ∃ j, k = j + 1 := by
  cases k with
  | zero => exact absurd (h4 0 hp).1 (by unfold ofV; decide)
  | succ j => exact ⟨j, rfl⟩
 have ha : arK x.f0 = if x.f0 ≤ 5 then 1 else 2 := if_neg hx
 unfold okA at h3
 rw [if_pos (by rw [ha]; split <;> omega)] at h3
 obtain ⟨h6, h7, h8, h9, h10⟩ := of_decide_eq_true h3
 have hk : ∀ i : Nat, i < x.f4.length → (tailV k l0 (yM x.f4 (i : Int))).1.f0 = 3 := fun i hi => by
  rw [← (of_inv (h4 i hi).1).2.2.2.2.2.2]; exact (h4 i hi).2
 have h8e : ofV (k + 1) l0 (yM x.f4 (0 : Nat)) 8 = tailV k l0 (yM x.f4 (0 : Nat)) := by
  rw [of_at l0 _ _ _ (h4 0 hp).1 8 (by omega), (of_inv (h4 0 hp).1).2.2.2.2.2.2]
 rw [tailV_parts _ _ _ hx, h8e] at h5
 rw [tailV_parts _ _ _ hx, h8e]
 rw [show k + 1 - 1 = k from rfl]
 unfold partsV at h5 ⊢
 by_cases hc : x.f0 = 6 ∧ (tailV k l0 (yM x.f4 (0 : Nat))).1.f2 = true
 ·rw [if_pos hc] at h5; cases h5
 ·rw [if_neg hc]
  exact ⟨h6, h7, sep_f h8 h9 h10, hk, fun e => by
   cases hb : (tailV k l0 (yM x.f4 (0 : Nat))).1.f2
   ·rfl
   ·exact absurd ⟨e, hb⟩ hc, rfl⟩
end
section
open Go.RowKit
theorem info29a : (Tryz.prog.info? 29).map (·.size) = some 5 := by kernel_rfl
theorem Bxs.tail {w W : World} {p : Nat × Nat × Array Value} {L : List (Nat × Nat × Array Value)} (h : Bxs w W (p :: L)) : Bxs w W L := ⟨h.below, fun q hq => h.blk q (List.mem_cons_of_mem _ hq), (List.nodup_cons.1 h.apart).2⟩
def elemPtr : Value → Nat → Value
 | .slice (some a) _ _, i => .pointer (some ⟨a.block, a.off + i, none⟩)
 | _, _ => undef
theorem R_of_blk {α : Type} {k : Kd α} {W : World} {g e base : Nat} {inner : List Value} {xs : List α} {ok : Nat → Prop} (hb : W.heap[g]? = some (.cells inner.toArray e (0, 0))) (hg : base ≤ g) (ho : ok g) (hr : Reps (k.M W base (fun j => ok j ∧ j ≠ g)) k.sz xs inner) (hm : xs.length ≤ 9223372036854775807) :
  Kd.R k e W base ok (.slice (some ⟨g, 0, none⟩) xs.length xs.length) xs :=
 ⟨fun j hj => by
  have : g = j := by simpa [Value.ownBlock] using hj
  subst this; exact ho, inner, ⟨hr.1, .inr ⟨g, xs.length, inner.toArray, rfl, hg, hb, Nat.le_refl _, by simpa [maxLen] using hm, by simpa using hr.1, by rw [List.take_of_length_le (by rw [← hr.1]; simp)]⟩⟩, hr.imp_ (fun p c hp => k.M_mono (fun j h => ⟨h.1, fun e => h.2 (by simpa [Value.ownBlock] using e)⟩) hp)⟩
theorem R_none {α : Type} {k : Kd α} {W : World} {e base : Nat} {ok : Nat → Prop} : Kd.R k e W base ok (.slice none 0 0) [] :=
 ⟨fun j hj => by simp [Value.ownBlock] at hj, [], World.ownsRow_nil _ _ _ _, Reps.none _ _⟩
def lnP (P : S29 → Prop) (v : Value) (B : Nat) (W : World) (S : Nat → Prop) : Prop := ∃ x v4, v = .agg #[.int .i64 x.f0, .int .i64 x.f1, .int .i64 x.f2, .string x.f3, v4] ∧ P x ∧ Kd.R k29 29 W B S v4 x.f4
theorem lnP_st {P : S29 → Prop} {v : Value} {B : Nat} {W W' : World} {S : Nat → Prop} (hz : W.heap.size ≤ W'.heap.size) (hk : ∀ k, k < W.heap.size → S k → W'.heap[k]? = W.heap[k]?) (h : lnP P v B W S) : lnP P v B W' S := by
 obtain ⟨x, v4, e, hP, h⟩ := h
 exact ⟨x, v4, e, hP, Kd.R_step h (fun k hS hlt => hk k hlt hS)⟩
def lnDv (d : Nat) (P : S29 → Prop) : Reg.Dv := Reg.Dv.n d (lnP P) lnP_st
theorem val_ln (d : Nat) (P : S29 → Prop) (e : Nat) (ρ : Nat → Value) : (lnDv d P).val e ρ = ρ e := rfl
theorem ln_step {f d : Nat} {eats : List (Nat × Nat)} {i : Nat} {ρ : Nat → Value} {S : Nat → Nat → Prop} {P : S29 → Prop} {w W : World} {args : Array Value} (hB : Below w.heap.size w W) (h : Calls Tryz.prog f args W fun e w' => (∃ v, e = .returned v ∧ lnP P v W.heap.size w' (fun _ => True)) ∧ Below W.heap.size W w') :
  Calls Tryz.prog f args W fun e w' => ∃ v, e = .returned v ∧ Reg.Kv eats w i (some d) (lnDv d P) ρ W S v w' := by
 refine h.mono fun e w' h => ?_
 obtain ⟨⟨v, rfl, x, v4, rfl, hP, hR⟩, hb⟩ := h
 exact ⟨_, rfl, Reg.Kv.n (Φ := lnP P) (st := lnP_st) (fun k => W.heap.size ≤ k ∧ k < w'.heap.size) hB hb (fun k hk => hk) ⟨x, v4, rfl, hP, Reg.R_new2 hR hB.size⟩⟩
theorem vOk_mk {k : Nat} {l0 : List S57} {x : S29} (hk : k ≤ 8) (h0 : 1 ≤ x.f0 ∧ x.f0 ≤ 6) (h1 : (x.f4.length : Int) = arK x.f0) (h2 : okA l0.length x (arK x.f0) = true) (h3 : ∀ i : Nat, i < x.f4.length → vOk k l0 (yM x.f4 (i : Int)) ∧ (tailV (k - 1) l0 (yM x.f4 (i : Int))).1.f0 = 3) (h4 : (tailV k l0 x).2 = true) : vOk (k + 1) l0 x := by
 have hl : x.f4.length ≤ 2 := by unfold arK at h1; split at h1; omega; split at h1 <;> omega
 refine ⟨⟨Nat.lt_of_le_of_lt hl (by decide), fun i hi => (h3 i hi).1.1⟩, 9, ?_⟩
 rw [ofV_succ, if_neg (by unfold kindB; rw [decide_eq_true h0]; decide), if_neg (by rintro (h | h | h); exact absurd h (by decide); exact h h1; rw [h2] at h; cases h), if_pos]
 ·exact h4
 ·unfold okKids
  rw [List.all_eq_true]
  intro y hy
  obtain ⟨i, hi, rfl⟩ := List.getElem_of_mem hy
  obtain ⟨⟨hd, d, hv⟩, ht⟩ := h3 i hi
  rw [rd_get x.f4 i hi] at hd hv ht
  show ((ofV k l0 x.f4[i] (9 - 1)).2 && decide ((ofV k l0 x.f4[i] (9 - 1)).1.f0 = 3)) = true
  obtain ⟨j, rfl⟩ : ∃ j, k = j + 1 := by
   cases k with
   | zero => exact hd.elim
   | succ j => exact ⟨j, rfl⟩
  rw [show j + 1 - 1 = j from rfl] at ht
  rw [of_at l0 _ _ d hv (9 - 1) (by omega), hv, (of_inv hv).2.2.2.2.2.2, ht]
  rfl
theorem vOk_val {k : Nat} (hk : k ≤ 8) {l0 : List S57} {a : Int} (h0 : 0 ≤ a) (h1 : a < l0.length) : vOk (k + 1) l0 ⟨1, a, 0, ⟨#[]⟩, []⟩ ∧ tailV k l0 ⟨1, a, 0, ⟨#[]⟩, []⟩ = ((xC l0 a).f0, true) := by
 have ht : tailV k l0 ⟨1, a, 0, ⟨#[]⟩, []⟩ = ((xC l0 a).f0, true) := rfl
 exact ⟨vOk_mk hk ⟨by show (1 : Int) ≤ 1; decide, by show (1 : Int) ≤ 6; decide⟩ rfl (by unfold okA arK; exact decide_eq_true ⟨rfl, h0, h1⟩) (fun i hi => absurd hi (Nat.not_lt_zero _)) (by rw [ht]), ht⟩
theorem vOk_scale {k : Nat} (hk : k ≤ 8) {l0 : List S57} {a s : Int} (h0 : 0 ≤ a) (h1 : a < l0.length) (h2 : (xC l0 a).f0.f0 = 2) (h3 : 0 ≤ s) (h4 : s ≤ 6) : vOk (k + 1) l0 ⟨2, a, s, ⟨#[]⟩, []⟩ := by
 have ht : tailV k l0 ⟨2, a, s, ⟨#[]⟩, []⟩ = xP l0 ⟨2, a, s, ⟨#[]⟩, []⟩ := rfl
 refine vOk_mk hk ⟨by show (1 : Int) ≤ 2; decide, by show (2 : Int) ≤ 6; decide⟩ rfl (by unfold okA arK; exact decide_eq_true ⟨rfl, h0, h1⟩) (fun i hi => absurd hi (Nat.not_lt_zero _)) ?_
 rw [ht]; unfold xP; rw [if_pos ⟨h2, h3, h4⟩]
theorem vOk_show {k : Nat} (hk : k ≤ 8) {l0 : List S57} {a s : Int} (h0 : 0 ≤ a) (h1 : a < l0.length) (h2 : (xC l0 a).f0.f0 = 2) (h3 : 0 ≤ s) (h4 : s ≤ 6) : vOk (k + 1) l0 ⟨3, a, s, ⟨#[]⟩, []⟩ ∧ (tailV k l0 ⟨3, a, s, ⟨#[]⟩, []⟩).1.f0 = 3 := by
 have ht : tailV k l0 ⟨3, a, s, ⟨#[]⟩, []⟩ = (⟨3, 0, (xP l0 ⟨3, a, s, ⟨#[]⟩, []⟩).1.f2⟩, true) := by
  have h : tailV k l0 ⟨3, a, s, ⟨#[]⟩, []⟩ = tyShow l0 ⟨3, a, s, ⟨#[]⟩, []⟩ := rfl
  rw [h]; unfold tyShow; rw [if_pos]; unfold xP; rw [if_pos ⟨h2, h3, h4⟩]
 exact ⟨vOk_mk hk ⟨by show (1 : Int) ≤ 3; decide, by show (3 : Int) ≤ 6; decide⟩ rfl (by unfold okA arK; exact decide_eq_true ⟨rfl, h0, h1⟩) (fun i hi => absurd hi (Nat.not_lt_zero _)) (by rw [ht]), by rw [ht]⟩
def sepOk (s : ByteArray) : Prop := s.size = 1 ∧ 32 ≤ (s.data.toList.headD 0).toNat ∧ (s.data.toList.headD 0).toNat ≤ 126
theorem vOk_one {k : Nat} (hk : k ≤ 8) {l0 : List S57} {K : Int} (hK : K = 4 ∨ K = 5) {s : ByteArray} (hs : sepOk s) {x : S29} (hx : vOk k l0 x) (ht : (tailV (k - 1) l0 x).1.f0 = 3) : vOk (k + 1) l0 ⟨K, 0, 0, s, [x]⟩ := by
 have h3 : ¬ K ≤ 3 := by omega
 have h5 : K ≤ 5 := by omega
 have ha : arK K = 1 := by unfold arK; rw [if_neg h3, if_pos h5]
 refine vOk_mk hk ⟨by show 1 ≤ K; omega, by show K ≤ 6; omega⟩ (by show ((1 : Nat) : Int) = arK K; rw [ha]; rfl) ?_ (fun i hi => ?_) ?_
 ·show okA l0.length _ (arK K) = true
  rw [ha]; unfold okA; rw [if_pos (by decide)]; exact decide_eq_true ⟨rfl, rfl, hs⟩
 ·obtain rfl : i = 0 := by have : i < 1 := hi; omega
  exact ⟨hx, ht⟩
 ·rw [tailV_parts _ _ _ (by show ¬ K ≤ 3; omega)]; unfold partsV; rw [if_neg]
  rintro ⟨h, _⟩; have : K = 6 := h; omega
theorem vOk_two {k : Nat} (hk : k ≤ 8) {l0 : List S57} {s : ByteArray} (hs : sepOk s) {x y : S29} (hx : vOk k l0 x) (ht : (tailV (k - 1) l0 x).1.f0 = 3) (hn : (tailV (k - 1) l0 x).1.f2 = false) (hy : vOk k l0 y) (hty : (tailV (k - 1) l0 y).1.f0 = 3) : vOk (k + 1) l0 ⟨6, 0, 0, s, [x, y]⟩ := by
 refine vOk_mk hk ⟨by show (1 : Int) ≤ 6; decide, by show (6 : Int) ≤ 6; decide⟩ rfl ?_ (fun i hi => ?_) ?_
 ·show okA l0.length _ 2 = true
  unfold okA; rw [if_pos (by decide)]; exact decide_eq_true ⟨rfl, rfl, hs⟩
 ·have : i = 0 ∨ i = 1 := by have : i < 2 := hi; omega
  rcases this with rfl | rfl
  ·exact ⟨hx, ht⟩
  ·exact ⟨hy, hty⟩
 ·obtain ⟨j, rfl⟩ : ∃ j, k = j + 1 := by
   cases k with
   | zero => exact hx.1.elim
   | succ j => exact ⟨j, rfl⟩
  have h8 : ofV (j + 1) l0 x 8 = tailV j l0 x := vOk_at hx 8 (by omega)
  rw [tailV_parts _ _ _ (by show ¬ (6 : Int) ≤ 3; decide), show yM [x, y] ((0 : Nat) : Int) = x from rfl, h8]
  unfold partsV; rw [if_neg]
  rintro ⟨_, h⟩
  rw [show j + 1 - 1 = j from rfl] at hn
  rw [hn] at h; cases h
end
section
open Go.RowKit
theorem ask_true (w : World) : Calls Tryz.prog 66 #[.bool true] w fun e w' => e = .returned (.tuple #[]) ∧ Below w.heap.size w w' := by
 go_enter Tryz.func66, Tryz.ntmps66
 go_wp2_with fail
 refine bodyPost_end (results_none rfl _ _ _) rfl ?_
 exact ⟨rfl, Below.refl _ _⟩
theorem Show_calls (l : List S39) (x : S29) (r : S39) (A1 : Option Addr) (c1 : Nat) (A : Option Addr) (c : Nat) (w : World) (hgl : Gl w) (hr : Kd.C k39 w A1 l.length l) (hlc : x.f4.length ≤ c) (hC : k29.C w A x.f4.length x.f4)
  (hs : To 33 none 0 0 l x (.agg (vC r))) :
  Calls Tryz.prog 12 #[.agg (lC x A c), .slice A1 l.length c1] w fun e w' => e = .returned (.agg (vC r)) ∧ Below w.heap.size w w' := by
 have hu := Tryz.underlying39
 have hu2 := Tryz.underlying29
 have hu3 := Tryz.underlying76
 have HX := yC.mk (Bxs.start w)
 obtain ⟨k, a, s, sep, l4⟩ := x
 dsimp only at hlc hC
 have H : yC (∀ (w' : World), Below w.heap.size w w' → Calls Tryz.prog 33 #[.agg #[.slice none 0 0, .slice A1 l.length c1], .agg #[.int .i64 k, .int .i64 a, .int .i64 s, .string sep, .slice A l4.length c]] w' fun e w'' => e = .returned (.agg (vC r)) ∧ Below w'.heap.size w' w'') :=
  ⟨fun w' hb => hs A1 c1 A c w' (hgl.below hb) (Kd.yI hr hb) hlc (Kd.yI hC hb)⟩
 obtain ⟨Y0, Y1, Y2⟩ := r
 unfold lC vC at *
 dsimp only at H ⊢
 generalize l.length = n1 at *
 generalize l4.length = n4 at *
 clear hs hr hlc hC hgl
 go_enter Tryz.func12, Tryz.ntmps12
 go_wp2_with (first | ((with_reducible refine yK (N := 2) rfl ?_); refine yQ (w := w) ?hg (N := 2) ?hd (cs := #[.int .i64 k, .int .i64 a, .int .i64 s, .string sep, .slice A n4 c]) (t := 29) HX.out ?hr ?_; (case hd | hg => rfl); (case hr => go_simp; try rfl); intro g2 W2 hx; replace HX := yC.mk hx; clear hx) | ((with_reducible refine yK (N := 4) rfl ?_); refine yQ (w := w) ?hg (N := 4) ?hd (cs := #[.int .i64 0, .int .i64 0, .string (⟨#[]⟩ : ByteArray)]) (t := 39) HX.out ?hr ?_; (case hd | hg => rfl); (case hr => go_simp; try rfl); intro g4 W4 hx; replace HX := yC.mk hx; clear hx; have u0 := HX.out.cell 1 0 rfl rfl; have u1 := HX.out.cell 1 1 rfl rfl; have u2 := HX.out.cell 1 2 rfl rfl; have u3 := HX.out.cell 1 3 rfl rfl; have u4 := HX.out.cell 1 4 rfl rfl) | (go_at_call 33; with_reducible refine (H.out _ HX.out.below).mono ?_; rintro e WX ⟨rfl, hb⟩; have hx := HX.out.call hb; clear HX hb u0 u1 u2 u3 u4; have HX := yC.mk hx; clear hx; have x0 := HX.out.cell 0 0 rfl rfl; have x1 := HX.out.cell 0 1 rfl rfl; have x2 := HX.out.cell 0 2 rfl rfl; have z0 := HX.out.frz 0 0 rfl; have z1 := HX.out.frz 0 1 rfl; have z2 := HX.out.frz 0 2 rfl))
 have HY := ((HX.out.set (L1 := []) 0 (.int .i64 Y0)).set (L1 := []) 1 (.int .i64 Y1)).set (L1 := []) 2 (.string Y2)
 refine bodyPost_ret (results_cell_row rfl _ _ g4 39 #[.int .i64 Y0, .int .i64 Y1, .string Y2] (0, 0) _ rfl (HY.at 0 rfl) hu rfl (by kernel_rfl)) rfl ?_
 exact ⟨rfl, HY.below⟩
end
section
open Go.RowKit
def failE : PanicEntry := { v := .iface 98 (.agg #[]), recovered := false }
theorem ask_false (w : World) : Calls Tryz.prog 66 #[.bool false] w fun e w' => e = .panicked [failE] ∧ Below w.heap.size w w' := by
 go_enter Tryz.func66, Tryz.ntmps66
 go_wp2_with fail
 exact ⟨rfl, rfl, Below.refl _ _⟩
theorem ask_calls (b : Bool) (w : World) : Calls Tryz.prog 66 #[.bool b] w fun e w' => e = (if b = true then .returned (.tuple #[]) else .panicked [failE]) ∧ Below w.heap.size w w' := by
 cases b
 ·exact ask_false w
 ·exact ask_true w
theorem info39k : (Tryz.prog.info? 39).map (fun i => (i.zero, i.size, i.bytes)) = some (some (.agg #[(.int .i64 0), (.int .i64 0), (.string ⟨#[]⟩)]), k39.sz, 32) := info39
theorem clone_calls (l : List S39) (ad : Addr) (c : Nat) (w : World) (hC : Kd.C k39 w (some ad) l.length l) (hz : l.length * 32 ≤ 140737488355328) :
  Calls Tryz.prog 94 #[.slice (some ad) l.length c] w fun e w' => ∃ v, e = .returned v ∧ Kd.R k39 39 w' w.heap.size (fun _ => True) v l ∧ Below w.heap.size w w' := by
 have he : ∀ (n c : Nat) (W : World), Sem.run Tryz.prog (binOp .eql 30 (.slice (some ad) n c) (.slice none 0 0)) W = .ok (.bool false) W := fun _ _ _ => rfl
 have HC := yC.mk hC
 have HZ := yC.mk hz
 clear hC hz
 go_enter Tryz.func94, Tryz.ntmps94
 go_wp2_with (first | ((with_reducible refine yK (N := 5) rfl ?_); refine Kd.R_lit k39 (w0 := w) w.heap.size 39 ?hg (N := 5) ?hd (xs := ([] : List S39)) (inner := []) (ok := fun _ => True) (okp := fun _ => True) ?hr ?hp (fun _ hk => hk) trivial (Below.refl _ _) (Nat.le_refl _) (by simp) ?_; (case hd | hg => rfl); (case hr => go_simp; try rfl); (case hp => exact (Reps.none _ _)); intro v5 W5 ho hb hg_ hnew_; clear hg_ hnew_; have HO := yC.mk ho; have HB := yC.mk hb; clear ho hb) | ((with_reducible refine gate_builtin (b := .append) (xs := #[.tmp 5, .tmp 6]) rfl ?_); at_builtin; refine Kd.R_append_rows k39 (Rr := k39.K _) (w0 := w) w.heap.size rfl (.tmp 5) (.tmp 6) 30 39 (.agg #[.int .i64 0, .int .i64 0, .string ⟨#[]⟩]) 32 rfl Tryz.underlying30 info39k rfl (by decide) (by decide) _ [] l (some ad) l.length c (fun _ => True) (fun _ => False) rfl rfl HO.out (Kd.yI HC.out HB.out) (fun x cs h => by obtain rfl := k39_open h; exact k39_mkM _ _ _ _) (fun _ hk => hk.elim) (fun _ _ => trivial) HB.out HB.out.size (by have := HZ.out; simpa using this) ?_; intro v7 W7 hr1 hb1 hg1 hat1; clear hg1 hat1; have HR := yC.mk hr1; have HB7 := yC.mk hb1; clear hr1 hb1 HO HB))
 go_ret
 exact ⟨v7, rfl, HR.out, HB7.out⟩
end
section
open Go.RowKit
def Row2 (A1 : Option Addr) (c1 : Nat) (l : List S39) (W : World) (base : Nat) (A2 : Option Addr) (c2 : Nat) (l' : List S39) : Prop :=
 (A2 = A1 ∧ c2 = c1 ∧ l' = l) ∨ Kd.R k39 39 W base (fun _ => True) (.slice A2 l'.length c2) l'
section
variable {A1 A2 A3 : Option Addr} {c1 c2 c3 base : Nat} {l l' l'' : List S39} {W W' : World}
theorem Row2.below (h : Row2 A1 c1 l W base A2 c2 l') (hb : Below W.heap.size W W') : Row2 A1 c1 l W' base A2 c2 l' := h.imp id (fun h => Kd.yJ h hb)
theorem Row2.lower {b : Nat} (h : Row2 A1 c1 l W base A2 c2 l') (hb : b ≤ base) : Row2 A1 c1 l W b A2 c2 l' := h.imp id (fun h => Kd.xJ h hb)
theorem Row2.set (h : Row2 A1 c1 l W base A2 c2 l') {g T : Nat} {cs : Array Value} (hb : W.heap[g]? = some (.cells cs T (0, 0))) (ht : ∀ q, q ∈ 39 :: k39.E → q ≠ T) (j : Nat) (u : Value) : Row2 A1 c1 l (W.setCell ⟨g, j, none⟩ u) base A2 c2 l' :=
 h.imp id (fun h => Kd.R_set h hb ht j u)
theorem Row2.has (h : Row2 A1 c1 l W base A2 c2 l') (hc : l.length ≤ c1) (hC : Kd.C k39 W A1 l.length l) : l'.length ≤ c2 ∧ Kd.C k39 W A2 l'.length l' := by
 rcases h with ⟨rfl, rfl, rfl⟩ | h
 ·exact ⟨hc, hC⟩
 ·exact (Kd.R_reads' h).2
theorem Row2.then (h : Row2 A1 c1 l W base A2 c2 l') (h2 : Row2 A2 c2 l' W base A3 c3 l'') : Row2 A1 c1 l W base A3 c3 l'' := by
 rcases h2 with ⟨rfl, rfl, rfl⟩ | h2
 ·exact h
 ·exact .inr h2
end
def PutRes (A0 : Option Addr) (n0 c0 : Nat) (A1 : Option Addr) (c1 : Nat) (l : List S39) (r : Option (List S39)) (w w' : World) (e : Ending) : Prop :=
 Below w.heap.size w w' ∧ match r with | some l' => ∃ A2 c2, e = .returned (.agg #[.slice A0 n0 c0, .slice A2 l'.length c2]) ∧ Row2 A1 c1 l w' w.heap.size A2 c2 l' | none => e = .panicked [failE]
def PutTo (fn : Nat) (l0 : List S57) (l : List S39) (x : S29) (v : S39) (r : Option (List S39)) : Prop :=
 ∀ (A0 : Option Addr) (c0 : Nat) (A1 : Option Addr) (c1 : Nat) (A : Option Addr) (c : Nat) (w : World), Gl w → l0.length ≤ c0 → Kd.C k57 w A0 l0.length l0 → l.length ≤ c1 → Kd.C k39 w A1 l.length l → x.f4.length ≤ c → k29.C w A x.f4.length x.f4 →
  Calls Tryz.prog fn #[.agg #[.slice A0 l0.length c0, .slice A1 l.length c1], .agg (lC x A c), .agg (vC v)] w fun e w' => PutRes A0 l0.length c0 A1 c1 l r w w' e
theorem Bxs.fresh {w W : World} {L : List (Nat × Nat × Array Value)} (h : Bxs w W L) {g : Nat} (hg : W.heap.size ≤ g) : w.heap.size ≤ g ∧ g ∉ L.map Prod.fst :=
 ⟨Nat.le_trans h.below.size hg, fun hm => by
  obtain ⟨p, hp, e⟩ := List.mem_map.1 hm
  have := blk_lt (h.blk p hp).2
  omega⟩
theorem Bxs.far {w W : World} {L : List (Nat × Nat × Array Value)} (h : Bxs w W L) {g : Nat} (hg : w.heap.size ≤ g ∧ g ∉ L.map Prod.fst) (j : Nat) (v : Value) : Bxs w (W.setCell ⟨g, j, none⟩ v) L :=
 ⟨xA h.below hg.1, fun p hp => ⟨(h.blk p hp).1, (Below.heap_setCell W ⟨g, j, none⟩ v p.1 (fun e => hg.2 (List.mem_map.2 ⟨p, hp, e⟩))).trans (h.blk p hp).2⟩, h.apart⟩
theorem setv {W : World} {g n cap : Nat} {l : List S39} {ok : Nat → Prop} {base : Nat} (h : Kd.R k39 39 W base ok (.slice (some ⟨g, 0, none⟩) n cap) l) (i : Nat) (hi : i < n) (v : S39) :
  Kd.R k39 39 (((W.setCell ⟨g, i * 3, none⟩ (.int .i64 v.f0)).setCell ⟨g, i * 3 + 1, none⟩ (.int .i64 v.f1)).setCell ⟨g, i * 3 + 2, none⟩ (.string v.f2)) base ok (.slice (some ⟨g, 0, none⟩) n cap) (l.set i v) := by
 obtain ⟨c, hcl, hM, hcc, _⟩ := Kd.R_elem h z39 (i : Int) (by omega) (by omega)
 exact (Kd.R_seg (okp := fun _ => False) (seg := [.int .i64 v.f0, .int .i64 v.f1, .string v.f2]) (j := 0) h (i : Int) (by omega) (by omega) hcl hcc (by show 0 + 3 ≤ 3; omega) (x' := v) (by
  rw [List.take_zero, List.nil_append, List.drop_of_length_le (by rw [hcl]; show 3 ≤ 0 + 3; omega), List.append_nil]; exact k39_mkM _ _ _ v) (fun _ hk => hk.elim)).1
theorem getv {W : World} {g n cap : Nat} {l : List S39} {ok : Nat → Prop} {base : Nat} (h : Kd.R k39 39 W base ok (.slice (some ⟨g, 0, none⟩) n cap) l) (i : Nat) (hi : i < n) :
  W.cell? ⟨g, i * 3, none⟩ = some (.int .i64 (yP l i).f0) ∧ W.cell? ⟨g, i * 3 + 1, none⟩ = some (.int .i64 (yP l i).f1) ∧ W.cell? ⟨g, i * 3 + 2, none⟩ = some (.string (yP l i).f2) ∧ (∀ j, W.frozen? ⟨g, j, none⟩ = false) := by
 obtain ⟨c, hcl, hM, hcc, _⟩ := Kd.R_elem h z39 (i : Int) (by omega) (by omega)
 obtain rfl := k39_openM hM
 obtain ⟨_, inner, ho, _⟩ := h
 refine ⟨hcc 0 _ rfl, hcc 1 _ rfl, hcc 2 _ rfl, fun j => ?_⟩
 obtain ⟨cells, hc⟩ := own_typed ho g (by simp [Value.ownBlock])
 exact yN hc j
theorem putValue_to (l0 : List S57) (l : List S39) (x : S29) (v : S39) (h0 : 0 ≤ x.f1) (h1 : x.f1 < l.length) (hz : l.length * 32 ≤ 140737488355328) :
  PutTo 69 l0 l x v (some (l.set x.f1.toNat v)) := by
 intro A0 c0 A1 c1 A c w hgl hc0 hr0 hc1 hr hlc hC
 have hu := Tryz.underlying39
 have hu2 := Tryz.underlying29
 have hu3 := Tryz.underlying76
 have HX := yC.mk (Bxs.start w)
 obtain ⟨ad, e, _⟩ := at_T39 hr x.f1 h0 h1
 cases e
 obtain ⟨k, a, s, sep, l4⟩ := x
 obtain ⟨V0, V1, V2⟩ := v
 dsimp only at h0 h1 hlc hC
 obtain ⟨i, rfl⟩ := Int.eq_ofNat_of_zero_le h0
 have HR := yC.mk (And.intro hr (And.intro hz (And.intro h0 h1)))
 have HK : yC (∀ (w' : World), Below w.heap.size w w' → Calls Tryz.prog 94 #[.slice (some ad) l.length c1] w' fun e w'' => ∃ g cap, e = .returned (.slice (some ⟨g, 0, none⟩) l.length cap) ∧ l.length ≤ cap ∧ w'.heap.size ≤ g ∧ Kd.R k39 39 w'' w'.heap.size (fun _ => True) (.slice (some ⟨g, 0, none⟩) l.length cap) l ∧ Below w'.heap.size w' w'') :=
  ⟨fun w' hb => (clone_calls l ad c1 w' (Kd.yI hr hb) hz).mono (by
   rintro e w'' ⟨v, rfl, hv, hb'⟩
   obtain ⟨g, cap, rfl, hg, _⟩ := Kd.R_form hv (by omega)
   exact ⟨g, cap, rfl, (Kd.R_reads' hv).2.1, hg, hv, hb'⟩)⟩
 obtain ⟨n1, hn1⟩ : ∃ n, l.length = n := ⟨_, rfl⟩
 have HN := yC.mk hn1
 unfold lC vC
 dsimp only
 unfold PutRes
 rw [hn1] at HK ⊢
 generalize l4.length = n4 at *
 generalize l0.length = n0 at *
 clear hr hC hlc hgl hz h0 h1 hr0 hn1
 go_enter Tryz.func69, Tryz.ntmps69
 go_upto_region 1 with (first | ((with_reducible refine yK (N := 3) rfl ?_); refine yQ (w := w) ?hg (N := 3) ?hd (cs := #[.slice A0 n0 c0, .slice (some ad) n1 c1]) (t := 76) HX.out ?hr ?_; (case hd | hg => rfl); (case hr => go_simp; try rfl); intro g3 W3 hx; replace HX := yC.mk hx; clear hx) | ((with_reducible refine yK (N := 4) rfl ?_); refine yQ (w := w) ?hg (N := 4) ?hd (cs := #[.int .i64 k, .int .i64 i, .int .i64 s, .string sep, .slice A n4 c]) (t := 29) HX.out ?hr ?_; (case hd | hg => rfl); (case hr => go_simp; try rfl); intro g4 W4 hx; replace HX := yC.mk hx; clear hx) | ((with_reducible refine yK (N := 5) rfl ?_); refine yQ (w := w) ?hg (N := 5) ?hd (cs := #[.int .i64 V0, .int .i64 V1, .string V2]) (t := 39) HX.out ?hr ?_; (case hd | hg => rfl); (case hr => go_simp; try rfl); intro g5 W5 hx; replace HX := yC.mk hx; clear hx) | ((with_reducible refine yK (N := 6) rfl ?_); refine yQ (w := w) ?hg (N := 6) ?hd (cs := #[.slice none 0 0, .slice none 0 0]) (t := 76) HX.out ?hr ?_; (case hd | hg => rfl); (case hr => go_simp; try rfl); intro g6 W6 hx; replace HX := yC.mk hx; clear hx; have u0 := HX.out.cell 3 0 rfl rfl; have u1 := HX.out.cell 3 1 rfl rfl; have z0 := HX.out.frz 3 0 rfl; have z1 := HX.out.frz 3 1 rfl))
 go_upto_region 2 with (first | (go_at_call 94; with_reducible refine (HK.out _ HX.out.below).mono ?_; rintro e WW ⟨g9, cap, rfl, hcap, hg9, hv, hb⟩; have hx := HX.out.call hb; have HGE := yC.mk (HX.out.fresh hg9); have HBS := yC.mk HX.out.below.size; clear HX hb u0 u1 z0 z1; have HX := yC.mk hx; clear hx; have HV := yC.mk (And.intro hg9 (And.intro hcap hv)); clear hv hcap hg9; have u0 := HX.out.cell 3 0 rfl rfl; have u1 := HX.out.cell 3 1 rfl rfl; have z0 := HX.out.frz 3 0 rfl; have z1 := HX.out.frz 3 1 rfl))
 have HY := HX.out.set (L1 := [_, _, _]) 1 (.slice (some ⟨g9, 0, none⟩) n1 cap)
 have HV2 := yC.mk (Kd.R_set HV.out.2.2 (HX.out.at 3 rfl) (by decide) 1 (.slice (some ⟨g9, 0, none⟩) n1 cap))
 have HCAP := yC.mk HV.out.2.1
 clear HX HV u0 u1 z0 z1
 generalize WW.setCell ⟨g3, 1, none⟩ (.slice (some ⟨g9, 0, none⟩) n1 cap) = W7 at *
 have HX : yC (Bxs w W7 [(g6, 76, #[.slice none 0 0, .slice none 0 0]), (g5, 39, #[.int .i64 V0, .int .i64 V1, .string V2]), (g4, 29, #[.int .i64 k, .int .i64 i, .int .i64 s, .string sep, .slice A n4 c]), (g3, 76, #[.slice A0 n0 c0, .slice (some ⟨g9, 0, none⟩) n1 cap])]) := ⟨HY⟩
 clear HY
 have hi : i < n1 := by rw [← HN.out]; have := HR.out.2.2.2; omega
 obtain ⟨e0, e1, e2, ez⟩ := getv HV2.out i hi
 have p0 : (0 ≤ (i : Int)) = True := eq_true (by omega)
 have p1 : ((i : Int) < (n1 : Int)) = True := eq_true (by omega)
 have p2 : (i < n1) = True := eq_true hi
 have y0 := ez (i * 3)
 have y1 := ez (i * 3 + 1)
 have y2 := ez (i * 3 + 2)
 have u0 := HX.out.cell 3 0 rfl rfl; have u1 := HX.out.cell 3 1 rfl rfl
 have s0 := HX.out.cell 2 0 rfl rfl; have s1 := HX.out.cell 2 1 rfl rfl
 have v0 := HX.out.cell 1 0 rfl rfl; have v1 := HX.out.cell 1 1 rfl rfl; have v2 := HX.out.cell 1 2 rfl rfl
 go_upto_region 3 with (fail)
 have HV3 := yC.mk (setv HV2.out i hi ⟨V0, V1, V2⟩)
 have HY := ((HX.out.far HGE.out (i * 3) (.int .i64 V0)).far HGE.out (i * 3 + 1) (.int .i64 V1)).far HGE.out (i * 3 + 2) (.string V2)
 clear HX HV2 e0 e1 e2 ez y0 y1 y2 u0 u1 s0 s1 v0 v1 v2 p0 p1 p2
 dsimp only at HV3
 generalize ((W7.setCell ⟨g9, i * 3, none⟩ (.int .i64 V0)).setCell ⟨g9, i * 3 + 1, none⟩ (.int .i64 V1)).setCell ⟨g9, i * 3 + 2, none⟩ (.string V2) = W8 at *
 have HX := yC.mk HY
 clear HY
 have u0 := HX.out.cell 3 0 rfl rfl; have u1 := HX.out.cell 3 1 rfl rfl
 have s0 := HX.out.cell 0 0 rfl rfl; have s1 := HX.out.cell 0 1 rfl rfl
 have z0 := HX.out.frz 0 0 rfl; have z1 := HX.out.frz 0 1 rfl
 go_wp2_with fail
 have HY := (HX.out.set (L1 := []) 0 (.slice A0 n0 c0)).set (L1 := []) 1 (.slice (some ⟨g9, 0, none⟩) n1 cap)
 have HC := Kd.R_set (Kd.R_set HV3.out (HX.out.at 0 rfl) (by decide) 0 (.slice A0 n0 c0)) ((HX.out.set (L1 := []) 0 (.slice A0 n0 c0)).at 0 rfl) (by decide) 1 (.slice (some ⟨g9, 0, none⟩) n1 cap)
 refine bodyPost_ret (results_cell_row rfl _ _ g6 76 #[.slice A0 n0 c0, .slice (some ⟨g9, 0, none⟩) n1 cap] (0, 0) _ rfl (HY.at 0 rfl) hu3 rfl (by kernel_rfl)) rfl ?_
 refine ⟨HY.below, some ⟨g9, 0, none⟩, cap, ?_, .inr ?_⟩
 ·simp only [List.length_set, HN.out]
 ·rw [List.length_set, HN.out]; exact Kd.xJ HC HBS.out
end
section
open Go.RowKit
theorem PutRes.step {A0 : Option Addr} {n0 c0 : Nat} {A1 : Option Addr} {c1 : Nat} {l : List S39} {r : Option (List S39)} {w W w' : World} {e : Ending} (h : PutRes A0 n0 c0 A1 c1 l r W w' e) (hb : Below w.heap.size w W) : PutRes A0 n0 c0 A1 c1 l r w w' e := by
 refine ⟨yD hb h.1, ?_⟩
 obtain ⟨_, h⟩ := h
 cases r with | none => exact h | some l' =>
  obtain ⟨A2, c2, e, h⟩ := h
  exact ⟨A2, c2, e, h.lower hb.size⟩
def putTextV (l : List S39) (x : S29) (v : S39) : Option (List S39) :=
 if v.f0 = 0 then some (l.set x.f1.toNat v)
 else match decimal_Parse.f v.f2 x.f2 with | some (n, e) => if e = 0 then some (l.set x.f1.toNat ⟨2, n, ⟨#[]⟩⟩) else none | none => none
theorem putText_to (l0 : List S57) (l : List S39) (x : S29) (v : S39) (h0 : 0 ≤ x.f1) (h1 : x.f1 < l.length) (hz : l.length * 32 ≤ 140737488355328) (n er : Int) (hp : v.f0 ≠ 0 → decimal_Parse.f v.f2 x.f2 = some (n, er)) :
  PutTo 74 l0 l x v (putTextV l x v) := by
 intro A0 c0 A1 c1 A c w hgl hc0 hr0 hc1 hr hlc hC
 have hu := Tryz.underlying39
 have hu2 := Tryz.underlying29
 have hu3 := Tryz.underlying76
 have HX := yC.mk (Bxs.start w)
 have HG := yC.mk hgl
 have HV : yC (∀ (u0 u1 : Int) (u2 : ByteArray) (w' : World), Below w.heap.size w w' → Calls Tryz.prog 69 #[.agg #[.slice A0 l0.length c0, .slice A1 l.length c1], .agg (lC x A c), .agg #[.int .i64 u0, .int .i64 u1, .string u2]] w' fun e w'' => PutRes A0 l0.length c0 A1 c1 l (some (l.set x.f1.toNat ⟨u0, u1, u2⟩)) w' w'' e) :=
  ⟨fun u0 u1 u2 w' hb => putValue_to l0 l x ⟨u0, u1, u2⟩ h0 h1 hz A0 c0 A1 c1 A c w' (hgl.below hb) hc0 (Kd.yI hr0 hb) hc1 (Kd.yI hr hb) hlc (Kd.yI hC hb)⟩
 obtain ⟨k, a, s, sep, l4⟩ := x
 obtain ⟨V0, V1, V2⟩ := v
 unfold lC vC at *
 dsimp only at h0 h1 hp HV ⊢
 have HP := yC.mk hp
 obtain ⟨R, hR⟩ : ∃ R, putTextV l ⟨k, a, s, sep, l4⟩ ⟨V0, V1, V2⟩ = R := ⟨_, rfl⟩
 rw [hR]
 unfold putTextV at hR
 dsimp only at hR
 have HR := yC.mk hR
 generalize l.length = n1 at *
 generalize l4.length = n4 at *
 generalize l0.length = n0 at *
 clear hr hC hlc hgl hz h0 h1 hr0 hp hR
 go_enter Tryz.func74, Tryz.ntmps74
 go_upto_region 1 with (first | ((with_reducible refine yK (N := 3) rfl ?_); refine yQ (w := w) ?hg (N := 3) ?hd (cs := #[.slice A0 n0 c0, .slice A1 n1 c1]) (t := 76) HX.out ?hr ?_; (case hd | hg => rfl); (case hr => go_simp; try rfl); intro g3 W3 hx; replace HX := yC.mk hx; clear hx) | ((with_reducible refine yK (N := 4) rfl ?_); refine yQ (w := w) ?hg (N := 4) ?hd (cs := #[.int .i64 k, .int .i64 a, .int .i64 s, .string sep, .slice A n4 c]) (t := 29) HX.out ?hr ?_; (case hd | hg => rfl); (case hr => go_simp; try rfl); intro g4 W4 hx; replace HX := yC.mk hx; clear hx) | ((with_reducible refine yK (N := 5) rfl ?_); refine yQ (w := w) ?hg (N := 5) ?hd (cs := #[.int .i64 V0, .int .i64 V1, .string V2]) (t := 39) HX.out ?hr ?_; (case hd | hg => rfl); (case hr => go_simp; try rfl); intro g5 W5 hx; replace HX := yC.mk hx; clear hx) | ((with_reducible refine yK (N := 6) rfl ?_); refine yQ (w := w) ?hg (N := 6) ?hd (cs := #[.slice none 0 0, .slice none 0 0]) (t := 76) HX.out ?hr ?_; (case hd | hg => rfl); (case hr => go_simp; try rfl); intro g6 W6 hx; replace HX := yC.mk hx; clear hx))
 have v0 := HX.out.cell 1 0 rfl rfl; have v1 := HX.out.cell 1 1 rfl rfl; have v2 := HX.out.cell 1 2 rfl rfl
 have u0 := HX.out.cell 2 0 rfl rfl; have u1 := HX.out.cell 2 1 rfl rfl; have u2 := HX.out.cell 2 2 rfl rfl; have u3 := HX.out.cell 2 3 rfl rfl; have u4 := HX.out.cell 2 4 rfl rfl
 have s0 := HX.out.cell 3 0 rfl rfl; have s1 := HX.out.cell 3 1 rfl rfl
 by_cases h : V0 = 0
 ·have d : (V0 == 0) = true := by simpa using h
  have HR2 := HR.out
  rw [if_pos h] at HR2
  subst HR2
  clear h HR
  go_wp2_with (first | (go_at_call 69; (with_reducible refine (HV.out _ _ _ _ HX.out.below).mono ?_); rintro e WW ⟨hb, A2, c2, rfl, hr2⟩; have HQ := yC.mk (hr2.lower HX.out.below.size); clear hr2; obtain ⟨l2, hl2⟩ : ∃ l2, l.set a.toNat ⟨V0, V1, V2⟩ = l2 := ⟨_, rfl⟩; rw [hl2] at HQ ⊢; have HL := yC.mk hl2; clear hl2; have hx := HX.out.call hb; clear HX hb u0 u1 u2 u3 u4 s0 s1 v0 v1 v2; have HX := yC.mk hx; clear hx; have x0 := HX.out.cell 0 0 rfl rfl; have x1 := HX.out.cell 0 1 rfl rfl; have z0 := HX.out.frz 0 0 rfl; have z1 := HX.out.frz 0 1 rfl))
  have HY := (HX.out.set (L1 := []) 0 (.slice A0 n0 c0)).set (L1 := []) 1 (.slice A2 l2.length c2)
  refine bodyPost_ret (results_cell_row rfl _ _ g6 76 #[.slice A0 n0 c0, .slice A2 l2.length c2] (0, 0) _ rfl (HY.at 0 rfl) hu3 rfl (by kernel_rfl)) rfl ?_
  rw [HL.out]
  exact ⟨HY.below, A2, c2, rfl, (HQ.out.set (HX.out.at 0 rfl) (by decide) _ _).set ((HX.out.set (L1 := []) 0 (.slice A0 n0 c0)).at 0 rfl) (by decide) _ _⟩
 ·have d : (V0 == 0) = false := by simpa using h
  have HR2 := HR.out
  have HP2 := yC.mk (HP.out h)
  rw [if_neg h, HP2.out] at HR2
  have HR2 := yC.mk HR2
  clear h HR HP
  go_upto_region 4 with (first | (go_at_call 98; with_reducible refine (decimal_Parse.calls _ _ _ _ _ (HG.out.below HX.out.below) HP2.out).mono ?_; rintro e WW ⟨rfl, hb⟩; have hx := HX.out.call hb; clear HX hb u0 u1 u2 u3 u4 s0 s1 v0 v1 v2; have HX := yC.mk hx; clear hx; have u0 := HX.out.cell 2 0 rfl rfl; have u1 := HX.out.cell 2 1 rfl rfl; have u2 := HX.out.cell 2 2 rfl rfl; have u3 := HX.out.cell 2 3 rfl rfl; have u4 := HX.out.cell 2 4 rfl rfl; have s0 := HX.out.cell 3 0 rfl rfl; have s1 := HX.out.cell 3 1 rfl rfl))
  by_cases he : er = 0
  ·subst he
   have d : ((0 : Int) == 0) = true := rfl
   have HR3 := HR2.out
   try dsimp only at HR3
   rw [if_pos rfl] at HR3
   subst HR3
   go_wp2_with (first | (go_at_call 66; with_reducible refine (ask_calls _ _).mono ?_; rintro e WW ⟨rfl, hb⟩; have hx := HX.out.call hb; clear HX hb u0 u1 u2 u3 u4 s0 s1; have HX := yC.mk hx; clear hx; have u0 := HX.out.cell 2 0 rfl rfl; have u1 := HX.out.cell 2 1 rfl rfl; have u2 := HX.out.cell 2 2 rfl rfl; have u3 := HX.out.cell 2 3 rfl rfl; have u4 := HX.out.cell 2 4 rfl rfl; have s0 := HX.out.cell 3 0 rfl rfl; have s1 := HX.out.cell 3 1 rfl rfl) | (go_at_call 69; (with_reducible refine (HV.out _ _ _ _ HX.out.below).mono ?_); rintro e WW ⟨hb, A2, c2, rfl, hr2⟩; have HQ := yC.mk (hr2.lower HX.out.below.size); clear hr2; obtain ⟨l2, hl2⟩ : ∃ l2, l.set a.toNat ⟨2, n, ⟨#[]⟩⟩ = l2 := ⟨_, rfl⟩; rw [hl2] at HQ ⊢; have HL := yC.mk hl2; clear hl2; have hx := HX.out.call hb; clear HX hb u0 u1 u2 u3 u4 s0 s1; have HX := yC.mk hx; clear hx; have x0 := HX.out.cell 0 0 rfl rfl; have x1 := HX.out.cell 0 1 rfl rfl; have z0 := HX.out.frz 0 0 rfl; have z1 := HX.out.frz 0 1 rfl))
   have HY := (HX.out.set (L1 := []) 0 (.slice A0 n0 c0)).set (L1 := []) 1 (.slice A2 l2.length c2)
   refine bodyPost_ret (results_cell_row rfl _ _ g6 76 #[.slice A0 n0 c0, .slice A2 l2.length c2] (0, 0) _ rfl (HY.at 0 rfl) hu3 rfl (by kernel_rfl)) rfl ?_
   rw [HL.out]
   exact ⟨HY.below, A2, c2, rfl, (HQ.out.set (HX.out.at 0 rfl) (by decide) _ _).set ((HX.out.set (L1 := []) 0 (.slice A0 n0 c0)).at 0 rfl) (by decide) _ _⟩
  ·have d : (er == 0) = false := by simpa using he
   have HR3 := HR2.out
   try dsimp only at HR3
   rw [if_neg he] at HR3
   subst HR3
   go_wp2_with (first | (go_at_call 66; with_reducible refine (ask_false _).mono ?_; rintro e WW ⟨rfl, hb⟩; have hx := HX.out.call hb; clear HX hb; have HX := yC.mk hx; clear hx))
   exact ⟨rfl, HX.out.below, rfl⟩
end
section
open Go.RowKit
def hasSep (s sep : ByteArray) : Bool := Lib.contains s.data.toList sep.data.toList
theorem putFirst_to (l0 : List S57) (l : List S39) (x : S29) (v r : S39) (R : Option (List S39)) (hn : 0 < x.f4.length) (hz : r.f2.size ≤ 100000 ∧ v.f2.size ≤ 100000 ∧ x.f3.size ≤ 100000 ∧ (xO r x.f3).f2.size ≤ 100000)
  (hs : ∀ A0 c0, To 33 A0 l0.length c0 l (yM x.f4 (0 : Nat)) (.agg (vC r))) (hp : v.f0 = 3 → hasSep v.f2 x.f3 = false → PutTo 54 l0 l (yM x.f4 (0 : Nat)) (joinV v (xO r x.f3) x.f3) R) :
  PutTo 77 l0 l x v (if v.f0 = 3 ∧ hasSep v.f2 x.f3 = false then R else none) := by
 intro A0 c0 A1 c1 A c w hgl hc0 hr0 hc1 hr hlc hC
 have hu := Tryz.underlying39
 have hu2 := Tryz.underlying29
 have hu3 := Tryz.underlying76
 have HX := yC.mk (Bxs.start w)
 have HG := yC.mk hgl
 have HR : yC (∀ (w' : World), Below w.heap.size w w' → Calls Tryz.prog 78 #[.agg #[.slice A0 l0.length c0, .slice A1 l.length c1], .agg (lC x A c)] w' fun e w'' => e = .returned (.agg (vC (xO r x.f3))) ∧ Below w'.heap.size w' w'') :=
  ⟨fun w' hb => showRest_to A0 l0.length c0 l x r hn (by omega) (hs A0 c0) A1 c1 A c w' (hgl.below hb) (Kd.yI hr hb) hlc (Kd.yI hC hb)⟩
 obtain ⟨k, a, s, sep, l4⟩ := x
 dsimp only at hn hs hp hlc hC hz HR ⊢
 obtain ⟨ad, q, A4, c4, e, hq, K⟩ := kid hC 0 hn
 cases e
 obtain ⟨V0, V1, V2⟩ := v
 obtain ⟨RES, hRES⟩ : ∃ X, (if V0 = 3 ∧ hasSep V2 sep = false then R else none) = X := ⟨_, rfl⟩
 have HE : yC ((if V0 = 3 ∧ hasSep V2 sep = false then R else none) = RES) := ⟨hRES⟩
 dsimp only at hp
 rw [hRES]
 clear hRES
 have HJ : yC (∀ (w' : World), Calls Tryz.prog 101 #[.agg (vC ⟨V0, V1, V2⟩), .agg (vC (xO r sep)), .string sep] w' fun e w'' => e = .returned (.agg (vC (joinV ⟨V0, V1, V2⟩ (xO r sep) sep))) ∧ Below w'.heap.size w' w'') :=
  ⟨fun w' => join_calls ⟨V0, V1, V2⟩ (xO r sep) sep w' ⟨hz.2.1, hz.2.2.2, hz.2.2.1⟩⟩
 generalize joinV ⟨V0, V1, V2⟩ (xO r sep) sep = j at *
 generalize xO r sep = b at *
 generalize yM l4 ((0 : Nat) : Int) = y at *
 obtain ⟨Y0, Y1, Y2, Y3, l5⟩ := y
 obtain ⟨J0, J1, J2⟩ := j
 obtain ⟨B0, B1, B2⟩ := b
 have HP : yC (V0 = 3 → hasSep V2 sep = false → ∀ (w' : World), Below w.heap.size w w' → Calls Tryz.prog 54 #[.agg #[.slice A0 l0.length c0, .slice A1 l.length c1], .agg #[.int .i64 Y0, .int .i64 Y1, .int .i64 Y2, .string Y3, .slice A4 l5.length c4], .agg #[.int .i64 J0, .int .i64 J1, .string J2]] w' fun e w'' => PutRes A0 l0.length c0 A1 c1 l R w' w'' e) :=
  ⟨fun h1 h2 w' hb => hp h1 h2 A0 c0 A1 c1 A4 c4 w' (hgl.below hb) hc0 (Kd.yI hr0 hb) hc1 (Kd.yI hr hb) K.len (Kd.yI K.has hb)⟩
 have HZ : yC (V2.size < 4294967281) := ⟨by have := hz.2.1; dsimp only at this; omega⟩
 obtain ⟨h0, h1, h2, h3, h4, _, _⟩ := K
 unfold lC vC at *
 dsimp only at h0 h1 h2 h3 h4 HR HJ ⊢
 generalize l5.length = n5 at *
 generalize l4.length = n4 at *
 generalize l.length = n1 at *
 generalize l0.length = n0 at *
 have Q := yC.mk (And.intro h0 (And.intro h1 (And.intro h2 (And.intro h3 h4))))
 have p0 : ((0 : Int) < (n4 : Int)) = True := eq_true (by omega)
 have p1 : (0 < n4) = True := eq_true hn
 clear h0 h1 h2 h3 h4 hn hlc hC hr hgl hs hz hr0 hp
 go_enter Tryz.func77, Tryz.ntmps77
 go_upto_region 1 with (first | ((with_reducible refine yK (N := 3) rfl ?_); refine yQ (w := w) ?hg (N := 3) ?hd (cs := #[.slice A0 n0 c0, .slice A1 n1 c1]) (t := 76) HX.out ?hr ?_; (case hd | hg => rfl); (case hr => go_simp; try rfl); intro g3 W3 hx; replace HX := yC.mk hx; clear hx) | ((with_reducible refine yK (N := 4) rfl ?_); refine yQ (w := w) ?hg (N := 4) ?hd (cs := #[.int .i64 k, .int .i64 a, .int .i64 s, .string sep, .slice (some ad) n4 c]) (t := 29) HX.out ?hr ?_; (case hd | hg => rfl); (case hr => go_simp; try rfl); intro g4 W4 hx; replace HX := yC.mk hx; clear hx) | ((with_reducible refine yK (N := 5) rfl ?_); refine yQ (w := w) ?hg (N := 5) ?hd (cs := #[.int .i64 V0, .int .i64 V1, .string V2]) (t := 39) HX.out ?hr ?_; (case hd | hg => rfl); (case hr => go_simp; try rfl); intro g5 W5 hx; replace HX := yC.mk hx; clear hx) | ((with_reducible refine yK (N := 6) rfl ?_); refine yQ (w := w) ?hg (N := 6) ?hd (cs := #[.slice none 0 0, .slice none 0 0]) (t := 76) HX.out ?hr ?_; (case hd | hg => rfl); (case hr => go_simp; try rfl); intro g6 W6 hx; replace HX := yC.mk hx; clear hx))
 have v0 := HX.out.cell 1 0 rfl rfl; have v1 := HX.out.cell 1 1 rfl rfl; have v2 := HX.out.cell 1 2 rfl rfl
 have b0 := HX.out.cell 2 0 rfl rfl; have b1 := HX.out.cell 2 1 rfl rfl; have b2 := HX.out.cell 2 2 rfl rfl; have b3 := HX.out.cell 2 3 rfl rfl; have b4 := HX.out.cell 2 4 rfl rfl
 by_cases hv : V0 = 3
 ·cases hh : hasSep V2 sep
  ·have d : (V0 == 3) = true := by simpa using hv
   have HE2 := HE.out
   rw [if_pos ⟨hv, hh⟩] at HE2
   have HP2 := yC.mk (HP.out hv hh)
   have HH : yC (Lib.contains V2.data.toList sep.data.toList = false) := ⟨hh⟩
   subst HE2
   clear HP HE hv hh
   go_upto_region 2 with (first | (go_at_call 100; (with_reducible refine (Tryz.strings_Contains V2 sep _ _ HZ.out (HG.out.below HX.out.below).maxlen.choose_spec).mono ?_); rintro e WW ⟨rfl, rfl⟩; rw [HH.out]) | (go_at_call 66; (with_reducible refine (ask_true _).mono ?_); rintro e WW ⟨rfl, hb⟩; have hx := HX.out.call hb; clear HX hb v0 v1 v2 b0 b1 b2 b3 b4; have HX := yC.mk hx; clear hx))
   have v0 := HX.out.cell 1 0 rfl rfl; have v1 := HX.out.cell 1 1 rfl rfl; have v2 := HX.out.cell 1 2 rfl rfl
   have b0 := HX.out.cell 2 0 rfl rfl; have b1 := HX.out.cell 2 1 rfl rfl; have b2 := HX.out.cell 2 2 rfl rfl; have b3 := HX.out.cell 2 3 rfl rfl; have b4 := HX.out.cell 2 4 rfl rfl
   have a0 := HX.out.cell 3 0 rfl rfl; have a1 := HX.out.cell 3 1 rfl rfl
   have q0 := yB HX.out.below Q.out.1
   have q1 := yB HX.out.below Q.out.2.1
   have q2 := yB HX.out.below Q.out.2.2.1
   have q3 := yB HX.out.below Q.out.2.2.2.1
   have q4 := yB HX.out.below Q.out.2.2.2.2
   refine Reg.wp_det [(some 19, Reg.Dv.c (.agg #[.slice A0 n0 c0, .slice A1 n1 c1])), (some 20, Reg.Dv.c (.pointer (some ⟨g4, 4, none⟩))), (some 21, Reg.Dv.c (.slice (some ad) n4 c)), (some 22, Reg.Dv.c (.pointer (some q))), (some 23, Reg.Dv.c (.agg #[.int .i64 Y0, .int .i64 Y1, .int .i64 Y2, .string Y3, .slice A4 n5 c4])), (some 24, Reg.Dv.c (.agg #[.int .i64 V0, .int .i64 V1, .string V2])), (some 25, Reg.Dv.c (.agg #[.slice A0 n0 c0, .slice A1 n1 c1])), (some 26, Reg.Dv.c (.agg #[.int .i64 k, .int .i64 a, .int .i64 s, .string sep, .slice (some ad) n4 c])), (some 27, Reg.Dv.c (.agg #[.int .i64 B0, .int .i64 B1, .string B2])), (some 28, Reg.Dv.c (.pointer (some ⟨g4, 3, none⟩))), (some 29, Reg.Dv.c (.string sep)), (some 30, Reg.Dv.c (.agg #[.int .i64 J0, .int .i64 J1, .string J2]))] [] 32 rfl (by kernel_rfl) rfl (by kernel_rfl) (by kernel_rfl) (by kernel_rfl) rfl (by kernel_rfl) rfl rfl rfl ?step ?done
   case step =>
    intro iq oq pq hiq hoq hpq ρ ev W S hE hO ec ef hB hft hΦ
    have e3 : ev (.tmp 3) = .pointer (some ⟨g3, 0, none⟩) := hO 3 rfl
    have e4 : ev (.tmp 4) = .pointer (some ⟨g4, 0, none⟩) := hO 4 rfl
    have e5 : ev (.tmp 5) = .pointer (some ⟨g5, 0, none⟩) := hO 5 rfl
    have a0' := yB hB a0
    have a1' := yB hB a1
    have b0' := yB hB b0
    have b1' := yB hB b1
    have b2' := yB hB b2
    have b3' := yB hB b3
    have b4' := yB hB b4
    have v0' := yB hB v0
    have v1' := yB hB v1
    have v2' := yB hB v2
    have q0' := yB hB q0
    have q1' := yB hB q1
    have q2' := yB hB q2
    have q3' := yB hB q3
    have q4' := yB hB q4
    simp only [Reg.Ls_some, Reg.Ls_none, Reg.Ls_nil, Reg.val_c, Reg.val_u, Reg.val_n, Reg.val_box, List.forall_mem_cons, List.map_cons, List.map_nil] at hE
    obtain ⟨e19, e20, e21, e22, e23, e24, e25, e26, e27, e28, e29, e30, _⟩ := hE
    have hiq2 : iq = 0 ∨ iq = 1 ∨ iq = 2 ∨ iq = 3 ∨ iq = 4 ∨ iq = 5 ∨ iq = 6 ∨ iq = 7 ∨ iq = 8 ∨ iq = 9 ∨ iq = 10 ∨ iq = 11 := by have : iq < 12 := hiq; omega
    clear hiq
    rcases hiq2 with rfl | rfl | rfl | rfl | rfl | rfl | rfl | rfl | rfl | rfl | rfl | rfl
    all_goals cases hoq
    all_goals cases hpq
    rotate_left 11
    ·refine Reg.DStep.cc (g := 101) (args := #[.agg #[.int .i64 V0, .int .i64 V1, .string V2], .agg #[.int .i64 B0, .int .i64 B1, .string B2], .string sep]) (by first | exact .inl rfl | exact .inr ⟨_, _, _, rfl, rfl, (by assumption)⟩) hB (by go_simp; try rfl) ?_
     exact HJ.out W
    rotate_right 11
    rotate_left 8
    ·refine Reg.DStep.cc (g := 78) (args := #[.agg #[.slice A0 n0 c0, .slice A1 n1 c1], .agg #[.int .i64 k, .int .i64 a, .int .i64 s, .string sep, .slice (some ad) n4 c]]) (by first | exact .inl rfl | exact .inr ⟨_, _, _, rfl, rfl, (by assumption)⟩) hB (by go_simp; try rfl) ?_
     exact HR.out W (yD HX.out.below hB)
    rotate_right 8
    all_goals (refine Reg.DStep.cv (by first | exact .inl rfl | exact .inr ⟨_, _, _, rfl, rfl, (by assumption)⟩) hB ?_; go_simp; try (first | done | rfl | (rw [← hq]; rfl) | (simp [← hq]; done)))
   case done =>
    intro ρ W S hB hft hap hΦ
    simp only [Reg.Ls_some, Reg.Ls_none, Reg.Ls_nil, Reg.val_c, Reg.val_u, Reg.val_n, Reg.val_box, List.map_cons, List.map_nil, Reg.puts, Act.put, List.setIfInBounds_toArray, List.set_cons_zero, List.set_cons_succ, List.drop_succ_cons, List.drop_zero, List.length_cons, List.length_nil, Nat.zero_add, Nat.reduceAdd]
    have HX := HX.cl hB
    clear hΦ hft hap v0 v1 v2 b0 b1 b2 b3 b4 a0 a1 q0 q1 q2 q3 q4
    cases R with | none =>
     go_wp2_with (first | (go_at_call 54; (with_reducible refine (HP2.out _ HX.out.below).mono ?_); rintro e WX ⟨hb, rfl⟩; have hx := HX.out.call hb; clear HX hb; have HX := yC.mk hx; clear hx))
     exact ⟨rfl, HX.out.below, rfl⟩ | some l2 =>
     go_wp2_with (first | (go_at_call 54; (with_reducible refine (HP2.out _ HX.out.below).mono ?_); rintro e WX ⟨hb, A2, c2, rfl, hr⟩; have HQ := yC.mk (hr.lower HX.out.below.size); have hx := HX.out.call hb; clear HX hb hr; have HX := yC.mk hx; clear hx; have x0 := HX.out.cell 0 0 rfl rfl; have x1 := HX.out.cell 0 1 rfl rfl; have z0 := HX.out.frz 0 0 rfl; have z1 := HX.out.frz 0 1 rfl))
     have HY := (HX.out.set (L1 := []) 0 (.slice A0 n0 c0)).set (L1 := []) 1 (.slice A2 l2.length c2)
     refine bodyPost_ret (results_cell_row rfl _ _ g6 76 #[.slice A0 n0 c0, .slice A2 l2.length c2] (0, 0) _ rfl (HY.at 0 rfl) hu3 rfl (by kernel_rfl)) rfl ?_
     exact ⟨HY.below, A2, c2, rfl, (HQ.out.set (HX.out.at 0 rfl) (by decide) _ _).set ((HX.out.set (L1 := []) 0 (.slice A0 n0 c0)).at 0 rfl) (by decide) _ _⟩
  ·have d : (V0 == 3) = true := by simpa using hv
   have HE2 := HE.out
   rw [if_neg (fun h => by have := h.2; rw [hh] at this; cases this)] at HE2
   have HH : yC (Lib.contains V2.data.toList sep.data.toList = true) := ⟨hh⟩
   subst HE2
   clear HP HE hv hh
   go_wp2_with (first | (go_at_call 100; (with_reducible refine (Tryz.strings_Contains V2 sep _ _ HZ.out (HG.out.below HX.out.below).maxlen.choose_spec).mono ?_); rintro e WW ⟨rfl, rfl⟩; rw [HH.out]) | (go_at_call 66; (with_reducible refine (ask_false _).mono ?_); rintro e WW ⟨rfl, hb⟩; have hx := HX.out.call hb; clear HX hb v0 v1 v2 b0 b1 b2 b3 b4; have HX := yC.mk hx; clear hx))
   exact ⟨rfl, HX.out.below, rfl⟩
 ·have d : (V0 == 3) = false := by simpa using hv
  have HE2 := HE.out
  rw [if_neg (fun h => hv h.1)] at HE2
  subst HE2
  clear HP HE hv
  go_wp2_with (first | (go_at_call 66; (with_reducible refine (ask_false _).mono ?_); rintro e WW ⟨rfl, hb⟩; have hx := HX.out.call hb; clear HX hb v0 v1 v2 b0 b1 b2 b3 b4; have HX := yC.mk hx; clear hx))
  exact ⟨rfl, HX.out.below, rfl⟩
theorem putRest_to (l0 : List S57) (l : List S39) (x : S29) (v r : S39) (R : Option (List S39)) (hn : 0 < x.f4.length) (hz : r.f2.size ≤ 100000 ∧ v.f2.size ≤ 100000 ∧ x.f3.size ≤ 100000 ∧ (aheadV r x.f3).f2.size ≤ 100000)
  (hs : ∀ A0 c0, To 33 A0 l0.length c0 l (yM x.f4 (0 : Nat)) (.agg (vC r))) (hp : (aheadV r x.f3).f0 = 3 → PutTo 54 l0 l (yM x.f4 (0 : Nat)) (joinV (aheadV r x.f3) v x.f3) R) :
  PutTo 79 l0 l x v (if (aheadV r x.f3).f0 = 3 then R else none) := by
 intro A0 c0 A1 c1 A c w hgl hc0 hr0 hc1 hr hlc hC
 have hu := Tryz.underlying39
 have hu2 := Tryz.underlying29
 have hu3 := Tryz.underlying76
 have HX := yC.mk (Bxs.start w)
 have HG := yC.mk hgl
 have HR : yC (∀ (w' : World), Below w.heap.size w w' → Calls Tryz.prog 76 #[.agg #[.slice A0 l0.length c0, .slice A1 l.length c1], .agg (lC x A c)] w' fun e w'' => e = .returned (.agg (vC (aheadV r x.f3))) ∧ Below w'.heap.size w' w'') :=
  ⟨fun w' hb => showFirst_to A0 l0.length c0 l x r hn (by omega) (hs A0 c0) A1 c1 A c w' (hgl.below hb) (Kd.yI hr hb) hlc (Kd.yI hC hb)⟩
 obtain ⟨k, a, s, sep, l4⟩ := x
 dsimp only at hn hs hp hlc hC hz HR ⊢
 obtain ⟨ad, q, A4, c4, e, hq, K⟩ := kid hC 0 hn
 cases e
 obtain ⟨V0, V1, V2⟩ := v
 have HJ : yC (∀ (w' : World), Calls Tryz.prog 101 #[.agg (vC (aheadV r sep)), .agg (vC ⟨V0, V1, V2⟩), .string sep] w' fun e w'' => e = .returned (.agg (vC (joinV (aheadV r sep) ⟨V0, V1, V2⟩ sep))) ∧ Below w'.heap.size w' w'') :=
  ⟨fun w' => join_calls (aheadV r sep) ⟨V0, V1, V2⟩ sep w' ⟨hz.2.2.2, hz.2.1, hz.2.2.1⟩⟩
 generalize joinV (aheadV r sep) ⟨V0, V1, V2⟩ sep = j at *
 generalize aheadV r sep = b at *
 generalize yM l4 ((0 : Nat) : Int) = y at *
 obtain ⟨Y0, Y1, Y2, Y3, l5⟩ := y
 obtain ⟨J0, J1, J2⟩ := j
 obtain ⟨H0, H1, H2⟩ := b
 dsimp only at hp ⊢
 obtain ⟨RES, hRES⟩ : ∃ X, (if H0 = 3 then R else none) = X := ⟨_, rfl⟩
 have HE : yC ((if H0 = 3 then R else none) = RES) := ⟨hRES⟩
 rw [hRES]
 clear hRES
 have HP : yC (H0 = 3 → ∀ (w' : World), Below w.heap.size w w' → Calls Tryz.prog 54 #[.agg #[.slice A0 l0.length c0, .slice A1 l.length c1], .agg #[.int .i64 Y0, .int .i64 Y1, .int .i64 Y2, .string Y3, .slice A4 l5.length c4], .agg #[.int .i64 J0, .int .i64 J1, .string J2]] w' fun e w'' => PutRes A0 l0.length c0 A1 c1 l R w' w'' e) :=
  ⟨fun h1 w' hb => hp h1 A0 c0 A1 c1 A4 c4 w' (hgl.below hb) hc0 (Kd.yI hr0 hb) hc1 (Kd.yI hr hb) K.len (Kd.yI K.has hb)⟩
 obtain ⟨h0, h1, h2, h3, h4, _, _⟩ := K
 unfold lC vC at *
 dsimp only at h0 h1 h2 h3 h4 HR HJ ⊢
 generalize l5.length = n5 at *
 generalize l4.length = n4 at *
 generalize l.length = n1 at *
 generalize l0.length = n0 at *
 have Q := yC.mk (And.intro h0 (And.intro h1 (And.intro h2 (And.intro h3 h4))))
 have p0 : ((0 : Int) < (n4 : Int)) = True := eq_true (by omega)
 have p1 : (0 < n4) = True := eq_true hn
 clear h0 h1 h2 h3 h4 hn hlc hC hr hgl hs hz hr0 hp
 go_enter Tryz.func79, Tryz.ntmps79
 go_upto_region 2 with (first | ((with_reducible refine yK (N := 3) rfl ?_); refine yQ (w := w) ?hg (N := 3) ?hd (cs := #[.slice A0 n0 c0, .slice A1 n1 c1]) (t := 76) HX.out ?hr ?_; (case hd | hg => rfl); (case hr => go_simp; try rfl); intro g3 W3 hx; replace HX := yC.mk hx; clear hx) | ((with_reducible refine yK (N := 4) rfl ?_); refine yQ (w := w) ?hg (N := 4) ?hd (cs := #[.int .i64 k, .int .i64 a, .int .i64 s, .string sep, .slice (some ad) n4 c]) (t := 29) HX.out ?hr ?_; (case hd | hg => rfl); (case hr => go_simp; try rfl); intro g4 W4 hx; replace HX := yC.mk hx; clear hx) | ((with_reducible refine yK (N := 5) rfl ?_); refine yQ (w := w) ?hg (N := 5) ?hd (cs := #[.int .i64 V0, .int .i64 V1, .string V2]) (t := 39) HX.out ?hr ?_; (case hd | hg => rfl); (case hr => go_simp; try rfl); intro g5 W5 hx; replace HX := yC.mk hx; clear hx) | ((with_reducible refine yK (N := 6) rfl ?_); refine yQ (w := w) ?hg (N := 6) ?hd (cs := #[.slice none 0 0, .slice none 0 0]) (t := 76) HX.out ?hr ?_; (case hd | hg => rfl); (case hr => go_simp; try rfl); intro g6 W6 hx; replace HX := yC.mk hx; clear hx; have a0 := HX.out.cell 3 0 rfl rfl; have a1 := HX.out.cell 3 1 rfl rfl; have b0 := HX.out.cell 2 0 rfl rfl; have b1 := HX.out.cell 2 1 rfl rfl; have b2 := HX.out.cell 2 2 rfl rfl; have b3 := HX.out.cell 2 3 rfl rfl; have b4 := HX.out.cell 2 4 rfl rfl) | (go_at_call 76; (with_reducible refine (HR.out _ HX.out.below).mono ?_); rintro e WW ⟨rfl, hb⟩; have hx := HX.out.call hb; clear HX hb a0 a1 b0 b1 b2 b3 b4; have HX := yC.mk hx; clear hx) | ((with_reducible refine yK (N := 7) rfl ?_); refine yQ (w := w) ?hg (N := 7) ?hd (cs := #[.int .i64 0, .int .i64 0, .string (⟨#[]⟩ : ByteArray)]) (t := 39) HX.out ?hr ?_; (case hd | hg => rfl); (case hr => go_simp; try rfl); intro g7 W7 hx; replace HX := yC.mk hx; clear hx; have h0 := HX.out.cell 0 0 rfl rfl; have h1 := HX.out.cell 0 1 rfl rfl; have h2 := HX.out.cell 0 2 rfl rfl; have z0 := HX.out.frz 0 0 rfl; have z1 := HX.out.frz 0 1 rfl; have z2 := HX.out.frz 0 2 rfl))
 have HY := ((HX.out.set (L1 := []) 0 (.int .i64 H0)).set (L1 := []) 1 (.int .i64 H1)).set (L1 := []) 2 (.string H2)
 clear HX h0 h1 h2 z0 z1 z2
 generalize ((W7.setCell ⟨g7, 0, none⟩ (.int .i64 H0)).setCell ⟨g7, 1, none⟩ (.int .i64 H1)).setCell ⟨g7, 2, none⟩ (.string H2) = W8 at *
 have HX := yC.mk HY
 clear HY
 have h0 := HX.out.cell 0 0 rfl rfl; have h1 := HX.out.cell 0 1 rfl rfl; have h2 := HX.out.cell 0 2 rfl rfl
 by_cases hv : H0 = 3
 ·have d : (H0 == 3) = true := by simpa using hv
  have HE2 := HE.out
  rw [if_pos hv] at HE2
  have HP2 := yC.mk (HP.out hv)
  subst HE2
  clear HP HE hv
  go_upto_region 3 with (first | (go_at_call 66; (with_reducible refine (ask_true _).mono ?_); rintro e WW ⟨rfl, hb⟩; have hx := HX.out.call hb; clear HX hb h0 h1 h2; have HX := yC.mk hx; clear hx))
  have h0 := HX.out.cell 0 0 rfl rfl; have h1 := HX.out.cell 0 1 rfl rfl; have h2 := HX.out.cell 0 2 rfl rfl
  have v0 := HX.out.cell 2 0 rfl rfl; have v1 := HX.out.cell 2 1 rfl rfl; have v2 := HX.out.cell 2 2 rfl rfl
  have b0 := HX.out.cell 3 0 rfl rfl; have b1 := HX.out.cell 3 1 rfl rfl; have b2 := HX.out.cell 3 2 rfl rfl; have b3 := HX.out.cell 3 3 rfl rfl; have b4 := HX.out.cell 3 4 rfl rfl
  have a0 := HX.out.cell 4 0 rfl rfl; have a1 := HX.out.cell 4 1 rfl rfl
  have q0 := yB HX.out.below Q.out.1
  have q1 := yB HX.out.below Q.out.2.1
  have q2 := yB HX.out.below Q.out.2.2.1
  have q3 := yB HX.out.below Q.out.2.2.2.1
  have q4 := yB HX.out.below Q.out.2.2.2.2
  refine Reg.wp_det [(some 15, Reg.Dv.c (.agg #[.slice A0 n0 c0, .slice A1 n1 c1])), (some 16, Reg.Dv.c (.pointer (some ⟨g4, 4, none⟩))), (some 17, Reg.Dv.c (.slice (some ad) n4 c)), (some 18, Reg.Dv.c (.pointer (some q))), (some 19, Reg.Dv.c (.agg #[.int .i64 Y0, .int .i64 Y1, .int .i64 Y2, .string Y3, .slice A4 n5 c4])), (some 20, Reg.Dv.c (.agg #[.int .i64 H0, .int .i64 H1, .string H2])), (some 21, Reg.Dv.c (.agg #[.int .i64 V0, .int .i64 V1, .string V2])), (some 22, Reg.Dv.c (.pointer (some ⟨g4, 3, none⟩))), (some 23, Reg.Dv.c (.string sep)), (some 24, Reg.Dv.c (.agg #[.int .i64 J0, .int .i64 J1, .string J2]))] [] 26 rfl (by kernel_rfl) rfl (by kernel_rfl) (by kernel_rfl) (by kernel_rfl) rfl (by kernel_rfl) rfl rfl rfl ?step ?done
  case step =>
   intro iq oq pq hiq hoq hpq ρ ev W S hE hO ec ef hB hft hΦ
   have e3 : ev (.tmp 3) = .pointer (some ⟨g3, 0, none⟩) := hO 3 rfl
   have e4 : ev (.tmp 4) = .pointer (some ⟨g4, 0, none⟩) := hO 4 rfl
   have e5 : ev (.tmp 5) = .pointer (some ⟨g5, 0, none⟩) := hO 5 rfl
   have e7 : ev (.tmp 7) = .pointer (some ⟨g7, 0, none⟩) := hO 7 rfl
   have a0' := yB hB a0
   have a1' := yB hB a1
   have b0' := yB hB b0
   have b1' := yB hB b1
   have b2' := yB hB b2
   have b3' := yB hB b3
   have b4' := yB hB b4
   have v0' := yB hB v0
   have v1' := yB hB v1
   have v2' := yB hB v2
   have h0' := yB hB h0
   have h1' := yB hB h1
   have h2' := yB hB h2
   have q0' := yB hB q0
   have q1' := yB hB q1
   have q2' := yB hB q2
   have q3' := yB hB q3
   have q4' := yB hB q4
   simp only [Reg.Ls_some, Reg.Ls_none, Reg.Ls_nil, Reg.val_c, Reg.val_u, Reg.val_n, Reg.val_box, List.forall_mem_cons, List.map_cons, List.map_nil] at hE
   obtain ⟨e15, e16, e17, e18, e19, e20, e21, e22, e23, e24, _⟩ := hE
   have hiq2 : iq = 0 ∨ iq = 1 ∨ iq = 2 ∨ iq = 3 ∨ iq = 4 ∨ iq = 5 ∨ iq = 6 ∨ iq = 7 ∨ iq = 8 ∨ iq = 9 := by have : iq < 10 := hiq; omega
   clear hiq
   rcases hiq2 with rfl | rfl | rfl | rfl | rfl | rfl | rfl | rfl | rfl | rfl
   all_goals cases hoq
   all_goals cases hpq
   rotate_left 9
   ·refine Reg.DStep.cc (g := 101) (args := #[.agg #[.int .i64 H0, .int .i64 H1, .string H2], .agg #[.int .i64 V0, .int .i64 V1, .string V2], .string sep]) (by first | exact .inl rfl | exact .inr ⟨_, _, _, rfl, rfl, (by assumption)⟩) hB (by go_simp; try rfl) ?_
    exact HJ.out W
   rotate_right 9
   all_goals (refine Reg.DStep.cv (by first | exact .inl rfl | exact .inr ⟨_, _, _, rfl, rfl, (by assumption)⟩) hB ?_; go_simp; try (first | done | rfl | (rw [← hq]; rfl) | (simp [← hq]; done)))
  case done =>
   intro ρ W S hB hft hap hΦ
   simp only [Reg.Ls_some, Reg.Ls_none, Reg.Ls_nil, Reg.val_c, Reg.val_u, Reg.val_n, Reg.val_box, List.map_cons, List.map_nil, Reg.puts, Act.put, List.setIfInBounds_toArray, List.set_cons_zero, List.set_cons_succ, List.drop_succ_cons, List.drop_zero, List.length_cons, List.length_nil, Nat.zero_add, Nat.reduceAdd]
   have HX := HX.cl hB
   clear hΦ hft hap v0 v1 v2 b0 b1 b2 b3 b4 a0 a1 q0 q1 q2 q3 q4 h0 h1 h2
   cases R with | none =>
    go_wp2_with (first | (go_at_call 54; (with_reducible refine (HP2.out _ HX.out.below).mono ?_); rintro e WX ⟨hb, rfl⟩; have hx := HX.out.call hb; clear HX hb; have HX := yC.mk hx; clear hx))
    exact ⟨rfl, HX.out.below, rfl⟩ | some l2 =>
    go_wp2_with (first | (go_at_call 54; (with_reducible refine (HP2.out _ HX.out.below).mono ?_); rintro e WX ⟨hb, A2, c2, rfl, hr⟩; have HQ := yC.mk (hr.lower HX.out.below.size); have hx := HX.out.call hb; clear HX hb hr; have HX := yC.mk hx; clear hx; have x0 := HX.out.cell 1 0 rfl rfl; have x1 := HX.out.cell 1 1 rfl rfl; have z0 := HX.out.frz 1 0 rfl; have z1 := HX.out.frz 1 1 rfl))
    have HY := (HX.out.set (L1 := [_]) 0 (.slice A0 n0 c0)).set (L1 := [_]) 1 (.slice A2 l2.length c2)
    refine bodyPost_ret (results_cell_row rfl _ _ g6 76 #[.slice A0 n0 c0, .slice A2 l2.length c2] (0, 0) _ rfl (HY.at 1 rfl) hu3 rfl (by kernel_rfl)) rfl ?_
    exact ⟨HY.below, A2, c2, rfl, (HQ.out.set (HX.out.at 1 rfl) (by decide) _ _).set ((HX.out.set (L1 := [_]) 0 (.slice A0 n0 c0)).at 1 rfl) (by decide) _ _⟩
 ·have d : (H0 == 3) = false := by simpa using hv
  have HE2 := HE.out
  rw [if_neg hv] at HE2
  subst HE2
  clear HP HE hv
  go_wp2_with (first | (go_at_call 66; (with_reducible refine (ask_false _).mono ?_); rintro e WW ⟨rfl, hb⟩; have hx := HX.out.call hb; clear HX hb h0 h1 h2; have HX := yC.mk hx; clear hx))
  exact ⟨rfl, HX.out.below, rfl⟩
end
section
open Go.RowKit
theorem Row2.keep {A1 A2 : Option Addr} {c1 c2 base : Nat} {l l' : List S39} {W W' : World} (h : Row2 A1 c1 l W base A2 c2 l') {g T : Nat} {cs : Array Value} (hb : W.heap[g]? = some (.cells cs T (0, 0))) (ht : ∀ q, q ∈ 39 :: k39.E → q ≠ T) (hk : ∀ k, k ≠ g → W'.heap[k]? = W.heap[k]?) : Row2 A1 c1 l W' base A2 c2 l' :=
 h.imp id (fun h => Kd.xE (Kd.R_step (Kd.R_types h hb ht) (fun k hk' _ => hk k hk'.2)) (fun _ _ => trivial))
section
variable {P : Program} {ops : Array Oper} {rest : List Oper} {o : Oper} {a : Act} {Q : Exit → Act → World → Prop} {w W : World} {L : List (Nat × Nat × Array Value)}
theorem bx_newB (hgd : o.guard = none) {N : Tmp} (hd : o.dst = some N) {cs : Array Value} {t : TypeId} (hX : Bxs w W L)
  (hrun : (execOp a.eval o).run P W = .ok (.value (.pointer (some ⟨W.heap.size, 0, none⟩))) (W.alloc (.cells cs t (0, 0))))
  (h : ∀ g W1, Bxs w W1 ((g, t, cs) :: L) → Below W.heap.size W W1 → wpList P ops Q rest (a.put o.dst (.pointer (some ⟨g, 0, none⟩))) W1) : wpList P ops Q (o :: rest) a W :=
 xF hgd hd hrun fun g hg w1 hc hb => h g w1 (hX.new hg hc hb) hb
theorem bx_putB (hgd : o.guard = none) (ty : TypeId) (x y : Operand) (ho : o.op = .store ty x y) (hd : o.dst = none) {L1 L2 : List (Nat × Nat × Array Value)} {g : Nat} {t : TypeId} {old cells : Array Value} (hX : Bxs w W (L1 ++ (g, t, old) :: L2))
  (hx : a.eval x = .pointer (some ⟨g, 0, none⟩)) (hy : a.eval y = .agg cells) (hi : (P.info? ty).map (·.size) = some cells.size) (hold : old.size = cells.size) (h1 : cells.toList.all (·.oneCell') = true)
  (h : ∀ W', Bxs w W' (L1 ++ (g, t, cells) :: L2) → (∀ k, k ≠ g → W'.heap[k]? = W.heap[k]?) → wpList P ops Q rest a W') : wpList P ops Q (o :: rest) a W :=
 store_event hgd ty x y ho hd g cells hx hy t old (hX.blk (g, t, old) (List.mem_append_right _ List.mem_cons_self)).2 hi hold h1 fun W' q1 q2 q3 => h W' (hX.put q1 q2 q3) q2
end
def putP (A0 : Option Addr) (n0 c0 : Nat) (A1 : Option Addr) (c1 : Nat) (l : List S39) (R : Option (List S39)) (v : Value) (B : Nat) (W : World) (S : Nat → Prop) : Prop :=
 ∃ l2 A2 c2, R = some l2 ∧ v = .agg #[.slice A0 n0 c0, .slice A2 l2.length c2] ∧ ((A2 = A1 ∧ c2 = c1 ∧ l2 = l) ∨ Kd.R k39 39 W B S (.slice A2 l2.length c2) l2)
theorem putP_st {A0 : Option Addr} {n0 c0 : Nat} {A1 : Option Addr} {c1 : Nat} {l : List S39} {R : Option (List S39)} {v : Value} {B : Nat} {W W' : World} {S : Nat → Prop} (hz : W.heap.size ≤ W'.heap.size) (hk : ∀ k, k < W.heap.size → S k → W'.heap[k]? = W.heap[k]?) (h : putP A0 n0 c0 A1 c1 l R v B W S) : putP A0 n0 c0 A1 c1 l R v B W' S := by
 obtain ⟨l2, A2, c2, rfl, rfl, h⟩ := h
 exact ⟨l2, A2, c2, rfl, rfl, h.imp id (fun h => Kd.R_step h (fun k hS hlt => hk k hlt hS))⟩
def putDv (d : Nat) (A0 : Option Addr) (n0 c0 : Nat) (A1 : Option Addr) (c1 : Nat) (l : List S39) (R : Option (List S39)) : Reg.Dv := Reg.Dv.n d (putP A0 n0 c0 A1 c1 l R) putP_st
theorem val_put (d : Nat) (A0 : Option Addr) (n0 c0 : Nat) (A1 : Option Addr) (c1 : Nat) (l : List S39) (R : Option (List S39)) (e : Nat) (ρ : Nat → Value) : (putDv d A0 n0 c0 A1 c1 l R).val e ρ = ρ e := rfl
theorem put_step {fn d : Nat} {eats : List (Nat × Nat)} {i : Nat} {ρ : Nat → Value} {S : Nat → Nat → Prop} {A0 : Option Addr} {n0 c0 : Nat} {A1 : Option Addr} {c1 : Nat} {l : List S39} {R : Option (List S39)} {w W : World} {args : Array Value} (hB : Below w.heap.size w W) (h : Calls Tryz.prog fn args W fun e w' => PutRes A0 n0 c0 A1 c1 l R W w' e) :
  Calls Tryz.prog fn args W fun e w' => (∃ v, e = .returned v ∧ Reg.Kv eats w i (some d) (putDv d A0 n0 c0 A1 c1 l R) ρ W S v w') ∨ ∃ ch, e = .panicked ch ∧ (R = none ∧ ch = [failE] ∧ Below w.heap.size w w') := by
 refine h.mono fun e w' h => ?_
 obtain ⟨hb, h⟩ := h
 cases R with | none => exact .inr ⟨_, h, rfl, rfl, yD hB hb⟩ | some l2 =>
  obtain ⟨A2, c2, rfl, h⟩ := h
  refine .inl ⟨_, rfl, Reg.Kv.n (Φ := putP A0 n0 c0 A1 c1 l (some l2)) (st := putP_st) (fun k => some k = (Value.slice A2 l2.length c2).ownBlock ∧ W.heap.size ≤ k ∧ k < w'.heap.size) hB hb (fun k hk => ⟨hk.2.1, hk.2.2⟩) ⟨l2, A2, c2, rfl, rfl, ?_⟩⟩
  rcases h with h | h
  ·exact .inl h
  ·exact .inr (Kd.xJ (Kd.xE (Kd.R_bound (Kd.R_tight rfl h)) (fun k hk => ⟨hk.1, hk.2.1, hk.2.2.1⟩)) hB.size)
theorem putBoth_to (l0 : List S57) (l : List S39) (x : S29) (v : S39) (jn : ByteArray) (R : Option (List S39)) (R2 : List S39 → Option (List S39)) (hn : 1 < x.f4.length) (hz : v.f2.size < 4294967281) (hzj : jn.size ≤ 1000000)
  (hs : ∀ A0 c0, To 102 A0 l0.length c0 l x (.string jn)) (hp : jn.size ≤ 40 → PutTo 54 l0 l (yM x.f4 (0 : Nat)) (aheadV v x.f3) R) (hp2 : jn.size ≤ 40 → ∀ l2, R = some l2 → PutTo 54 l0 l2 (yM x.f4 (1 : Nat)) (xO v x.f3) (R2 l2)) :
  PutTo 81 l0 l x v (if jn.size ≤ 40 then R.bind R2 else none) := by
 intro A0 c0 A1 c1 A c w hgl hc0 hr0 hc1 hr hlc hC
 have hu := Tryz.underlying39
 have hu2 := Tryz.underlying29
 have hu3 := Tryz.underlying76
 have HX := yC.mk (Bxs.start w)
 have HG := yC.mk hgl
 have HR : yC (∀ (w' : World), Below w.heap.size w w' → Calls Tryz.prog 102 #[.agg #[.slice A0 l0.length c0, .slice A1 l.length c1], .agg (lC x A c)] w' fun e w'' => e = .returned (.string jn) ∧ Below w'.heap.size w' w'') :=
  ⟨fun w' hb => hs A0 c0 A1 c1 A c w' (hgl.below hb) (Kd.yI hr hb) hlc (Kd.yI hC hb)⟩
 obtain ⟨k, a, s, sep, l4⟩ := x
 dsimp only at hn hp hp2 hlc hC hz HR ⊢
 obtain ⟨ad, q, A4, c4, e, hq, K⟩ := kid hC 0 (by omega)
 obtain ⟨ad', q', A5, c5, e', hq', K'⟩ := kid hC 1 hn
 cases e
 cases e'
 obtain ⟨V0, V1, V2⟩ := v
 have HS : yC (∀ (w' : World), Below w.heap.size w w' → Calls Tryz.prog 99 #[.agg #[.int .i64 V0, .int .i64 V1, .string V2], .string sep] w' fun e w'' => e = .returned (.tuple #[.agg (vC (aheadV ⟨V0, V1, V2⟩ sep)), .agg (vC (xO ⟨V0, V1, V2⟩ sep))]) ∧ Below w'.heap.size w' w'') :=
  ⟨fun w' hb => split_calls V0 V1 V2 sep w' (hgl.below hb) hz⟩
 generalize aheadV ⟨V0, V1, V2⟩ sep = h at *
 generalize xO ⟨V0, V1, V2⟩ sep = b at *
 generalize yM l4 ((0 : Nat) : Int) = y at *
 generalize yM l4 ((1 : Nat) : Int) = y' at *
 obtain ⟨Y0, Y1, Y2, Y3, l5⟩ := y
 obtain ⟨X0, X1, X2, X3, l6⟩ := y'
 obtain ⟨H0, H1, H2⟩ := h
 obtain ⟨B0, B1, B2⟩ := b
 obtain ⟨RES, hRES⟩ : ∃ X, (if jn.size ≤ 40 then R.bind R2 else none) = X := ⟨_, rfl⟩
 have HE : yC ((if jn.size ≤ 40 then R.bind R2 else none) = RES) := ⟨hRES⟩
 rw [hRES]
 clear hRES
 have HP : yC (jn.size ≤ 40 → ∀ (w' : World), Below w.heap.size w w' → Calls Tryz.prog 54 #[.agg #[.slice A0 l0.length c0, .slice A1 l.length c1], .agg #[.int .i64 Y0, .int .i64 Y1, .int .i64 Y2, .string Y3, .slice A4 l5.length c4], .agg #[.int .i64 H0, .int .i64 H1, .string H2]] w' fun e w'' => PutRes A0 l0.length c0 A1 c1 l R w' w'' e) :=
  ⟨fun h1 w' hb => hp h1 A0 c0 A1 c1 A4 c4 w' (hgl.below hb) hc0 (Kd.yI hr0 hb) hc1 (Kd.yI hr hb) K.len (Kd.yI K.has hb)⟩
 have HP2 : yC (jn.size ≤ 40 → ∀ l2, R = some l2 → ∀ (A2 : Option Addr) (c2 : Nat) (w' : World), Below w.heap.size w w' → Row2 A1 c1 l w' w.heap.size A2 c2 l2 → Calls Tryz.prog 54 #[.agg #[.slice A0 l0.length c0, .slice A2 l2.length c2], .agg #[.int .i64 X0, .int .i64 X1, .int .i64 X2, .string X3, .slice A5 l6.length c5], .agg #[.int .i64 B0, .int .i64 B1, .string B2]] w' fun e w'' => PutRes A0 l0.length c0 A2 c2 l2 (R2 l2) w' w'' e) :=
  ⟨fun h1 l2 h2 A2 c2 w' hb hrow => by
   have hh := hrow.has hc1 (Kd.yI hr hb)
   exact hp2 h1 l2 h2 A0 c0 A2 c2 A5 c5 w' (hgl.below hb) hc0 (Kd.yI hr0 hb) hh.1 hh.2 K'.len (Kd.yI K'.has hb)⟩
 obtain ⟨h0, h1, h2, h3, h4, _, _⟩ := K
 obtain ⟨i0, i1, i2, i3, i4, _, _⟩ := K'
 unfold lC vC at *
 dsimp only at h0 h1 h2 h3 h4 i0 i1 i2 i3 i4 HR HS ⊢
 generalize l5.length = n5 at *
 generalize l6.length = n6 at *
 generalize l4.length = n4 at *
 generalize l.length = n1 at *
 generalize l0.length = n0 at *
 have Q := yC.mk (And.intro h0 (And.intro h1 (And.intro h2 (And.intro h3 h4))))
 have O := yC.mk (And.intro i0 (And.intro i1 (And.intro i2 (And.intro i3 i4))))
 have p0 : ((0 : Int) < (n4 : Int)) = True := eq_true (by omega)
 have p1 : (0 < n4) = True := eq_true (by omega)
 have p2 : ((1 : Int) < (n4 : Int)) = True := eq_true (by omega)
 have p3 : (1 < n4) = True := eq_true hn
 clear h0 h1 h2 h3 h4 i0 i1 i2 i3 i4 hn hlc hC hr hgl hs hz hr0 hp hp2
 go_enter Tryz.func81, Tryz.ntmps81
 go_upto_region 1 with (first | ((with_reducible refine yK (N := 3) rfl ?_); refine yQ (w := w) ?hg (N := 3) ?hd (cs := #[.slice A0 n0 c0, .slice A1 n1 c1]) (t := 76) HX.out ?hr ?_; (case hd | hg => rfl); (case hr => go_simp; try rfl); intro g3 W3 hx; replace HX := yC.mk hx; clear hx) | ((with_reducible refine yK (N := 4) rfl ?_); refine yQ (w := w) ?hg (N := 4) ?hd (cs := #[.int .i64 k, .int .i64 a, .int .i64 s, .string sep, .slice (some ad) n4 c]) (t := 29) HX.out ?hr ?_; (case hd | hg => rfl); (case hr => go_simp; try rfl); intro g4 W4 hx; replace HX := yC.mk hx; clear hx) | ((with_reducible refine yK (N := 5) rfl ?_); refine yQ (w := w) ?hg (N := 5) ?hd (cs := #[.int .i64 V0, .int .i64 V1, .string V2]) (t := 39) HX.out ?hr ?_; (case hd | hg => rfl); (case hr => go_simp; try rfl); intro g5 W5 hx; replace HX := yC.mk hx; clear hx) | ((with_reducible refine yK (N := 6) rfl ?_); refine yQ (w := w) ?hg (N := 6) ?hd (cs := #[.slice none 0 0, .slice none 0 0]) (t := 76) HX.out ?hr ?_; (case hd | hg => rfl); (case hr => go_simp; try rfl); intro g6 W6 hx; replace HX := yC.mk hx; clear hx))
 have a0 := HX.out.cell 3 0 rfl rfl; have a1 := HX.out.cell 3 1 rfl rfl
 have b0 := HX.out.cell 2 0 rfl rfl; have b1 := HX.out.cell 2 1 rfl rfl; have b2 := HX.out.cell 2 2 rfl rfl; have b3 := HX.out.cell 2 3 rfl rfl; have b4 := HX.out.cell 2 4 rfl rfl
 have HZJ := yC.mk hzj
 clear hzj
 by_cases hv : jn.size ≤ 40
 ·have d : decide ((jn.size : Int) ≤ 40) = true := decide_eq_true (by omega)
  have HE2 := HE.out
  rw [if_pos hv] at HE2
  have HP3 := yC.mk (HP.out hv)
  have HP4 := yC.mk (HP2.out hv)
  subst HE2
  clear HP HP2 HE hv
  go_upto_region 3 with (first | (go_at_call 102; (with_reducible refine (HR.out _ HX.out.below).mono ?_); rintro e WW ⟨rfl, hb⟩; have hx := HX.out.call hb; clear HX hb a0 a1 b0 b1 b2 b3 b4; have HX := yC.mk hx; clear hx) | (go_at_call 66; (with_reducible refine (ask_true _).mono ?_); rintro e WW ⟨rfl, hb⟩; have hx := HX.out.call hb; clear HX hb; have HX := yC.mk hx; clear hx; have v0 := HX.out.cell 1 0 rfl rfl; have v1 := HX.out.cell 1 1 rfl rfl; have v2 := HX.out.cell 1 2 rfl rfl; have b0 := HX.out.cell 2 0 rfl rfl; have b1 := HX.out.cell 2 1 rfl rfl; have b2 := HX.out.cell 2 2 rfl rfl; have b3 := HX.out.cell 2 3 rfl rfl; have b4 := HX.out.cell 2 4 rfl rfl) | (go_at_call 99; (with_reducible refine (HS.out _ HX.out.below).mono ?_); rintro e WW ⟨rfl, hb⟩; have hx := HX.out.call hb; clear HX hb b0 b1 b2 b3 b4 v0 v1 v2; have HX := yC.mk hx; clear hx) | ((with_reducible refine yK (N := 7) rfl ?_); refine yQ (w := w) ?hg (N := 7) ?hd (cs := #[.int .i64 0, .int .i64 0, .string (⟨#[]⟩ : ByteArray)]) (t := 39) HX.out ?hr ?_; (case hd | hg => rfl); (case hr => go_simp; try rfl); intro g7 W7 hx; replace HX := yC.mk hx; clear hx) | ((with_reducible refine yK (N := 8) rfl ?_); refine yQ (w := w) ?hg (N := 8) ?hd (cs := #[.int .i64 0, .int .i64 0, .string (⟨#[]⟩ : ByteArray)]) (t := 39) HX.out ?hr ?_; (case hd | hg => rfl); (case hr => go_simp; try rfl); intro g8 W8 hx; replace HX := yC.mk hx; clear hx; refine xG (w := w) rfl 39 (.tmp 7) (.tmp 20) rfl rfl (L1 := [_]) (cells := #[.int .i64 H0, .int .i64 H1, .string H2]) HX.out rfl rfl info39s rfl rfl ?_; intro W9 hx; replace HX := yC.mk hx; clear hx; refine xG (w := w) rfl 39 (.tmp 8) (.tmp 21) rfl rfl (L1 := []) (cells := #[.int .i64 B0, .int .i64 B1, .string B2]) HX.out rfl rfl info39s rfl rfl ?_; intro W10 hx; replace HX := yC.mk hx; clear hx))
  have r0 := HX.out.cell 0 0 rfl rfl; have r1 := HX.out.cell 0 1 rfl rfl; have r2 := HX.out.cell 0 2 rfl rfl
  have h0 := HX.out.cell 1 0 rfl rfl; have h1 := HX.out.cell 1 1 rfl rfl; have h2 := HX.out.cell 1 2 rfl rfl
  have b0 := HX.out.cell 4 0 rfl rfl; have b1 := HX.out.cell 4 1 rfl rfl; have b2 := HX.out.cell 4 2 rfl rfl; have b3 := HX.out.cell 4 3 rfl rfl; have b4 := HX.out.cell 4 4 rfl rfl
  have a0 := HX.out.cell 5 0 rfl rfl; have a1 := HX.out.cell 5 1 rfl rfl
  have q0 := yB HX.out.below Q.out.1
  have q1 := yB HX.out.below Q.out.2.1
  have q2 := yB HX.out.below Q.out.2.2.1
  have q3 := yB HX.out.below Q.out.2.2.2.1
  have q4 := yB HX.out.below Q.out.2.2.2.2
  have o0 := yB HX.out.below O.out.1
  have o1 := yB HX.out.below O.out.2.1
  have o2 := yB HX.out.below O.out.2.2.1
  have o3 := yB HX.out.below O.out.2.2.2.1
  have o4 := yB HX.out.below O.out.2.2.2.2
  simp only [Act.put, List.setIfInBounds_toArray, List.set_cons_zero, List.set_cons_succ]
  refine Reg.wp_detP [(some 22, Reg.Dv.c (.agg #[.slice A0 n0 c0, .slice A1 n1 c1])), (some 23, Reg.Dv.c (.pointer (some ⟨g4, 4, none⟩))), (some 24, Reg.Dv.c (.slice (some ad) n4 c)), (some 25, Reg.Dv.c (.pointer (some q))), (some 26, Reg.Dv.c (.agg #[.int .i64 Y0, .int .i64 Y1, .int .i64 Y2, .string Y3, .slice A4 n5 c4])), (some 27, Reg.Dv.c (.agg #[.int .i64 H0, .int .i64 H1, .string H2])), (some 28, putDv 28 A0 n0 c0 A1 c1 l R), (some 29, Reg.Dv.c (.pointer (some ⟨g4, 4, none⟩))), (some 30, Reg.Dv.c (.slice (some ad) n4 c)), (some 31, Reg.Dv.c (.pointer (some q'))), (some 32, Reg.Dv.c (.agg #[.int .i64 X0, .int .i64 X1, .int .i64 X2, .string X3, .slice A5 n6 c5])), (some 33, Reg.Dv.c (.agg #[.int .i64 B0, .int .i64 B1, .string B2]))] [] 35 rfl (by kernel_rfl) rfl (by kernel_rfl) (by kernel_rfl) (by kernel_rfl) rfl (by kernel_rfl) rfl rfl rfl (fun ch W => R = none ∧ ch = [failE] ∧ Below W10.heap.size W10 W) (by rintro ch f W ⟨rfl, rfl, hb⟩; exact ⟨rfl, yD HX.out.below hb, rfl⟩) ?step ?done
  case step =>
   intro iq oq pq hiq hoq hpq ρ ev W S hE hO ec ef hB hft hΦ
   have e3 : ev (.tmp 3) = .pointer (some ⟨g3, 0, none⟩) := hO 3 rfl
   have e4 : ev (.tmp 4) = .pointer (some ⟨g4, 0, none⟩) := hO 4 rfl
   have e7 : ev (.tmp 7) = .pointer (some ⟨g7, 0, none⟩) := hO 7 rfl
   have e8 : ev (.tmp 8) = .pointer (some ⟨g8, 0, none⟩) := hO 8 rfl
   have a0' := yB hB a0
   have a1' := yB hB a1
   have b0' := yB hB b0
   have b1' := yB hB b1
   have b2' := yB hB b2
   have b3' := yB hB b3
   have b4' := yB hB b4
   have r0' := yB hB r0
   have r1' := yB hB r1
   have r2' := yB hB r2
   have h0' := yB hB h0
   have h1' := yB hB h1
   have h2' := yB hB h2
   have q0' := yB hB q0
   have q1' := yB hB q1
   have q2' := yB hB q2
   have q3' := yB hB q3
   have q4' := yB hB q4
   have o0' := yB hB o0
   have o1' := yB hB o1
   have o2' := yB hB o2
   have o3' := yB hB o3
   have o4' := yB hB o4
   simp only [Reg.Ls_some, Reg.Ls_none, Reg.Ls_nil, Reg.val_c, Reg.val_u, Reg.val_n, Reg.val_box, List.forall_mem_cons, List.map_cons, List.map_nil, val_put] at hE
   obtain ⟨e22, e23, e24, e25, e26, e27, e28, e29, e30, e31, e32, e33, _⟩ := hE
   have hiq2 : iq = 0 ∨ iq = 1 ∨ iq = 2 ∨ iq = 3 ∨ iq = 4 ∨ iq = 5 ∨ iq = 6 ∨ iq = 7 ∨ iq = 8 ∨ iq = 9 ∨ iq = 10 ∨ iq = 11 := by have : iq < 12 := hiq; omega
   clear hiq
   rcases hiq2 with rfl | rfl | rfl | rfl | rfl | rfl | rfl | rfl | rfl | rfl | rfl | rfl
   all_goals cases hoq
   all_goals cases hpq
   rotate_left 6
   ·refine Reg.DStep.callp (g := 54) (args := #[.agg #[.slice A0 n0 c0, .slice A1 n1 c1], .agg #[.int .i64 Y0, .int .i64 Y1, .int .i64 Y2, .string Y3, .slice A4 n5 c4], .agg #[.int .i64 H0, .int .i64 H1, .string H2]]) (by first | exact .inl rfl | exact .inr ⟨_, _, _, rfl, rfl, (by assumption)⟩) (by go_simp; try rfl) ?_
    exact put_step hB (HP3.out W (yD HX.out.below hB))
   rotate_right 6
   all_goals (refine Reg.DStep.cv (by first | exact .inl rfl | exact .inr ⟨_, _, _, rfl, rfl, (by assumption)⟩) hB ?_; go_simp; try (first | done | rfl | (rw [← hq]; rfl) | (rw [← hq']; rfl) | (simp [← hq]; done) | (simp [← hq']; done)))
  case done =>
   intro ρ W S hB hft hap hΦ
   simp only [Reg.Ls_some, Reg.Ls_none, Reg.Ls_nil, Reg.val_c, Reg.val_u, Reg.val_n, Reg.val_box, List.map_cons, List.map_nil, val_put, Reg.puts, Act.put, List.setIfInBounds_toArray, List.set_cons_zero, List.set_cons_succ, List.drop_succ_cons, List.drop_zero, List.length_cons, List.length_nil, Nat.zero_add, Nat.reduceAdd]
   obtain ⟨l2, A2, c2, hR, e28, hrow⟩ := hΦ 6 _ rfl rfl
   have e28 : ρ 28 = .agg #[.slice A0 n0 c0, .slice A2 l2.length c2] := e28
   simp only [val_put, e28]
   have HROW : yC (Row2 A1 c1 l W w.heap.size A2 c2 l2) := ⟨hrow.imp id (fun h => Kd.xJ (Kd.xE h (fun _ _ => trivial)) HX.out.below.size)⟩
   have HX := HX.cl hB
   have HP5 := yC.mk (HP4.out l2 hR)
   subst hR
   clear hΦ hft hap hrow e28 a0 a1 b0 b1 b2 b3 b4 r0 r1 r2 h0 h1 h2 q0 q1 q2 q3 q4 o0 o1 o2 o3 o4 HP3 HP4
   try dsimp only [Option.bind_some] at *
   cases hR2 : R2 l2 with | none =>
    rw [hR2] at HP5
    go_wp2_with (first | (go_at_call 54; (with_reducible refine (HP5.out _ _ _ HX.out.below HROW.out).mono ?_); rintro e WX ⟨hb, rfl⟩; have hx := HX.out.call hb; clear HX hb; have HX := yC.mk hx; clear hx))
    exact ⟨rfl, HX.out.below, by rw [Option.bind_some, hR2]⟩ | some l3 =>
    rw [hR2] at HP5
    have HR3 := yC.mk hR2
    clear hR2
    go_wp2_with (first | (go_at_call 54; (with_reducible refine (HP5.out _ _ _ HX.out.below HROW.out).mono ?_); rintro e WX ⟨hb, A3, c3, rfl, hr⟩; have HQ := yC.mk ((HROW.out.below hb).then (hr.lower HX.out.below.size)); have hx := HX.out.call hb; clear HX hb hr; have HX := yC.mk hx; clear hx; have x0 := HX.out.cell 2 0 rfl rfl; have x1 := HX.out.cell 2 1 rfl rfl; have z0 := HX.out.frz 2 0 rfl; have z1 := HX.out.frz 2 1 rfl))
    have HY := (HX.out.set (L1 := [_, _]) 0 (.slice A0 n0 c0)).set (L1 := [_, _]) 1 (.slice A3 l3.length c3)
    refine bodyPost_ret (results_cell_row rfl _ _ g6 76 #[.slice A0 n0 c0, .slice A3 l3.length c3] (0, 0) _ rfl (HY.at 2 rfl) hu3 rfl (by kernel_rfl)) rfl ?_
    rw [Option.bind_some, HR3.out]
    exact ⟨HY.below, A3, c3, rfl, (HQ.out.set (HX.out.at 2 rfl) (by decide) _ _).set ((HX.out.set (L1 := [_, _]) 0 (.slice A0 n0 c0)).at 2 rfl) (by decide) _ _⟩
 ·have d : decide ((jn.size : Int) ≤ 40) = false := decide_eq_false (by omega)
  have HE2 := HE.out
  rw [if_neg hv] at HE2
  subst HE2
  clear HP HP2 HE hv
  go_wp2_with (first | (go_at_call 102; (with_reducible refine (HR.out _ HX.out.below).mono ?_); rintro e WW ⟨rfl, hb⟩; have hx := HX.out.call hb; clear HX hb a0 a1 b0 b1 b2 b3 b4; have HX := yC.mk hx; clear hx) | (go_at_call 66; (with_reducible refine (ask_false _).mono ?_); rintro e WW ⟨rfl, hb⟩; have hx := HX.out.call hb; clear HX hb; have HX := yC.mk hx; clear hx))
  exact ⟨rfl, HX.out.below, rfl⟩
end
section
open Go.RowKit YtmebkjdknhknbaaGreatDoor.F YtmebkjdknhknbaaGreatDoor.C
def eqV (a b : S39) : Bool := (a.f0 == b.f0) && ((a.f1 == b.f1) && (a.f2.toList == b.f2.toList))
theorem eqV_iff (a b : S39) : eqV a b = true ↔ a = b := by
 obtain ⟨a0, a1, a2⟩ := a
 obtain ⟨b0, b1, b2⟩ := b
 simp only [eqV, Bool.and_eq_true, beq_iff_eq, S39.mk.injEq]
 constructor
 ·rintro ⟨h0, h1, h2⟩
  refine ⟨h0, h1, ?_⟩
  rw [ByteArray.toList_eq, ByteArray.toList_eq] at h2
  obtain ⟨⟨l⟩⟩ := a2
  obtain ⟨⟨m⟩⟩ := b2
  exact congrArg (fun x => (⟨⟨x⟩⟩ : ByteArray)) h2
 ·rintro ⟨rfl, rfl, rfl⟩
  exact ⟨rfl, rfl, rfl⟩
def putsR (l : List S39) (sv v : S39) (hb : Bool) (R : Option (List S39)) (fb : List S39 → Bool) (sv2 : List S39 → S39) : Option (List S39) :=
 if eqV sv v = true then some l else if hb = false then none else match R with | none => none | some l2 => if (fb l2 && eqV (sv2 l2) v) = true then some l2 else none
theorem info105s : (Tryz.prog.info? 105).map (·.size) = some 4 := by kernel_rfl
theorem info76s : (Tryz.prog.info? 76).map (·.size) = some 2 := by kernel_rfl
theorem puts_to (l0 : List S57) (l : List S39) (x : S29) (v sv : S39) (tv : S49 × Bool) (hb : Bool) (R : Option (List S39)) (fb : List S39 → Bool) (sv2 : List S39 → S39) (kf : Nat) (ar : Int) (ft fs fp : Nat)
  (hk : kindC x.f0 = #[.int .i64 ar, .func (.func ft) #[] #[], .func (.func fs) #[] #[], .func (.func fp) #[] #[]]) (hcf : ∀ args W, Sem.run Tryz.prog (callFunc fp args) W = .ok (.enter fp args) W)
  (hs : ∀ A0 c0, To 33 A0 l0.length c0 l x (.agg (vC sv))) (ho : eqV sv v = false → OfTo l0 x 8 tv) (hh : eqV sv v = false → value_Has.f tv.1.f0 tv.1.f1 tv.1.f2 v.f0 v.f1 v.f2 = some hb)
  (hp : eqV sv v = false → hb = true → PutTo fp l0 l x v R) (hf : eqV sv v = false → hb = true → ∀ l2, R = some l2 → lens_Fit.f kf l0 l2 = some (fb l2)) (hs2 : eqV sv v = false → hb = true → ∀ l2, R = some l2 → fb l2 = true → ∀ A0 c0, To 33 A0 l0.length c0 l2 x (.agg (vC (sv2 l2)))) :
  PutTo 54 l0 l x v (putsR l sv v hb R fb sv2) := by
 intro A0 c0 A1 c1 A c w hgl hc0 hr0 hc1 hr hlc hC
 have hu := Tryz.underlying39
 have hu2 := Tryz.underlying29
 have hu3 := Tryz.underlying76
 have hu4 := Tryz.underlying105
 have hu5 := Tryz.underlying49
 have HX := yC.mk (Bxs.start w)
 have HG := yC.mk hgl
 have HS : yC (∀ (w' : World), Below w.heap.size w w' → Calls Tryz.prog 33 #[.agg #[.slice A0 l0.length c0, .slice A1 l.length c1], .agg (lC x A c)] w' fun e w'' => e = .returned (.agg (vC sv)) ∧ Below w'.heap.size w' w'') :=
  ⟨fun w' hb => hs A0 c0 A1 c1 A c w' (hgl.below hb) (Kd.yI hr hb) hlc (Kd.yI hC hb)⟩
 have HO : yC (eqV sv v = false → ∀ (w' : World), Below w.heap.size w w' → Calls Tryz.prog 45 #[.agg #[.slice A0 l0.length c0, .slice A1 l.length c1], .agg (lC x A c), .int .i64 8] w' fun e w'' => e = .returned (tbC tv) ∧ Below w'.heap.size w' w'') :=
  ⟨fun h w' hb => ho h A0 c0 A1 l.length c1 A c w' (hgl.below hb) (Kd.yI hr0 hb) hlc (Kd.yI hC hb)⟩
 have HK : yC (∀ (w' : World), Calls Tryz.prog 55 #[.agg (lC x A c)] w' fun e w'' => e = .returned (.tuple #[.agg #[.int .i64 ar, .func (.func ft) #[] #[], .func (.func fs) #[] #[], .func (.func fp) #[] #[]], .bool (kindB x.f0)]) ∧ Below w'.heap.size w' w'') :=
  ⟨fun w' => by rw [← hk]; exact kindOf_calls x.f0 x.f1 x.f2 x.f3 (.slice A x.f4.length c) w'⟩
 have HH : yC (eqV sv v = false → ∀ (w' : World), Below w.heap.size w w' → Calls Tryz.prog 51 #[.agg (tyC tv.1), .agg (vC v)] w' fun e w'' => e = .returned (.bool hb) ∧ Below w'.heap.size w' w'') :=
  ⟨fun h w' hb => value_Has.calls _ _ _ _ _ _ _ w' (hgl.below hb) (hh h)⟩
 have HP : yC (eqV sv v = false → hb = true → ∀ (w' : World), Below w.heap.size w w' → Calls Tryz.prog fp #[.agg #[.slice A0 l0.length c0, .slice A1 l.length c1], .agg (lC x A c), .agg (vC v)] w' fun e w'' => PutRes A0 l0.length c0 A1 c1 l R w' w'' e) :=
  ⟨fun h1 h2 w' hb => hp h1 h2 A0 c0 A1 c1 A c w' (hgl.below hb) hc0 (Kd.yI hr0 hb) hc1 (Kd.yI hr hb) hlc (Kd.yI hC hb)⟩
 have HF : yC (eqV sv v = false → hb = true → ∀ l2, R = some l2 → ∀ (A2 : Option Addr) (c2 : Nat) (w' : World), Below w.heap.size w w' → Row2 A1 c1 l w' w.heap.size A2 c2 l2 → Calls Tryz.prog 30 #[.slice A0 l0.length c0, .slice A2 l2.length c2] w' fun e w'' => e = .returned (.bool (fb l2)) ∧ Below w'.heap.size w' w'') :=
  ⟨fun h1 h2 l2 h3 A2 c2 w' hb hrow => by
   have hh := hrow.has hc1 (Kd.yI hr hb)
   exact lens_Fit.calls kf A0 c0 l0 A2 c2 l2 _ w' (Kd.yI hr0 hb) hc0 hh.2 hh.1 (hgl.below hb) (hf h1 h2 l2 h3)⟩
 have HS2 : yC (eqV sv v = false → hb = true → ∀ l2, R = some l2 → fb l2 = true → ∀ (A2 : Option Addr) (c2 : Nat) (w' : World), Below w.heap.size w w' → Row2 A1 c1 l w' w.heap.size A2 c2 l2 → Calls Tryz.prog 33 #[.agg #[.slice A0 l0.length c0, .slice A2 l2.length c2], .agg (lC x A c)] w' fun e w'' => e = .returned (.agg (vC (sv2 l2))) ∧ Below w'.heap.size w' w'') :=
  ⟨fun h1 h2 l2 h3 h4 A2 c2 w' hb hrow => by
   have hh := hrow.has hc1 (Kd.yI hr hb)
   exact hs2 h1 h2 l2 h3 h4 A0 c0 A2 c2 A c w' (hgl.below hb) hh.2 hlc (Kd.yI hC hb)⟩
 obtain ⟨k, a, s, sep, l4⟩ := x
 obtain ⟨RES, hRES⟩ : ∃ X, putsR l sv v hb R fb sv2 = X := ⟨_, rfl⟩
 have HE := yC.mk hRES
 rw [hRES]
 clear hRES
 obtain ⟨V0, V1, V2⟩ := v
 obtain ⟨U0, U1, U2⟩ := sv
 obtain ⟨⟨T0, T1, T2⟩, tb⟩ := tv
 generalize kindB _ = kb at HK
 have HEQ : yC (eqV ⟨U0, U1, U2⟩ ⟨V0, V1, V2⟩ = ((U0 == V0) && ((U1 == V1) && (U2.toList == V2.toList)))) := ⟨rfl⟩
 unfold lC vC tbC tyC at *
 dsimp only at HS HO HK HH HP HS2 ⊢
 generalize l4.length = n4 at *
 obtain ⟨n1, hn1⟩ : ∃ n, l.length = n := ⟨_, rfl⟩
 have HN := yC.mk hn1
 rw [hn1] at HS HO HP
 generalize l0.length = n0 at *
 rw [hn1]
 clear hn1 hlc hC hr hgl hs hr0 hp ho hh hk hf hs2
 go_enter Tryz.func54, Tryz.ntmps54
 go_upto_region 1 with (first | ((with_reducible refine yK (N := 3) rfl ?_); refine yQ (w := w) ?hg (N := 3) ?hd (cs := #[.slice A0 n0 c0, .slice A1 n1 c1]) (t := 76) HX.out ?hr ?_; (case hd | hg => rfl); (case hr => go_simp; try rfl); intro g3 W3 hx; replace HX := yC.mk hx; clear hx) | ((with_reducible refine yK (N := 4) rfl ?_); refine yQ (w := w) ?hg (N := 4) ?hd (cs := #[.int .i64 k, .int .i64 a, .int .i64 s, .string sep, .slice A n4 c]) (t := 29) HX.out ?hr ?_; (case hd | hg => rfl); (case hr => go_simp; try rfl); intro g4 W4 hx; replace HX := yC.mk hx; clear hx) | ((with_reducible refine yK (N := 5) rfl ?_); refine yQ (w := w) ?hg (N := 5) ?hd (cs := #[.int .i64 V0, .int .i64 V1, .string V2]) (t := 39) HX.out ?hr ?_; (case hd | hg => rfl); (case hr => go_simp; try rfl); intro g5 W5 hx; replace HX := yC.mk hx; clear hx) | ((with_reducible refine yK (N := 6) rfl ?_); refine yQ (w := w) ?hg (N := 6) ?hd (cs := #[.slice none 0 0, .slice none 0 0]) (t := 76) HX.out ?hr ?_; (case hd | hg => rfl); (case hr => go_simp; try rfl); intro g6 W6 hx; replace HX := yC.mk hx; clear hx))
 simp only [Act.put, List.setIfInBounds_toArray, List.set_cons_zero, List.set_cons_succ]
 have a0 := HX.out.cell 3 0 rfl rfl; have a1 := HX.out.cell 3 1 rfl rfl
 have b0 := HX.out.cell 2 0 rfl rfl; have b1 := HX.out.cell 2 1 rfl rfl; have b2 := HX.out.cell 2 2 rfl rfl; have b3 := HX.out.cell 2 3 rfl rfl; have b4 := HX.out.cell 2 4 rfl rfl
 have v0 := HX.out.cell 1 0 rfl rfl; have v1 := HX.out.cell 1 1 rfl rfl; have v2 := HX.out.cell 1 2 rfl rfl
 obtain ⟨eb, heb⟩ : ∃ eb, eqV ⟨U0, U1, U2⟩ ⟨V0, V1, V2⟩ = eb := ⟨_, rfl⟩
 have hq : ((U0 == V0) && ((U1 == V1) && (U2.toList == V2.toList))) = eb := HEQ.out.symm.trans heb
 refine Reg.wp_det [(some 12, Reg.Dv.c (.agg #[.slice A0 n0 c0, .slice A1 n1 c1])), (some 13, Reg.Dv.c (.agg #[.int .i64 k, .int .i64 a, .int .i64 s, .string sep, .slice A n4 c])), (some 14, Reg.Dv.c (.agg #[.int .i64 U0, .int .i64 U1, .string U2])), (some 15, Reg.Dv.c (.agg #[.int .i64 V0, .int .i64 V1, .string V2])), (some 16, Reg.Dv.c (.bool eb))] [] 53 rfl (by kernel_rfl) rfl (by kernel_rfl) (by kernel_rfl) (by kernel_rfl) rfl (by kernel_rfl) rfl rfl rfl ?step ?done
 case step =>
  intro iq oq pq hiq hoq hpq ρ ev W S hE hO ec ef hB hft hΦ
  have e3 : ev (.tmp 3) = .pointer (some ⟨g3, 0, none⟩) := hO 3 rfl
  have e4 : ev (.tmp 4) = .pointer (some ⟨g4, 0, none⟩) := hO 4 rfl
  have e5 : ev (.tmp 5) = .pointer (some ⟨g5, 0, none⟩) := hO 5 rfl
  have a0' := yB hB a0
  have a1' := yB hB a1
  have b0' := yB hB b0
  have b1' := yB hB b1
  have b2' := yB hB b2
  have b3' := yB hB b3
  have b4' := yB hB b4
  have v0' := yB hB v0
  have v1' := yB hB v1
  have v2' := yB hB v2
  simp only [Reg.Ls_some, Reg.Ls_none, Reg.Ls_nil, Reg.val_c, Reg.val_u, Reg.val_n, Reg.val_box, List.forall_mem_cons, List.map_cons, List.map_nil] at hE
  obtain ⟨e12, e13, e14, e15, e16, _⟩ := hE
  have hiq2 : iq = 0 ∨ iq = 1 ∨ iq = 2 ∨ iq = 3 ∨ iq = 4 := by have : iq < 5 := hiq; omega
  clear hiq
  rcases hiq2 with rfl | rfl | rfl | rfl | rfl
  all_goals cases hoq
  all_goals cases hpq
  rotate_left 2
  ·refine Reg.DStep.cc (g := 33) (args := #[.agg #[.slice A0 n0 c0, .slice A1 n1 c1], .agg #[.int .i64 k, .int .i64 a, .int .i64 s, .string sep, .slice A n4 c]]) (by first | exact .inl rfl | exact .inr ⟨_, _, _, rfl, rfl, (by assumption)⟩) hB (by go_simp; try rfl) ?_
   exact HS.out W (yD HX.out.below hB)
  rotate_right 2
  all_goals (refine Reg.DStep.cv (by first | exact .inl rfl | exact .inr ⟨_, _, _, rfl, rfl, (by assumption)⟩) hB ?_; go_simp; try (first | done | rfl | (rw [← hq]; rfl) | (simp [← hq]; done) | (rw [← hq]; by_cases h0 : U0 = V0 <;> by_cases h1 : U1 = V1 <;> by_cases h2 : U2.toList = V2.toList <;> simp [h0, h1, h2])))
 case done =>
  intro ρ W S hB hft hap hΦ
  simp only [Reg.Ls_some, Reg.Ls_none, Reg.Ls_nil, Reg.val_c, Reg.val_u, Reg.val_n, Reg.val_box, List.map_cons, List.map_nil, Reg.puts, Act.put, List.setIfInBounds_toArray, List.set_cons_zero, List.set_cons_succ, List.drop_succ_cons, List.drop_zero, List.length_cons, List.length_nil, Nat.zero_add, Nat.reduceAdd]
  have HX := HX.cl hB
  clear hΦ hft hap v0 v1 v2 b0 b1 b2 b3 b4 a0 a1 HEQ hq
  cases eb
  ·have HO2 := yC.mk (HO.out heb)
   have HH2 := yC.mk (HH.out heb)
   have HP2 := yC.mk (HP.out heb)
   have HF2 := yC.mk (HF.out heb)
   have HS3 := yC.mk (HS2.out heb)
   have HE2 := HE.out
   unfold putsR at HE2
   rw [if_neg (by rw [heb]; exact Bool.false_ne_true)] at HE2
   have HE3 := yC.mk HE2
   clear HE2 HE HO HH HP HF HS2 heb
   have b0 := HX.out.cell 2 0 rfl rfl; have b1 := HX.out.cell 2 1 rfl rfl; have b2 := HX.out.cell 2 2 rfl rfl; have b3 := HX.out.cell 2 3 rfl rfl; have b4 := HX.out.cell 2 4 rfl rfl
   have a0 := HX.out.cell 3 0 rfl rfl; have a1 := HX.out.cell 3 1 rfl rfl
   go_upto_region 4 with (first | (go_at_call 45; (with_reducible refine (HO2.out _ HX.out.below).mono ?_); rintro e WW ⟨rfl, hb⟩; have hx := HX.out.call hb; clear HX hb a0 a1 b0 b1 b2 b3 b4; have HX := yC.mk hx; clear hx) | ((with_reducible refine yK (N := 7) rfl ?_); refine yQ (w := w) ?hg (N := 7) ?hd (cs := #[.int .i64 0, .int .i64 0, .bool false]) (t := 49) HX.out ?hr ?_; (case hd | hg => rfl); (case hr => go_simp; try rfl); intro g7 W7 hx; replace HX := yC.mk hx; clear hx; refine xG (w := w) rfl 49 (.tmp 7) (.tmp 22) rfl rfl (L1 := []) (cells := #[.int .i64 T0, .int .i64 T1, .bool T2]) HX.out rfl rfl info49s rfl rfl ?_; intro W8 hx; replace HX := yC.mk hx; clear hx))
   try simp only [Act.put, List.setIfInBounds_toArray, List.set_cons_zero, List.set_cons_succ]
   have t0 := HX.out.cell 0 0 rfl rfl; have t1 := HX.out.cell 0 1 rfl rfl; have t2 := HX.out.cell 0 2 rfl rfl
   have v0 := HX.out.cell 2 0 rfl rfl; have v1 := HX.out.cell 2 1 rfl rfl; have v2 := HX.out.cell 2 2 rfl rfl
   cases hb
   ·have HE2 := HE3.out
    rw [if_pos rfl] at HE2
    subst HE2
    clear HE3 HP2 HF2 HS3
    go_wp2_with (first | (go_at_call 51; (with_reducible refine (HH2.out _ HX.out.below).mono ?_); rintro e WW ⟨rfl, hb⟩; have hx := HX.out.call hb; clear HX hb t0 t1 t2 v0 v1 v2; have HX := yC.mk hx; clear hx) | (go_at_call 66; (with_reducible refine (ask_false _).mono ?_); rintro e WW ⟨rfl, hb⟩; have hx := HX.out.call hb; clear HX hb; have HX := yC.mk hx; clear hx))
    exact ⟨rfl, HX.out.below, rfl⟩
   ·have HP3 := yC.mk (HP2.out rfl)
    have HF3 := yC.mk (HF2.out rfl)
    have HS4 := yC.mk (HS3.out rfl)
    have HE2 := HE3.out
    rw [if_neg (by decide)] at HE2
    have HE4 := yC.mk HE2
    clear HE2 HE3 HP2 HF2 HS3
    go_upto_region 6 with (first | (go_at_call 51; (with_reducible refine (HH2.out _ HX.out.below).mono ?_); rintro e WW ⟨rfl, hb⟩; have hx := HX.out.call hb; clear HX hb t0 t1 t2 v0 v1 v2; have HX := yC.mk hx; clear hx) | (go_at_call 66; (with_reducible refine (ask_true _).mono ?_); rintro e WW ⟨rfl, hb⟩; have hx := HX.out.call hb; clear HX hb; have HX := yC.mk hx; clear hx; have b0 := HX.out.cell 3 0 rfl rfl; have b1 := HX.out.cell 3 1 rfl rfl; have b2 := HX.out.cell 3 2 rfl rfl; have b3 := HX.out.cell 3 3 rfl rfl; have b4 := HX.out.cell 3 4 rfl rfl) | (go_at_call 55; (with_reducible refine (HK.out _).mono ?_); rintro e WW ⟨rfl, hb⟩; have hx := HX.out.call hb; clear HX hb b0 b1 b2 b3 b4; have HX := yC.mk hx; clear hx) | ((with_reducible refine yK (N := 9) rfl ?_); refine yQ (w := w) ?hg (N := 9) ?hd (cs := #[.int .i64 0, .nilFunc, .nilFunc, .nilFunc]) (t := 105) HX.out ?hr ?_; (case hd | hg => rfl); (case hr => go_simp; try rfl); intro g9 W9 hx; replace HX := yC.mk hx; clear hx; refine xG (w := w) rfl 105 (.tmp 9) (.tmp 31) rfl rfl (L1 := []) (cells := #[.int .i64 ar, .func (.func ft) #[] #[], .func (.func fs) #[] #[], .func (.func fp) #[] #[]]) HX.out rfl rfl info105s rfl rfl ?_; intro W10 hx; replace HX := yC.mk hx; clear hx))
    try simp only [Act.put, List.setIfInBounds_toArray, List.set_cons_zero, List.set_cons_succ]
    have y0 := HX.out.cell 0 0 rfl rfl; have y1 := HX.out.cell 0 1 rfl rfl; have y2 := HX.out.cell 0 2 rfl rfl; have y3 := HX.out.cell 0 3 rfl rfl
    have v0 := HX.out.cell 3 0 rfl rfl; have v1 := HX.out.cell 3 1 rfl rfl; have v2 := HX.out.cell 3 2 rfl rfl
    have b0 := HX.out.cell 4 0 rfl rfl; have b1 := HX.out.cell 4 1 rfl rfl; have b2 := HX.out.cell 4 2 rfl rfl; have b3 := HX.out.cell 4 3 rfl rfl; have b4 := HX.out.cell 4 4 rfl rfl
    have a0 := HX.out.cell 5 0 rfl rfl; have a1 := HX.out.cell 5 1 rfl rfl
    cases R with | none =>
     have HE2 := HE4.out
     try dsimp only at HE2
     subst HE2
     clear HE4 HF3 HS4
     go_wp2_with (first | ((with_reducible refine (HP3.out _ HX.out.below).mono ?_); rintro e WX ⟨hb, rfl⟩; have hx := HX.out.call hb; clear HX hb; have HX := yC.mk hx; clear hx))
     exact ⟨rfl, HX.out.below, rfl⟩ | some l2 =>
     have HF4 := yC.mk (HF3.out l2 rfl)
     have HS5 := yC.mk (HS4.out l2 rfl)
     clear HF3 HS4
     go_upto_region 7 with (first | ((with_reducible refine (HP3.out _ HX.out.below).mono ?_); rintro e WX ⟨hb, A2, c2, rfl, hr⟩; have HROW := yC.mk (hr.lower HX.out.below.size); have hx := HX.out.call hb; clear HX hb hr y0 y1 y2 y3 v0 v1 v2 b0 b1 b2 b3 b4 a0 a1; have HX := yC.mk hx; clear hx) | ((with_reducible refine yK (N := 11) rfl ?_); refine bx_newB (w := w) ?hg (N := 11) ?hd (cs := #[.slice none 0 0, .slice none 0 0]) (t := 76) HX.out ?hr ?_; (case hd | hg => rfl); (case hr => go_simp; try rfl); intro g11 W11 hx hb; have HROW2 := yC.mk (HROW.out.below hb); clear HX HROW hb; have HX := yC.mk hx; clear hx; refine bx_putB (w := w) rfl 76 (.tmp 11) (.tmp 38) rfl rfl (L1 := []) (cells := #[.slice A0 n0 c0, .slice A2 l2.length c2]) HX.out rfl rfl info76s rfl rfl ?_; intro W12 hx hk; have HROW := yC.mk (HROW2.out.keep (HX.out.at 0 rfl) (by decide) hk); clear HX HROW2 hk; have HX := yC.mk hx; clear hx))
     try simp only [Act.put, List.setIfInBounds_toArray, List.set_cons_zero, List.set_cons_succ]
     have m0 : W12.cell? ⟨g11, 0, none⟩ = some (.slice A0 n0 c0) := HX.out.cell 0 0 rfl rfl
     have m1 : W12.cell? ⟨g11, 1, none⟩ = some (.slice A2 l2.length c2) := HX.out.cell 0 1 rfl rfl
     have v0 := HX.out.cell 4 0 rfl rfl; have v1 := HX.out.cell 4 1 rfl rfl; have v2 := HX.out.cell 4 2 rfl rfl
     have b0 := HX.out.cell 5 0 rfl rfl; have b1 := HX.out.cell 5 1 rfl rfl; have b2 := HX.out.cell 5 2 rfl rfl; have b3 := HX.out.cell 5 3 rfl rfl; have b4 := HX.out.cell 5 4 rfl rfl
     generalize sv2 l2 = z2 at *
     obtain ⟨Z0, Z1, Z2⟩ := z2
     dsimp only at HS5
     obtain ⟨fv, hfv⟩ : ∃ fv, fb l2 = fv := ⟨_, rfl⟩
     have HE2 := HE4.out
     try dsimp only at HE2
     rw [hfv] at HE2 HF4 HS5
     clear HE4
     obtain ⟨e2, he2⟩ : ∃ e2, eqV ⟨Z0, Z1, Z2⟩ ⟨V0, V1, V2⟩ = e2 := ⟨_, rfl⟩
     have hq : ((Z0 == V0) && ((Z1 == V1) && (Z2.toList == V2.toList))) = e2 := he2
     rw [he2] at HE2
     have HL := yC.mk (And.intro hfv he2)
     clear hfv he2
     cases fv
     ·rw [if_neg (by simp)] at HE2
      subst HE2
      refine Reg.wp_det [(some 39, Reg.Dv.c (.pointer (some ⟨g11, 0, none⟩))), (some 40, Reg.Dv.c (.slice A0 n0 c0)), (some 41, Reg.Dv.c (.pointer (some ⟨g11, 1, none⟩))), (some 42, Reg.Dv.c (.slice A2 l2.length c2)), (some 43, Reg.Dv.c (.bool false)), (some 44, Reg.Dv.c (.bool false)), (some 45, Reg.Dv.c undef), (some 46, Reg.Dv.c undef), (some 47, Reg.Dv.c undef), (some 48, Reg.Dv.c undef), (some 49, Reg.Dv.c undef), (some 50, Reg.Dv.c (.bool false))] [] 53 rfl (by kernel_rfl) rfl (by kernel_rfl) (by kernel_rfl) (by kernel_rfl) rfl (by kernel_rfl) rfl rfl rfl ?step ?done
      case step =>
       intro iq oq pq hiq hoq hpq ρ ev W S hE hO ec ef hB hft hΦ
       have e4 : ev (.tmp 4) = .pointer (some ⟨g4, 0, none⟩) := hO 4 rfl
       have e5 : ev (.tmp 5) = .pointer (some ⟨g5, 0, none⟩) := hO 5 rfl
       have e11 : ev (.tmp 11) = .pointer (some ⟨g11, 0, none⟩) := hO 11 rfl
       have m0' := yB hB m0
       have m1' := yB hB m1
       have b0' := yB hB b0
       have b1' := yB hB b1
       have b2' := yB hB b2
       have b3' := yB hB b3
       have b4' := yB hB b4
       have v0' := yB hB v0
       have v1' := yB hB v1
       have v2' := yB hB v2
       simp only [Reg.Ls_some, Reg.Ls_none, Reg.Ls_nil, Reg.val_c, Reg.val_u, Reg.val_n, Reg.val_box, List.forall_mem_cons, List.map_cons, List.map_nil] at hE
       obtain ⟨e39, e40, e41, e42, e43, e44, e45, e46, e47, e48, e49, e50, _⟩ := hE
       have hiq2 : iq = 0 ∨ iq = 1 ∨ iq = 2 ∨ iq = 3 ∨ iq = 4 ∨ iq = 5 ∨ iq = 6 ∨ iq = 7 ∨ iq = 8 ∨ iq = 9 ∨ iq = 10 ∨ iq = 11 := by have : iq < 12 := hiq; omega
       clear hiq
       rcases hiq2 with rfl | rfl | rfl | rfl | rfl | rfl | rfl | rfl | rfl | rfl | rfl | rfl
       all_goals cases hoq
       all_goals cases hpq
       rotate_left 4
       ·refine Reg.DStep.cc (g := 30) (args := #[.slice A0 n0 c0, .slice A2 l2.length c2]) (by first | exact .inl rfl | exact .inr ⟨_, _, _, rfl, rfl, (by assumption)⟩) hB (by go_simp; try rfl) ?_
        exact HF4.out A2 c2 W (yD HX.out.below hB) (HROW.out.below hB)
       rotate_right 4
       all_goals (first | (exact Reg.DStep.sk ⟨_, _, _, rfl, rfl, (by first | exact .inl ⟨_, (by assumption), (by decide)⟩ | exact .inr (by assumption))⟩ hB) | skip)
       all_goals (refine Reg.DStep.cv (by first | exact .inl rfl | exact .inr ⟨_, _, _, rfl, rfl, (by assumption)⟩) hB ?_; go_simp; try (first | done | rfl | (rw [← hq]; by_cases h0 : Z0 = V0 <;> by_cases h1 : Z1 = V1 <;> by_cases h2 : Z2.toList = V2.toList <;> simp [h0, h1, h2]) | (cases e2 <;> rfl)))
      case done =>
       intro ρ W S hB hft hap hΦ
       simp only [Reg.Ls_some, Reg.Ls_none, Reg.Ls_nil, Reg.val_c, Reg.val_u, Reg.val_n, Reg.val_box, List.map_cons, List.map_nil, Reg.puts, Act.put, List.setIfInBounds_toArray, List.set_cons_zero, List.set_cons_succ, List.drop_succ_cons, List.drop_zero, List.length_cons, List.length_nil, Nat.zero_add, Nat.reduceAdd]
       have HX := HX.cl hB
       clear hΦ hft hap v0 v1 v2 b0 b1 b2 b3 b4 m0 m1 hq
       go_wp2_with (first | (go_at_call 66; (with_reducible refine (ask_false _).mono ?_); rintro e WW ⟨rfl, hb⟩; have hx := HX.out.call hb; clear HX hb; have HX := yC.mk hx; clear hx))
       exact ⟨rfl, HX.out.below, rfl⟩
     ·have HE5 := yC.mk HE2
      clear HE2
      refine Reg.wp_det [(some 39, Reg.Dv.c (.pointer (some ⟨g11, 0, none⟩))), (some 40, Reg.Dv.c (.slice A0 n0 c0)), (some 41, Reg.Dv.c (.pointer (some ⟨g11, 1, none⟩))), (some 42, Reg.Dv.c (.slice A2 l2.length c2)), (some 43, Reg.Dv.c (.bool true)), (some 44, Reg.Dv.c (.bool true)), (some 45, Reg.Dv.c (.agg #[.slice A0 n0 c0, .slice A2 l2.length c2])), (some 46, Reg.Dv.c (.agg #[.int .i64 k, .int .i64 a, .int .i64 s, .string sep, .slice A n4 c])), (some 47, Reg.Dv.c (.agg #[.int .i64 Z0, .int .i64 Z1, .string Z2])), (some 48, Reg.Dv.c (.agg #[.int .i64 V0, .int .i64 V1, .string V2])), (some 49, Reg.Dv.c (.bool e2)), (some 50, Reg.Dv.c (.bool e2))] [] 53 rfl (by kernel_rfl) rfl (by kernel_rfl) (by kernel_rfl) (by kernel_rfl) rfl (by kernel_rfl) rfl rfl rfl ?step ?done
      case step =>
       intro iq oq pq hiq hoq hpq ρ ev W S hE hO ec ef hB hft hΦ
       have e4 : ev (.tmp 4) = .pointer (some ⟨g4, 0, none⟩) := hO 4 rfl
       have e5 : ev (.tmp 5) = .pointer (some ⟨g5, 0, none⟩) := hO 5 rfl
       have e11 : ev (.tmp 11) = .pointer (some ⟨g11, 0, none⟩) := hO 11 rfl
       have m0' := yB hB m0
       have m1' := yB hB m1
       have b0' := yB hB b0
       have b1' := yB hB b1
       have b2' := yB hB b2
       have b3' := yB hB b3
       have b4' := yB hB b4
       have v0' := yB hB v0
       have v1' := yB hB v1
       have v2' := yB hB v2
       simp only [Reg.Ls_some, Reg.Ls_none, Reg.Ls_nil, Reg.val_c, Reg.val_u, Reg.val_n, Reg.val_box, List.forall_mem_cons, List.map_cons, List.map_nil] at hE
       obtain ⟨e39, e40, e41, e42, e43, e44, e45, e46, e47, e48, e49, e50, _⟩ := hE
       have hiq2 : iq = 0 ∨ iq = 1 ∨ iq = 2 ∨ iq = 3 ∨ iq = 4 ∨ iq = 5 ∨ iq = 6 ∨ iq = 7 ∨ iq = 8 ∨ iq = 9 ∨ iq = 10 ∨ iq = 11 := by have : iq < 12 := hiq; omega
       clear hiq
       rcases hiq2 with rfl | rfl | rfl | rfl | rfl | rfl | rfl | rfl | rfl | rfl | rfl | rfl
       all_goals cases hoq
       all_goals cases hpq
       rotate_left 8
       ·refine Reg.DStep.cc (g := 33) (args := #[.agg #[.slice A0 n0 c0, .slice A2 l2.length c2], .agg #[.int .i64 k, .int .i64 a, .int .i64 s, .string sep, .slice A n4 c]]) (by first | exact .inl rfl | exact .inr ⟨_, _, _, rfl, rfl, (by assumption)⟩) hB (by go_simp; try rfl) ?_
        exact HS5.out rfl A2 c2 W (yD HX.out.below hB) (HROW.out.below hB)
       rotate_right 8
       rotate_left 4
       ·refine Reg.DStep.cc (g := 30) (args := #[.slice A0 n0 c0, .slice A2 l2.length c2]) (by first | exact .inl rfl | exact .inr ⟨_, _, _, rfl, rfl, (by assumption)⟩) hB (by go_simp; try rfl) ?_
        exact HF4.out A2 c2 W (yD HX.out.below hB) (HROW.out.below hB)
       rotate_right 4
       all_goals (refine Reg.DStep.cv (by first | exact .inl rfl | exact .inr ⟨_, _, _, rfl, rfl, (by assumption)⟩) hB ?_; go_simp; try (first | done | rfl | (rw [← hq]; by_cases h0 : Z0 = V0 <;> by_cases h1 : Z1 = V1 <;> by_cases h2 : Z2.toList = V2.toList <;> simp [h0, h1, h2]) | (cases e2 <;> rfl)))
      case done =>
       intro ρ W S hB hft hap hΦ
       simp only [Reg.Ls_some, Reg.Ls_none, Reg.Ls_nil, Reg.val_c, Reg.val_u, Reg.val_n, Reg.val_box, List.map_cons, List.map_nil, Reg.puts, Act.put, List.setIfInBounds_toArray, List.set_cons_zero, List.set_cons_succ, List.drop_succ_cons, List.drop_zero, List.length_cons, List.length_nil, Nat.zero_add, Nat.reduceAdd]
       have HROW3 := yC.mk (HROW.out.below hB)
       have HX := HX.cl hB
       clear HROW hΦ hft hap v0 v1 v2 b0 b1 b2 b3 b4 m0 m1 hq
       cases e2
       ·have HE2 := HE5.out
        rw [if_neg (by decide)] at HE2
        subst HE2
        go_wp2_with (first | (go_at_call 66; (with_reducible refine (ask_false _).mono ?_); rintro e WW ⟨rfl, hb⟩; have hx := HX.out.call hb; clear HX hb; have HX := yC.mk hx; clear hx))
        exact ⟨rfl, HX.out.below, rfl⟩
       ·have HE2 := HE5.out
        rw [if_pos (show (true && true) = true from rfl)] at HE2
        subst HE2
        go_wp2_with (first | (go_at_call 66; (with_reducible refine (ask_true _).mono ?_); rintro e WW ⟨rfl, hb⟩; have HROW4 := yC.mk (HROW3.out.below hb); have hx := HX.out.call hb; clear HX hb; have HX := yC.mk hx; clear hx; have m0 := HX.out.cell 0 0 rfl rfl; have m1 := HX.out.cell 0 1 rfl rfl; have x0 := HX.out.cell 3 0 rfl rfl; have x1 := HX.out.cell 3 1 rfl rfl; have z0 := HX.out.frz 3 0 rfl; have z1 := HX.out.frz 3 1 rfl))
        have HY := (HX.out.set (L1 := [_, _, _]) 0 (.slice A0 n0 c0)).set (L1 := [_, _, _]) 1 (.slice A2 l2.length c2)
        refine bodyPost_ret (results_cell_row rfl _ _ g6 76 #[.slice A0 n0 c0, .slice A2 l2.length c2] (0, 0) _ rfl (HY.at 3 rfl) hu3 rfl (by kernel_rfl)) rfl ?_
        exact ⟨HY.below, A2, c2, rfl, (HROW4.out.set (HX.out.at 3 rfl) (by decide) _ _).set ((HX.out.set (L1 := [_, _, _]) 0 (.slice A0 n0 c0)).at 3 rfl) (by decide) _ _⟩
  ·have HE2 := HE.out
   unfold putsR at HE2
   rw [if_pos heb] at HE2
   subst HE2
   clear HE HO HH HP HF HS2 heb
   have a0 := HX.out.cell 3 0 rfl rfl; have a1 := HX.out.cell 3 1 rfl rfl
   have x0 := HX.out.cell 0 0 rfl rfl; have x1 := HX.out.cell 0 1 rfl rfl
   have z0 := HX.out.frz 0 0 rfl; have z1 := HX.out.frz 0 1 rfl
   go_wp2_with fail
   have HY := (HX.out.set (L1 := []) 0 (.slice A0 n0 c0)).set (L1 := []) 1 (.slice A1 n1 c1)
   refine bodyPost_ret (results_cell_row rfl _ _ g6 76 #[.slice A0 n0 c0, .slice A1 n1 c1] (0, 0) _ rfl (HY.at 0 rfl) hu3 rfl (by kernel_rfl)) rfl ?_
   exact ⟨HY.below, A1, c1, by rw [HN.out], .inl ⟨rfl, rfl, rfl⟩⟩
end
section
open Go.RowKit YtmebkjdknhknbaaGreatDoor.F YtmebkjdknhknbaaGreatDoor.C
def hasV (t : S49) (v : S39) : Bool := hasB t.f0 t.f1 t.f2 v.f0 v.f1 v.f2
def putK (rec : List S39 → S29 → S39 → Option (List S39)) (k : Nat) (l : List S39) (x : S29) (v : S39) : Option (List S39) :=
 if x.f0 ≤ 2 then some (l.set x.f1.toNat v) else if x.f0 = 3 then putTextV l x v
 else if x.f0 = 4 then (if v.f0 = 3 ∧ hasSep v.f2 x.f3 = false then rec l (yM x.f4 (0 : Nat)) (joinV v (xO (shV k l (yM x.f4 (0 : Nat))) x.f3) x.f3) else none)
 else if x.f0 = 5 then (if (aheadV (shV k l (yM x.f4 (0 : Nat))) x.f3).f0 = 3 then rec l (yM x.f4 (0 : Nat)) (joinV (aheadV (shV k l (yM x.f4 (0 : Nat))) x.f3) v x.f3) else none)
 else (if (joinV (shV k l (yM x.f4 (0 : Nat))) (shV k l (yM x.f4 (1 : Nat))) x.f3).f2.size ≤ 40 then (rec l (yM x.f4 (0 : Nat)) (aheadV v x.f3)).bind fun l2 => rec l2 (yM x.f4 (1 : Nat)) (xO v x.f3) else none)
def putsV : Nat → List S57 → List S39 → S29 → S39 → Option (List S39)
 | 0, _, _, _, _ => none
 | k + 1, l0, l, x, v => putsR l (shV (k + 1) l x) v (hasV (ofV (k + 1) l0 x 8).1 v) (putK (putsV k l0) k l x v) (fun l2 => fitL l0 l2) (fun l2 => shV (k + 1) l2 x)
theorem putsV_succ (k : Nat) (l0 : List S57) (l : List S39) (x : S29) (v : S39) : putsV (k + 1) l0 l x v = putsR l (shV (k + 1) l x) v (hasV (ofV (k + 1) l0 x 8).1 v) (putK (putsV k l0) k l x v) (fun l2 => fitL l0 l2) (fun l2 => shV (k + 1) l2 x) := rfl
theorem putsV_fit {k : Nat} {l0 : List S57} {l l2 : List S39} {x : S29} {v : S39} (hf : fitL l0 l = true) (h : putsV k l0 l x v = some l2) : fitL l0 l2 = true := by
 cases k with
 | zero => cases h
 | succ k =>
  rw [putsV_succ] at h
  unfold putsR at h
  split at h
  ·obtain rfl := Option.some.inj h; exact hf
  ·split at h
   ·cases h
   ·split at h
    ·cases h
    ·split at h
     ·rename_i hc
      obtain rfl := Option.some.inj h
      rw [Bool.and_eq_true] at hc
      exact hc.1
     ·cases h
theorem has_size {t : S49} {v : S39} (h : hasV t v = true) : v.f2.size ≤ 40 := by
 unfold hasV hasB at h
 simp only [Bool.and_eq_true] at h
 exact (ck_like (.inl rfl) h.2.1).1
theorem join_size (a b : S39) (sep : ByteArray) : (joinV a b sep).f2.size ≤ a.f2.size + sep.size + b.f2.size := by
 unfold joinV
 split
 ·omega
 ·show (a.f2 ++ sep ++ b.f2).size ≤ _
  rw [ByteArray.size_append, ByteArray.size_append]; exact Nat.le_refl _
theorem puts_all (l0 : List S57) (hz : l0.length ≤ 1000000) : ∀ (k : Nat) (x : S29), vOk k l0 x → ∀ (l : List S39) (v : S39), fitL l0 l = true → PutTo 54 l0 l x v (putsV k l0 l x v) := by
 intro k
 induction k with
 | zero => intro x h; exact h.1.elim
 | succ k ih =>
  intro x h l v hf
  have hlen := fit_len hf
  have main : ∀ (ar : Int) (ft fs fp : Nat), kindC x.f0 = #[.int .i64 ar, .func (.func ft) #[] #[], .func (.func fs) #[] #[], .func (.func fp) #[] #[]] → (∀ args W, Sem.run Tryz.prog (callFunc fp args) W = .ok (.enter fp args) W) → (v.f2.size ≤ 40 → PutTo fp l0 l x v (putK (putsV k l0) k l x v)) → PutTo 54 l0 l x v (putsV (k + 1) l0 l x v) := by
   intro ar ft fs fp hk hcf hp
   rw [putsV_succ]
   exact puts_to l0 l x v (shV (k + 1) l x) (ofV (k + 1) l0 x 8) _ _ _ _ (2 * l0.length + 1) ar ft fs fp hk hcf (fun A0 c0 => xR A0 _ c0 l (k + 1) x (show_ok hf _ _ h).1) (fun _ => of_all l0 (k + 1) x h.1 8 ⟨by decide, by decide⟩) (fun _ => has_f _ _ _ _ _ _)
    (fun _ hb => hp (has_size hb)) (fun _ _ l2 _ => fit_f l0 l2 (by omega)) (fun _ _ l2 _ h2 A0 c0 => xR A0 _ c0 l2 (k + 1) x (show_ok h2 _ _ h).1)
  by_cases hx : x.f0 ≤ 3
  ·obtain ⟨⟨h1, h2, h3⟩, h4⟩ := vOk_plain h hx
   have hv := putValue_to l0 l x v h2 (by omega) (by omega)
   by_cases e1 : x.f0 = 1
   ·exact main 0 67 68 69 (by rw [e1]; rfl) (xL Tryz.func69 (by kernel_rfl) rfl) (fun _ => by unfold putK; rw [if_pos (by omega)]; exact hv)
   by_cases e2 : x.f0 = 2
   ·exact main 0 70 71 69 (by rw [e2]; rfl) (xL Tryz.func69 (by kernel_rfl) rfl) (fun _ => by unfold putK; rw [if_pos (by omega)]; exact hv)
   have e3 : x.f0 = 3 := by omega
   refine main 0 72 73 74 (by rw [e3]; rfl) (xL Tryz.func74 (by kernel_rfl) rfl) (fun hs => ?_)
   unfold putK
   rw [if_neg (by omega), if_pos e3]
   exact putText_to l0 l x v h2 (by omega) (by omega) (parseR v.f2.data.toList x.f2).1 (parseR v.f2.data.toList x.f2).2 (fun _ => by unfold decimal_Parse.f; rw [if_pos (by omega)])
  ·obtain ⟨h1, h2, h3⟩ := xQ h hx
   have hk0 : 0 < x.f4.length := by split at h3 <;> omega
   have v0 := vOk_kid h 0 hk0
   have s0 := show_ok hf _ _ v0
   have hsh := fun A0 c0 => xR A0 l0.length c0 l k (yM x.f4 (0 : Nat)) s0.1
   have ha := ahead_size (shV k l (yM x.f4 (0 : Nat))) x.f3
   have hb := behind_size (shV k l (yM x.f4 (0 : Nat))) x.f3
   have hs0 := s0.2
   by_cases e4 : x.f0 = 4
   ·refine main 1 75 76 77 (by rw [e4]; rfl) (xL Tryz.func77 (by kernel_rfl) rfl) (fun hs => ?_)
    unfold putK
    rw [if_neg (by omega), if_neg (by omega), if_pos e4]
    exact putFirst_to l0 l x v (shV k l (yM x.f4 (0 : Nat))) _ hk0 ⟨Nat.le_trans hs0 (by decide), by omega, by omega, by omega⟩ hsh (fun _ _ => ih _ v0 l _ hf)
   by_cases e5 : x.f0 = 5
   ·refine main 1 75 78 79 (by rw [e5]; rfl) (xL Tryz.func79 (by kernel_rfl) rfl) (fun hs => ?_)
    unfold putK
    rw [if_neg (by omega), if_neg (by omega), if_neg (by omega), if_pos e5]
    exact putRest_to l0 l x v (shV k l (yM x.f4 (0 : Nat))) _ hk0 ⟨Nat.le_trans hs0 (by decide), by omega, by omega, by omega⟩ hsh (fun _ => ih _ v0 l _ hf)
   have e6 : x.f0 = 6 := by omega
   have hk1 : 1 < x.f4.length := by rw [e6] at h3; simp at h3; omega
   have v1 := vOk_kid h 1 hk1
   have s1 := show_ok hf _ _ v1
   have hs1 := s1.2
   have hj := join_size (shV k l (yM x.f4 (0 : Nat))) (shV k l (yM x.f4 (1 : Nat))) x.f3
   refine main 2 75 80 81 (by rw [e6]; rfl) (xL Tryz.func81 (by kernel_rfl) rfl) (fun hs => ?_)
   unfold putK
   rw [if_neg (by omega), if_neg (by omega), if_neg (by omega), if_neg (by omega)]
   exact putBoth_to l0 l x v _ _ _ hk1 (by omega) (by omega) (fun A0 c0 => joined_to A0 _ c0 l x _ _ hk1 ⟨Nat.le_trans hs0 (by decide), Nat.le_trans hs1 (by decide), by omega⟩ (hsh A0 c0) (xR A0 _ c0 l k _ s1.1)) (fun _ => ih _ v0 l _ hf) (fun _ l2 h2 => ih _ v1 l2 _ (putsV_fit hf h2))
end
section
open Go.RowKit
theorem catch_panicking (w0 w : World) (g8 g9 n c : Nat) (x : Int) (A : Option Addr) (L : List (Nat × Nat × Array Value)) (older : List PanicEntry) (hX : Bxs w0 w ((g9, 34, #[.int .i64 x]) :: (g8, 30, #[.slice A n c]) :: L)) :
  CallsD Tryz.prog 53 #[.pointer (some ⟨g8, 0, none⟩), .pointer (some ⟨g9, 0, none⟩)] (.panicking (failE :: older)) w fun e u' w' =>
   e = .returned (.tuple #[]) ∧ u' = .panicking ({ failE with recovered := true } :: older) ∧ ∃ g, Bxs w0 w' ((g, 98, #[]) :: (g9, 34, #[.int .i64 160]) :: (g8, 30, #[.slice none 0 0]) :: L) := by
 have HX := yC.mk hX
 clear hX
 refine callsD_of_wpS Tryz.func53 rfl fun c₀ cs hu => ?_
 unfold failE at hu
 apply wpS_seq
 apply wpS_region
 simp [wpOpsS, go_sem, recoverD, hu, Tryz.ntmps53, Exit.thenS]
 apply wpS_seq
 apply wpS_region
 simp [wpOpsS, go_sem, Tryz.ntmps53, Exit.thenS]
 refine wpS_cond (t := true) (by simp [Act.eval, Array.replicate]) ?_
 simp only [if_true]
 refine wpS_of_wp ?_
 have hr : (Array.replicate 14 undef : Array Value) = #[undef, undef, undef, undef, undef, undef, undef, undef, undef, undef, undef, undef, undef, undef] := rfl
 have hta : ∀ W : World, Sem.run Tryz.prog (Instr.typeAssert (.iface 98 (.agg #[])) 20 98 true) W = .ok (.tuple #[.agg #[], .bool true]) W := fun W => by kernel_rfl
 simp only [hr, List.setIfInBounds_toArray, List.set_cons_zero, List.set_cons_succ, List.append_toArray, List.cons_append, List.nil_append]
 clear hr
 go_upto_region 3 with (first | ((with_reducible refine yK (N := 3) rfl ?_); refine yQ (w := w0) ?hg (N := 3) ?hd (cs := #[]) (t := 98) HX.out ?hr ?_; (case hd | hg => rfl); (case hr => go_simp; try rfl); intro g3 W3 hx; replace HX := yC.mk hx; clear hx))
 go_upto_region 5 with (fail)
 have a0 : W3.cell? ⟨g8, 0, none⟩ = some (.slice A n c) := HX.out.cell 2 0 rfl rfl
 have a1 : W3.frozen? ⟨g8, 0, none⟩ = false := HX.out.frz 2 0 rfl
 have HY := HX.out.set (L1 := [_, _]) 0 (.slice none 0 0)
 have b0 : (W3.setCell ⟨g8, 0, none⟩ (.slice none 0 0)).cell? ⟨g9, 0, none⟩ = some (.int .i64 x) := HY.cell 1 0 rfl rfl
 have b1 : (W3.setCell ⟨g8, 0, none⟩ (.slice none 0 0)).frozen? ⟨g9, 0, none⟩ = false := HY.frz 1 0 rfl
 go_wp2_with fail
 have HZ : ∃ g, Bxs w0 ((W3.setCell ⟨g8, 0, none⟩ (.slice none 0 0)).setCell ⟨g9, 0, none⟩ (.int .i64 160)) ((g, 98, #[]) :: (g9, 34, #[.int .i64 160]) :: (g8, 30, #[.slice none 0 0]) :: L) := ⟨g3, HY.set (L1 := [_]) 0 (.int .i64 160)⟩
 simp [bodyPostS, results, Tryz.results53, failE]
 exact HZ
theorem catch_idle (p q : Addr) (w : World) :
  CallsD Tryz.prog 53 #[.pointer (some p), .pointer (some q)] .returning w fun e u' w' => e = .returned (.tuple #[]) ∧ u' = .returning ∧ w' = w := by
 refine callsD_of_wpS Tryz.func53 rfl fun c₀ cs hu => ?_
 apply wpS_seq
 apply wpS_region
 simp [wpOpsS, go_sem, recoverD, hu, Tryz.ntmps53, Exit.thenS]
 apply wpS_seq
 apply wpS_region
 simp [wpOpsS, go_sem, Tryz.ntmps53, Exit.thenS]
 refine wpS_cond (t := false) (by simp [Act.eval, Array.replicate]) ?_
 simp only [Bool.false_eq_true, if_false]
 refine wpS_of_wp (wp_skip ?_)
 cases c₀
 simp_all [bodyPostS, results, Tryz.results53]
def putOut (A1 : Option Addr) (c1 : Nat) (l : List S39) (r : Option (List S39)) (w w' : World) (e : Ending) : Prop :=
 Below w.heap.size w w' ∧ match r with | some l' => ∃ A2 c2, e = .returned (.tuple #[.slice A2 l'.length c2, .int .i64 0]) ∧ Row2 A1 c1 l w' w.heap.size A2 c2 l' | none => e = .returned (.tuple #[.slice none 0 0, .int .i64 160])
theorem Put_calls (l0 : List S57) (l : List S39) (x : S29) (v : S39) (R : Option (List S39)) (hp : PutTo 54 l0 l x v R) (A0 : Option Addr) (c0 : Nat) (A1 : Option Addr) (c1 : Nat) (A : Option Addr) (c : Nat) (w : World) (hgl : Gl w) (hc0 : l0.length ≤ c0) (hr0 : Kd.C k57 w A0 l0.length l0) (hc1 : l.length ≤ c1) (hr : Kd.C k39 w A1 l.length l) (hlc : x.f4.length ≤ c) (hC : k29.C w A x.f4.length x.f4) :
  Calls Tryz.prog 32 #[.slice A0 l0.length c0, .agg (lC x A c), .slice A1 l.length c1, .agg (vC v)] w fun e w' => putOut A1 c1 l R w w' e := by
 have hmf : ∀ (fn : Fn) (first cap : Array Value) (w : World), (Instr.makeFunc fn first cap).run Tryz.prog w = .ok (.func fn first cap) w := fun _ _ _ _ => rfl
 have hfl : ∀ (B : Option Addr) (m d : Nat) (B2 : Option Addr) (m2 d2 : Nat) (W : World), Sem.run Tryz.prog (Instr.field 76 (.agg #[.slice B m d, .slice B2 m2 d2]) 1) W = .ok (.slice B2 m2 d2) W := fun _ _ _ _ _ _ _ => by kernel_rfl
 have hu := Tryz.underlying39
 have hu2 := Tryz.underlying29
 have hu3 := Tryz.underlying76
 have HX := yC.mk (Bxs.start w)
 have HP : yC (∀ (w' : World), Below w.heap.size w w' → Calls Tryz.prog 54 #[.agg #[.slice A0 l0.length c0, .slice A1 l.length c1], .agg (lC x A c), .agg (vC v)] w' fun e w'' => PutRes A0 l0.length c0 A1 c1 l R w' w'' e) :=
  ⟨fun w' hb => hp A0 c0 A1 c1 A c w' (hgl.below hb) hc0 (Kd.yI hr0 hb) hc1 (Kd.yI hr hb) hlc (Kd.yI hC hb)⟩
 obtain ⟨k, a, s, sep, l4⟩ := x
 obtain ⟨V0, V1, V2⟩ := v
 unfold lC vC at *
 dsimp only at HP ⊢
 generalize l4.length = n4 at *
 obtain ⟨n1, hn1⟩ : ∃ n, l.length = n := ⟨_, rfl⟩
 rw [hn1] at HP ⊢
 generalize l0.length = n0 at *
 clear hr hC hlc hgl hr0 hn1 hp
 go_enter_defers Tryz.func32, Tryz.ntmps32
 go_upto_region 2 with (first | ((with_reducible refine yK (N := 5) rfl ?_); refine yQ (w := w) ?hg (N := 5) ?hd (cs := #[.int .i64 k, .int .i64 a, .int .i64 s, .string sep, .slice A n4 c]) (t := 29) HX.out ?hr ?_; (case hd | hg => rfl); (case hr => go_simp; try rfl); intro g5 W5 hx; replace HX := yC.mk hx; clear hx) | ((with_reducible refine yK (N := 7) rfl ?_); refine yQ (w := w) ?hg (N := 7) ?hd (cs := #[.int .i64 V0, .int .i64 V1, .string V2]) (t := 39) HX.out ?hr ?_; (case hd | hg => rfl); (case hr => go_simp; try rfl); intro g7 W7 hx; replace HX := yC.mk hx; clear hx) | ((with_reducible refine yK (N := 8) rfl ?_); refine yQ (w := w) ?hg (N := 8) ?hd (cs := #[.slice none 0 0]) (t := 30) HX.out ?hr ?_; (case hd | hg => rfl); (case hr => go_simp; try rfl); intro g8 W8 hx; replace HX := yC.mk hx; clear hx) | ((with_reducible refine yK (N := 9) rfl ?_); refine yQ (w := w) ?hg (N := 9) ?hd (cs := #[.int .i64 0]) (t := 34) HX.out ?hr ?_; (case hd | hg => rfl); (case hr => go_simp; try rfl); intro g9 W9 hx; replace HX := yC.mk hx; clear hx))
 try simp only [Act.put, List.setIfInBounds_toArray, List.set_cons_zero, List.set_cons_succ]
 have b0 := HX.out.cell 3 0 rfl rfl; have b1 := HX.out.cell 3 1 rfl rfl; have b2 := HX.out.cell 3 2 rfl rfl; have b3 := HX.out.cell 3 3 rfl rfl; have b4 := HX.out.cell 3 4 rfl rfl
 have v0 := HX.out.cell 2 0 rfl rfl; have v1 := HX.out.cell 2 1 rfl rfl; have v2 := HX.out.cell 2 2 rfl rfl
 rcases R with _ | l2
 ·go_wp2_with (first | (go_at_call 54; (with_reducible refine (HP.out _ HX.out.below).mono ?_); rintro e WX ⟨hb, rfl⟩; have hx := HX.out.call hb; clear HX hb b0 b1 b2 b3 b4 v0 v1 v2; have HX := yC.mk hx; clear hx))
  refine leaves_cons (f := 53) (args := #[.pointer (some ⟨g8, 0, none⟩), .pointer (some ⟨g9, 0, none⟩)]) (by simp) (by simp [go_sem]) ?_
  refine (catch_panicking w WX g8 g9 0 0 0 none _ [] HX.out).mono ?_
  rintro e u' w'' ⟨rfl, rfl, g, hx⟩
  have y0 : w''.cell? ⟨g8, 0, none⟩ = some (.slice none 0 0) := hx.cell 2 0 rfl rfl
  have y1 : w''.cell? ⟨g9, 0, none⟩ = some (.int .i64 160) := hx.cell 1 0 rfl rfl
  have HY := yC.mk hx
  clear hx HX
  simp [Leaves, settle, results, Tryz.results32, go_sem, y0, y1, failE]
  exact ⟨HY.out.below, rfl⟩
 ·go_wp2_with (first | (go_at_call 54; (with_reducible refine (HP.out _ HX.out.below).mono ?_); rintro e WX ⟨hb, A2, c2, rfl, hr⟩; have HQ := yC.mk (hr.lower HX.out.below.size); have hx := HX.out.call hb; clear HX hb hr b0 b1 b2 b3 b4 v0 v1 v2; have HX := yC.mk hx; clear hx; have p0 := HX.out.cell 1 0 rfl rfl; have y0 := HX.out.frz 1 0 rfl; have HY := HX.out.set (L1 := [_]) 0 (.slice A2 l2.length c2); have r0 := HY.cell 0 0 rfl rfl; have r1 := HY.frz 0 0 rfl))
  have HY2 := HY.set (L1 := []) 0 (.int .i64 0)
  have y0 := HY2.cell 1 0 rfl rfl
  have y1 := HY2.cell 0 0 rfl rfl
  refine leaves_cons (f := 53) (args := #[.pointer (some ⟨g8, 0, none⟩), .pointer (some ⟨g9, 0, none⟩)]) (by simp) (by simp [go_sem]) ?_
  refine (catch_idle ⟨g8, 0, none⟩ ⟨g9, 0, none⟩ _).mono ?_
  rintro e u' w'' ⟨rfl, rfl, rfl⟩
  have HY3 := yC.mk HY2
  have HX3 := yC.mk HX.out
  clear HY2 HY HX hmf hfl
  simp [Leaves, settle, results, Tryz.results32, go_sem, y0, y1]
  exact ⟨HY3.out.below, A2, c2, rfl, (HQ.out.set (HX3.out.at 1 rfl) (by decide) _ _).set ((HX3.out.set (L1 := [_]) 0 (.slice A2 l2.length c2)).at 0 rfl) (by decide) _ _⟩
end
section
open Go.RowKit
theorem two3 {x : Int} (h : x > 0) (h2 : 0 ≤ x ∧ x < 3) : ∃ (J : Nat) (KD : Int), IntKind.i64.wrap (x - 1) = (J : Int) ∧ J < 2 ∧ (#[.int .i64 2, .int .i64 3] : Array Value)[J]? = some (.int .i64 KD) ∧ (KD = 2 ∨ KD = 3) := by
 have : x = 1 ∨ x = 2 := by omega
 rcases this with rfl | rfl
 ·exact ⟨0, 2, rfl, by decide, rfl, .inl rfl⟩
 ·exact ⟨1, 3, rfl, by decide, rfl, .inr rfl⟩
theorem any_walk (Q : S29 → Prop) (ad qa : Addr) (B : Option Addr) (n0 c0 nb cb : Nat) (n p p1 K T AT t0 SC : Int) (cn ck ct cj : Bool) (w : World) (hp : IntKind.i64.wrap (p + 1) = p1) (hn0 : n0 ≠ 0) (hAT : Int.tmod T n0 = AT) (h0 : 0 ≤ AT) (h1 : AT < n0)
  (CN : yC (decide (n > 1) = cn)) (CK : yC ((Int.tmod K 2 == 1) = ck)) (CT : yC ((t0 == 2) = ct)) (CJ : yC (decide (Int.tmod (Int.tdiv K 2) 3 > 0) = cj)) (HJ : yC (0 ≤ Int.tmod (Int.tdiv K 2) 3 ∧ Int.tmod (Int.tdiv K 2) 3 < 3)) (hd2 : IntKind.i64.wrap (Int.tdiv K 2) = Int.tdiv K 2) (hd6 : IntKind.i64.wrap (Int.tdiv K 6) = Int.tdiv K 6) (hS : Int.tmod (Int.tdiv K 6) 7 = SC)
  (hQ1 : Q ⟨1, AT, 0, ⟨#[]⟩, []⟩) (hQ2 : t0 = 2 → Q ⟨2, AT, SC, ⟨#[]⟩, []⟩ ∧ Q ⟨3, AT, SC, ⟨#[]⟩, []⟩)
  (HCo : (cn && ck) = true → ∀ w', Below w.heap.size w w' → Calls Tryz.prog 52 #[.slice (some ad) n0 c0, .slice B nb cb, .agg #[.int .i64 n, .int .i64 p]] w' fun e w'' => (∃ v, e = .returned v ∧ lnP Q v w'.heap.size w'' (fun _ => True)) ∧ Below w'.heap.size w' w'')
  (HK : yC (∀ w', Below w.heap.size w w' → Calls Tryz.prog 36 #[.slice B nb cb, .int .i64 p] w' fun e w'' => e = .returned (.int .i64 K) ∧ Below w'.heap.size w' w''))
  (HT : yC (∀ w', Below w.heap.size w w' → Calls Tryz.prog 36 #[.slice B nb cb, .int .i64 p1] w' fun e w'' => e = .returned (.int .i64 T) ∧ Below w'.heap.size w' w''))
  (hq : ad.add (AT.toNat * 7) = qa) (Q0 : yC (w.cell? qa = some (.int .i64 t0))) :
  Calls Tryz.prog 31 #[.slice (some ad) n0 c0, .slice B nb cb, .agg #[.int .i64 n, .int .i64 p]] w fun e w' => (∃ v, e = .returned v ∧ lnP Q v w.heap.size w' (fun _ => True)) ∧ Below w.heap.size w w' := by
 have hu := Tryz.underlying72
 have hu2 := Tryz.underlying29
 have hu3 := Tryz.underlying49
 have hu4 := Tryz.underlying57
 have HX := yC.mk (Bxs.start w)
 go_enter Tryz.func31, Tryz.ntmps31
 go_upto_region 0 with (fail)
 refine Reg.det [(some 5, Reg.Dv.box 5 72 (fun _ => #[.int .i64 n, .int .i64 p]) [] true), (some 6, Reg.Dv.box 6 29 (fun _ => #[.int .i64 0, .int .i64 0, .int .i64 0, .string (⟨#[]⟩ : ByteArray), .slice none 0 0]) [] true)] [] 63 rfl (by kernel_rfl) (by kernel_rfl) ?s1 ?_
 case s1 =>
  intro iq oq pq hiq hoq hpq ρ ev W S hE hO ec ef hB hft hΦ
  have e2 : ev (.tmp 2) = .agg #[.int .i64 n, .int .i64 p] := hO 2 rfl
  simp only [Reg.SV, val_ln] at hE
  obtain ⟨e5, e6, _⟩ := hE
  rcases Reg.lt2 hiq with rfl | rfl
  all_goals (cases hoq; cases hpq)
  rotate_left 1
  ·refine Reg.D.box hB ?_
   go_simp
   try rfl
  rotate_right 1
  ·refine Reg.D.box hB ?_
   go_simp
   try rfl
 intro ρ W0 S hB hft hap hΦ
 simp only [Reg.SV, val_ln, Reg.SF, Nat.reduceAdd]
 obtain ⟨g5, e5, s5, hg5, _, b5⟩ := hΦ 0 _ rfl rfl
 replace e5 : ρ 5 = .pointer (some ⟨g5, 0, none⟩) := e5
 obtain ⟨g6, e6, s6, hg6, _, b6⟩ := hΦ 1 _ rfl rfl
 replace e6 : ρ 6 = .pointer (some ⟨g6, 0, none⟩) := e6
 try simp only [e5, e6]
 replace b5 : W0.heap[g5]? = some (.cells #[.int .i64 n, .int .i64 p] 72 (0, 0)) := b5
 replace b6 : W0.heap[g6]? = some (.cells #[.int .i64 0, .int .i64 0, .int .i64 0, .string (⟨#[]⟩ : ByteArray), .slice none 0 0] 29 (0, 0)) := b6
 have HX := yC.mk (HX.out.join ((Bxs.one hB hg5 b5).more hg6 b6 (by intro p hp; simp only [List.mem_cons, List.mem_singleton, List.not_mem_nil, or_false] at hp; rcases hp with rfl <;> (intro e; dsimp only at e; subst e; first | exact absurd (hap _ _ _ s5 s6) (by decide)))))
 clear hΦ hft hap 
 go_upto_region 1 with (fail)
 try simp only [Reg.SF]
 refine Reg.det [Reg.k 10 (.slice B nb cb), Reg.k 11 (.pointer (some ⟨g5, 1, none⟩)), Reg.k 12 (.int .i64 p), Reg.k 13 (.int .i64 K), Reg.k 14 (.slice B nb cb), Reg.k 15 (.pointer (some ⟨g5, 1, none⟩)), Reg.k 16 (.int .i64 p), Reg.k 17 (.int .i64 p1), Reg.k 18 (.int .i64 T), Reg.k 7 (.int .i64 K), Reg.k 8 (.int .i64 T)] [] 63 rfl (by kernel_rfl) (by kernel_rfl) ?s2 ?_
 case s2 =>
  intro iq oq pq hiq hoq hpq ρ ev W S hE hO ec ef hB hft hΦ
  have e1 : ev (.tmp 1) = .slice B nb cb := hO 1 rfl
  have e5 : ev (.tmp 5) = .pointer (some ⟨g5, 0, none⟩) := hO 5 rfl
  have mg5_1 := HX.pc hB 1 1 (.int .i64 p) rfl rfl
  simp only [Reg.SV, val_ln] at hE
  obtain ⟨e10, e11, e12, e13, e14, e15, e16, e17, e18, e7, e8, _⟩ := hE
  rcases Reg.lt11 hiq with rfl | rfl | rfl | rfl | rfl | rfl | rfl | rfl | rfl | rfl | rfl
  all_goals (cases hoq; cases hpq)
  rotate_left 8
  ·refine Reg.D.cc (g := 36) (args := #[.slice B nb cb, .int .i64 p1]) hB (by go_simp; try rfl) ?_
   exact HT.out W (yD HX.out.below hB)
  rotate_right 8
  rotate_left 3
  ·refine Reg.D.cc (g := 36) (args := #[.slice B nb cb, .int .i64 p]) hB (by go_simp; try rfl) ?_
   exact HK.out W (yD HX.out.below hB)
  rotate_right 3
  all_goals try exact Reg.D.mv hB
  all_goals (refine Reg.D.cv hB ?_; go_simp; try (first | done | rfl | (exact hp) | (simp; done)))
 intro ρ W1 S hB hft hap hΦ
 simp only [Reg.SV, val_ln, Reg.SF, Nat.reduceAdd]
 have HX := HX.cl hB
 clear hΦ hft hap 
 go_upto_region 2 with (fail)
 go_cut [26] (fun v26 wd => v26 = .bool (cn && ck) ∧ yC (Bxs w wd [(g6, 29, #[.int .i64 0, .int .i64 0, .int .i64 0, .string (⟨#[]⟩ : ByteArray), .slice none 0 0]), (g5, 72, #[.int .i64 n, .int .i64 p])]))
 case first =>
  cases cn with
  | true =>
   go_upto_region 2 with (fail)
   try simp only [Reg.SF]
   refine Reg.det [Reg.k 19 (.pointer (some ⟨g5, 0, none⟩)), Reg.k 20 (.int .i64 n), Reg.k 21 (.bool true), Reg.k 22 (.bool true), Reg.k 23 (.int .i64 K), Reg.k 24 (.int .i64 (Int.tmod K 2)), Reg.k 25 (.bool ck), Reg.k 26 (.bool ck)] [] 63 rfl (by kernel_rfl) (by kernel_rfl) ?s3 ?_
   case s3 =>
    intro iq oq pq hiq hoq hpq ρ ev W S hE hO ec ef hB hft hΦ
    have e5 : ev (.tmp 5) = .pointer (some ⟨g5, 0, none⟩) := hO 5 rfl
    have e7 : ev (.tmp 7) = .int .i64 K := hO 7 rfl
    have mg5_0 := HX.pc hB 1 0 (.int .i64 n) rfl rfl
    simp only [Reg.SV, val_ln] at hE
    obtain ⟨e19, e20, e21, e22, e23, e24, e25, e26, _⟩ := hE
    rcases Reg.lt8 hiq with rfl | rfl | rfl | rfl | rfl | rfl | rfl | rfl
    all_goals (cases hoq; cases hpq)
    all_goals try exact Reg.D.mv hB
    all_goals (refine Reg.D.cv hB ?_; go_simp; try (first | done | rfl | (have := CN.out; simp at this; omega) | (exact CK.out) | (simp [CK.out]; done) | (simp; omega)))
   intro ρ W2 S hB hft hap hΦ
   simp only [Reg.SV, val_ln, Reg.SF, Nat.reduceAdd]
   have HX := HX.cl hB
   clear hΦ hft hap 
   go_wp2_with fail
   go_meet
   case rel => exact ⟨by first | rfl | simp, HX⟩
  | false =>
   go_upto_region 2 with (fail)
   try simp only [Reg.SF]
   refine Reg.det [Reg.k 19 (.pointer (some ⟨g5, 0, none⟩)), Reg.k 20 (.int .i64 n), Reg.k 21 (.bool false), Reg.k 22 (.bool false), Reg.u 23, Reg.u 24, Reg.u 25, Reg.k 26 (.bool false)] [] 63 rfl (by kernel_rfl) (by kernel_rfl) ?s4 ?_
   case s4 =>
    intro iq oq pq hiq hoq hpq ρ ev W S hE hO ec ef hB hft hΦ
    have e5 : ev (.tmp 5) = .pointer (some ⟨g5, 0, none⟩) := hO 5 rfl
    have e7 : ev (.tmp 7) = .int .i64 K := hO 7 rfl
    have mg5_0 := HX.pc hB 1 0 (.int .i64 n) rfl rfl
    simp only [Reg.SV, val_ln] at hE
    obtain ⟨e19, e20, e21, e22, e23, e24, e25, e26, _⟩ := hE
    rcases Reg.lt8 hiq with rfl | rfl | rfl | rfl | rfl | rfl | rfl | rfl
    all_goals (cases hoq; cases hpq)
    all_goals (first | exact Reg.D.sk hB | skip)
    all_goals try exact Reg.D.mv hB
    all_goals (refine Reg.D.cv hB ?_; go_simp; try (first | done | rfl | (have := CN.out; simp at this; omega) | (exact CK.out) | (simp [CK.out]; done) | (simp; omega)))
   intro ρ W2 S hB hft hap hΦ
   simp only [Reg.SV, val_ln, Reg.SF, Nat.reduceAdd]
   have HX := HX.cl hB
   clear hΦ hft hap 
   go_wp2_with fail
   go_meet
   case rel => exact ⟨by first | rfl | simp, HX⟩
 clear HX 
 obtain ⟨hv26, HX⟩ := hcut
 generalize wc = W2c at *
 subst hv26
 obtain ⟨cb2, hcb⟩ : ∃ b, (cn && ck) = b := ⟨_, rfl⟩
 rw [hcb]
 have CB := yC.mk hcb
 clear hcb
 have hw2 := HX.out.below.size
 have g6lt := blk_lt (HX.out.at 0 rfl)
 cases cb2 with
 | true =>
  have HC := yC.mk (HCo CB.out)
  go_upto_region 3 with (fail)
  try simp only [Reg.SF]
  refine Reg.det [Reg.k 27 (.slice (some ad) n0 c0), Reg.k 28 (.slice B nb cb), Reg.k 29 (.agg #[.int .i64 n, .int .i64 p]), (some 30, lnDv 30 Q)] [] 63 rfl (by kernel_rfl) (by kernel_rfl) ?s5 ?_
  case s5 =>
   intro iq oq pq hiq hoq hpq ρ ev W S hE hO ec ef hB hft hΦ
   have e0 : ev (.tmp 0) = .slice (some ad) n0 c0 := hO 0 rfl
   have e1 : ev (.tmp 1) = .slice B nb cb := hO 1 rfl
   have e5 : ev (.tmp 5) = .pointer (some ⟨g5, 0, none⟩) := hO 5 rfl
   have mg5_0 := HX.pc hB 1 0 (.int .i64 n) rfl rfl
   have mg5_1 := HX.pc hB 1 1 (.int .i64 p) rfl rfl
   simp only [Reg.SV, val_ln] at hE
   obtain ⟨e27, e28, e29, e30, _⟩ := hE
   rcases Reg.lt4 hiq with rfl | rfl | rfl | rfl
   all_goals (cases hoq; cases hpq)
   rotate_left 3
   ·refine Reg.D.call (g := 52) (args := #[.slice (some ad) n0 c0, .slice B nb cb, .agg #[.int .i64 n, .int .i64 p]]) (by go_simp; try rfl) ?_
    exact ln_step hB (HC.out W (yD HX.out.below hB))
   rotate_right 3
   all_goals try exact Reg.D.mv hB
   all_goals (refine Reg.D.cv hB ?_; go_simp; try (first | done | rfl | (simp; done)))
  intro ρ W3 S hB hft hap hΦ
  simp only [Reg.SV, val_ln, Reg.SF, Nat.reduceAdd]
  obtain ⟨x, vX, e30, PX, rX⟩ := hΦ 3 _ rfl rfl
  obtain ⟨AX, cX, evX⟩ := Kd.R_slice rX
  subst evX
  replace e30 : ρ 30 = .agg #[.int .i64 x.f0, .int .i64 x.f1, .int .i64 x.f2, .string x.f3, .slice AX x.f4.length cX] := e30
  have RX := yC.mk (Kd.xE (ok' := fun k => W2c.heap.size ≤ k) (Kd.R_bound rX) (fun k hk => hk.2.1))
  clear rX
  try simp only [e30]
  have HX := HX.cl hB
  clear hΦ hft hap 
  refine bx_putB (w := w) rfl 29 (.tmp 6) (.tmp 30) rfl rfl (L1 := []) (cells := #[.int .i64 x.f0, .int .i64 x.f1, .int .i64 x.f2, .string x.f3, .slice AX x.f4.length cX]) HX.out rfl rfl (by kernel_rfl) rfl rfl ?_
  intro W3s hx hput
  have HX := yC.mk hx
  replace RX := yC.mk (Kd.R_step RX.out (fun k hk _ => hput k (by have := hk; omega)))
  clear hx hput
  go_wp2_with fail
  refine bodyPost_ret (results_cell_row rfl _ _ g6 29 #[.int .i64 x.f0, .int .i64 x.f1, .int .i64 x.f2, .string x.f3, .slice AX x.f4.length cX] (0, 0) _ rfl (HX.out.at 0 rfl) hu2 rfl (by kernel_rfl)) rfl ?_
  exact ⟨⟨_, rfl, x, _, rfl, PX, Kd.xJ (Kd.xE RX.out (fun _ _ => trivial)) hw2⟩, HX.out.below⟩
 | false =>
  go_upto_region 4 with (fail)
  try simp only [Reg.SF]
  refine Reg.det [Reg.k 31 (.int .i64 T), Reg.k 32 (.slice (some ad) n0 c0), Reg.k 33 (.int .i64 n0), Reg.k 34 (.int .i64 AT), Reg.k 35 (.agg #[.int .i64 1, .int .i64 AT, .int .i64 0, .string (⟨#[]⟩ : ByteArray), .slice none 0 0]), (some 9, Reg.Dv.box 9 29 (fun _ => #[.int .i64 0, .int .i64 0, .int .i64 0, .string (⟨#[]⟩ : ByteArray), .slice none 0 0]) [] true), (none, Reg.Dv.box 9 29 (fun _ => #[.int .i64 1, .int .i64 AT, .int .i64 0, .string (⟨#[]⟩ : ByteArray), .slice none 0 0]) [] false)] [(5, 6)] 63 rfl (by kernel_rfl) (by kernel_rfl) ?s6 ?_
  case s6 =>
   intro iq oq pq hiq hoq hpq ρ ev W S hE hO ec ef hB hft hΦ
   have e0 : ev (.tmp 0) = .slice (some ad) n0 c0 := hO 0 rfl
   have e8 : ev (.tmp 8) = .int .i64 T := hO 8 rfl
   simp only [Reg.SV, val_ln] at hE
   obtain ⟨e31, e32, e33, e34, e35, e9, _⟩ := hE
   rcases Reg.lt7 hiq with rfl | rfl | rfl | rfl | rfl | rfl | rfl
   all_goals (cases hoq; cases hpq)
   rotate_left 6
   ·exact Reg.D.fill 5 29 (.tmp 9) (.tmp 35) hB e9 (by first | assumption | rfl | (simp [*]; done)) (hΦ 5 _ rfl rfl rfl) info29a (by first | rfl | (simp only [Reg.SV]; rfl))
   rotate_right 6
   rotate_left 5
   ·refine Reg.D.box hB ?_
    go_simp
    try rfl
   rotate_right 5
   all_goals try exact Reg.D.mv hB
   all_goals (refine Reg.D.cv hB ?_; go_simp; try (first | done | rfl | (simp [hn0, hAT]; done)))
  intro ρ W4 S hB hft hap hΦ
  simp only [Reg.SV, val_ln, Reg.SF, Nat.reduceAdd]
  obtain ⟨g9, e9, s9, hg9, _, b9⟩ := hΦ 6 _ rfl rfl
  replace e9 : ρ 9 = .pointer (some ⟨g9, 0, none⟩) := e9
  try simp only [e9]
  replace b9 : W4.heap[g9]? = some (.cells #[.int .i64 1, .int .i64 AT, .int .i64 0, .string (⟨#[]⟩ : ByteArray), .slice none 0 0] 29 (0, 0)) := b9
  have HX := yC.mk (HX.out.join (Bxs.one hB hg9 b9))
  clear hΦ hft hap 
  have ma := yB HX.out.below Q0.out
  go_upto_region 5 with (fail)
  go_cut [49] (fun v49 wd => v49 = .bool (ct && cj) ∧ yC (Bxs w wd [(g9, 29, #[.int .i64 1, .int .i64 AT, .int .i64 0, .string (⟨#[]⟩ : ByteArray), .slice none 0 0]), (g6, 29, #[.int .i64 0, .int .i64 0, .int .i64 0, .string (⟨#[]⟩ : ByteArray), .slice none 0 0]), (g5, 72, #[.int .i64 n, .int .i64 p])]))
  case first =>
   cases ct with
   | true =>
    go_upto_region 5 with (fail)
    try simp only [Reg.SF]
    refine Reg.det [Reg.k 36 (.slice (some ad) n0 c0), Reg.k 37 (.pointer (some ⟨g9, 1, none⟩)), Reg.k 38 (.int .i64 AT), Reg.k 39 (.pointer (some qa)), Reg.k 40 (.pointer (some qa)), Reg.k 41 (.pointer (some qa)), Reg.k 42 (.int .i64 t0), Reg.k 43 (.bool true), Reg.k 44 (.bool true), Reg.k 45 (.int .i64 K), Reg.k 46 (.int .i64 (Int.tdiv K 2)), Reg.k 47 (.int .i64 (Int.tmod (Int.tdiv K 2) 3)), Reg.k 48 (.bool cj), Reg.k 49 (.bool cj)] [] 63 rfl (by kernel_rfl) (by kernel_rfl) ?s7 ?_
    case s7 =>
     intro iq oq pq hiq hoq hpq ρ ev W S hE hO ec ef hB hft hΦ
     have e0 : ev (.tmp 0) = .slice (some ad) n0 c0 := hO 0 rfl
     have e7 : ev (.tmp 7) = .int .i64 K := hO 7 rfl
     have e9 : ev (.tmp 9) = .pointer (some ⟨g9, 0, none⟩) := hO 9 rfl
     have mg9_1 := HX.pc hB 0 1 (.int .i64 AT) rfl rfl
     have ma' := yB hB ma
     simp only [Reg.SV, val_ln] at hE
     obtain ⟨e36, e37, e38, e39, e40, e41, e42, e43, e44, e45, e46, e47, e48, e49, _⟩ := hE
     rcases Reg.lt14 hiq with rfl | rfl | rfl | rfl | rfl | rfl | rfl | rfl | rfl | rfl | rfl | rfl | rfl | rfl
     all_goals (cases hoq; cases hpq)
     all_goals try exact Reg.D.mv hB
     all_goals (refine Reg.D.cv hB ?_; go_simp; try (first | done | rfl | (rw [← hq]; rfl) | (simp [h0, h1, hq]; done) | (exact hd2) | (have := CT.out; simp at this; omega) | (exact CJ.out) | (simp [CJ.out]; done)))
    intro ρ W5 S hB hft hap hΦ
    simp only [Reg.SV, val_ln, Reg.SF, Nat.reduceAdd]
    have HX := HX.cl hB
    clear hΦ hft hap 
    go_wp2_with fail
    go_meet
    case rel => exact ⟨by first | rfl | simp, HX⟩
   | false =>
    go_upto_region 5 with (fail)
    try simp only [Reg.SF]
    refine Reg.det [Reg.k 36 (.slice (some ad) n0 c0), Reg.k 37 (.pointer (some ⟨g9, 1, none⟩)), Reg.k 38 (.int .i64 AT), Reg.k 39 (.pointer (some qa)), Reg.k 40 (.pointer (some qa)), Reg.k 41 (.pointer (some qa)), Reg.k 42 (.int .i64 t0), Reg.k 43 (.bool false), Reg.k 44 (.bool false), Reg.u 45, Reg.u 46, Reg.u 47, Reg.u 48, Reg.k 49 (.bool false)] [] 63 rfl (by kernel_rfl) (by kernel_rfl) ?s8 ?_
    case s8 =>
     intro iq oq pq hiq hoq hpq ρ ev W S hE hO ec ef hB hft hΦ
     have e0 : ev (.tmp 0) = .slice (some ad) n0 c0 := hO 0 rfl
     have e7 : ev (.tmp 7) = .int .i64 K := hO 7 rfl
     have e9 : ev (.tmp 9) = .pointer (some ⟨g9, 0, none⟩) := hO 9 rfl
     have mg9_1 := HX.pc hB 0 1 (.int .i64 AT) rfl rfl
     have ma' := yB hB ma
     simp only [Reg.SV, val_ln] at hE
     obtain ⟨e36, e37, e38, e39, e40, e41, e42, e43, e44, e45, e46, e47, e48, e49, _⟩ := hE
     rcases Reg.lt14 hiq with rfl | rfl | rfl | rfl | rfl | rfl | rfl | rfl | rfl | rfl | rfl | rfl | rfl | rfl
     all_goals (cases hoq; cases hpq)
     all_goals (first | exact Reg.D.sk hB | skip)
     all_goals try exact Reg.D.mv hB
     all_goals (refine Reg.D.cv hB ?_; go_simp; try (first | done | rfl | (rw [← hq]; rfl) | (simp [h0, h1, hq]; done) | (exact hd2) | (have := CT.out; simp at this; omega) | (exact CJ.out) | (simp [CJ.out]; done)))
    intro ρ W5 S hB hft hap hΦ
    simp only [Reg.SV, val_ln, Reg.SF, Nat.reduceAdd]
    have HX := HX.cl hB
    clear hΦ hft hap 
    go_wp2_with fail
    go_meet
    case rel => exact ⟨by first | rfl | simp, HX⟩
  clear HX ma
  obtain ⟨hv49, HX⟩ := hcut
  generalize wc = W5c at *
  subst hv49
  obtain ⟨cc, hcc⟩ : ∃ b, (ct && cj) = b := ⟨_, rfl⟩
  rw [hcc]
  have CC := yC.mk hcc
  clear hcc
  go_upto_if 49 with (fail)
  go_cut [] (fun wd => ∃ kd sc : Int, yC (Bxs w wd [(g9, 29, #[.int .i64 kd, .int .i64 AT, .int .i64 sc, .string (⟨#[]⟩ : ByteArray), .slice none 0 0]), (g6, 29, #[.int .i64 0, .int .i64 0, .int .i64 0, .string (⟨#[]⟩ : ByteArray), .slice none 0 0]), (g5, 72, #[.int .i64 n, .int .i64 p])]) ∧ yC (Q ⟨kd, AT, sc, ⟨#[]⟩, []⟩))
  case first =>
   cases cc with
   | true =>
    obtain ⟨J, KD, hJ, hJ2, hKD, hKQ⟩ := two3 (by have := CC.out; rw [Bool.and_eq_true] at this; rw [← CJ.out] at this; exact of_decide_eq_true this.2) HJ.out
    have HQ : Q ⟨KD, AT, SC, ⟨#[]⟩, []⟩ := by
     have := hQ2 (by have := CC.out; rw [Bool.and_eq_true] at this; rw [← CT.out] at this; have := this.1; simpa using this)
     rcases hKQ with rfl | rfl
     ·exact this.1
     ·exact this.2
    go_upto_region 6 with (fail)
    try simp only [Reg.SF]
    refine Reg.det [(some 50, Reg.Dv.blk 50 3 2 #[.int .i64 2, .int .i64 3]), Reg.k 51 (.int .i64 K), Reg.k 52 (.int .i64 (Int.tdiv K 2)), Reg.k 53 (.int .i64 (Int.tmod (Int.tdiv K 2) 3)), Reg.k 54 (.int .i64 (J : Int)), (some 55, Reg.Dv.u [50] (fun l => elemPtr (l.headD undef) J)), Reg.k 56 (.int .i64 KD), Reg.k 57 (.pointer (some ⟨g9, 0, none⟩))] [] 63 rfl (by kernel_rfl) (by kernel_rfl) ?s9 ?_
    case s9 =>
     intro iq oq pq hiq hoq hpq ρ ev W S hE hO ec ef hB hft hΦ
     have e7 : ev (.tmp 7) = .int .i64 K := hO 7 rfl
     have e9 : ev (.tmp 9) = .pointer (some ⟨g9, 0, none⟩) := hO 9 rfl
     simp only [Reg.SV, val_ln] at hE
     obtain ⟨e50, e51, e52, e53, e54, e55, e56, e57, _⟩ := hE
     rcases Reg.lt8 hiq with rfl | rfl | rfl | rfl | rfl | rfl | rfl | rfl
     all_goals (cases hoq; cases hpq)
     rotate_left 6
     ·obtain ⟨gb, h50, _, _, _, hb50⟩ := hΦ 0 _ rfl rfl rfl
      replace h50 : ρ 50 = .slice (some ⟨gb, 0, none⟩) 2 2 := h50
      have hc50 : W.cell? ⟨gb, J, none⟩ = some (.int .i64 KD) := (yO hb50 J).trans hKD
      rw [h50] at e55
      change ev (.tmp 55) = .pointer (some ⟨gb, 0 + J, none⟩) at e55
      refine Reg.D.cv hB ?_
      go_simp
     rotate_right 6
     rotate_left 5
     ·obtain ⟨_, h50, _⟩ := hΦ 0 _ rfl rfl rfl
      replace h50 : ρ 50 = _ := h50
      refine Reg.D.uv hB ?_
      go_simp
      try (first | done | rfl | (exact hd2) | (exact hd6) | (exact hS) | (rw [h50]; rfl) | (rw [if_pos (show (J : Int) < 2 by omega)]; simp [elemPtr]; done) | (simp [h50, elemPtr]; done) | (exact hJ) | (simp [hJ]; done) | (simp [hS]; done))
     rotate_right 5
     ·refine Reg.D.blk hB ?_
      go_simp
      try (first | rfl | exact ⟨rfl, rfl⟩)
     all_goals try exact Reg.D.mv hB
     all_goals (refine Reg.D.cv hB ?_; go_simp; try (first | done | rfl | (exact hd2) | (exact hd6) | (exact hS) | (rw [h50]; rfl) | (rw [if_pos (show (J : Int) < 2 by omega)]; simp [elemPtr]; done) | (simp [h50, elemPtr]; done) | (exact hJ) | (simp [hJ]; done) | (simp [hS]; done)))
    intro ρ W6 S hB hft hap hΦ
    simp only [Reg.SV, val_ln, Reg.SF, Nat.reduceAdd]
    obtain ⟨g50, e50, s50, hg50, _, b50⟩ := hΦ 0 _ rfl rfl
    replace e50 : ρ 50 = .slice (some ⟨g50, 0, none⟩) 2 2 := e50
    try simp only [e50]
    replace b50 : W6.heap[g50]? = some (.cells #[.int .i64 2, .int .i64 3] 3 (0, 0)) := b50
    have HX := yC.mk (HX.out.join (Bxs.one hB hg50 b50))
    clear hΦ hft hap 
    have fz0_ := HX.out.frz 1 0 rfl
    have cl0_ := HX.out.cell 1 0 rfl rfl
    go_upto_region 7 with (fail)
    try simp only [Reg.SF]
    have HY0 := HX.out.set (L1 := [_]) 0 (.int .i64 KD)
    clear HX  fz0_ cl0_ 
    generalize World.setCell _ ⟨g9, 0, none⟩ (.int .i64 KD) = W6s at *
    have HX := yC.mk HY0
    clear HY0
    go_upto_region 7 with (fail)
    try simp only [Reg.SF]
    refine Reg.det [Reg.k 58 (.int .i64 K), Reg.k 59 (.int .i64 (Int.tdiv K 6)), Reg.k 60 (.int .i64 SC), Reg.k 61 (.pointer (some ⟨g9, 2, none⟩))] [] 63 rfl (by kernel_rfl) (by kernel_rfl) ?s10 ?_
    case s10 =>
     intro iq oq pq hiq hoq hpq ρ ev W S hE hO ec ef hB hft hΦ
     have e7 : ev (.tmp 7) = .int .i64 K := hO 7 rfl
     have e9 : ev (.tmp 9) = .pointer (some ⟨g9, 0, none⟩) := hO 9 rfl
     simp only [Reg.SV, val_ln] at hE
     obtain ⟨e58, e59, e60, e61, _⟩ := hE
     rcases Reg.lt4 hiq with rfl | rfl | rfl | rfl
     all_goals (cases hoq; cases hpq)
     all_goals try exact Reg.D.mv hB
     all_goals (refine Reg.D.cv hB ?_; go_simp; try (first | done | rfl | (exact hd2) | (exact hd6) | (exact hS) | (rw [h50]; rfl) | (rw [if_pos (show (J : Int) < 2 by omega)]; simp [elemPtr]; done) | (simp [h50, elemPtr]; done) | (exact hJ) | (simp [hJ]; done) | (simp [hS]; done)))
    intro ρ W7 S hB hft hap hΦ
    simp only [Reg.SV, val_ln, Reg.SF, Nat.reduceAdd]
    have HX := HX.cl hB
    clear hΦ hft hap 
    have fz2_ := HX.out.frz 1 2 rfl
    have cl2_ := HX.out.cell 1 2 rfl rfl
    go_wp2_with fail
    go_meet
    have HY0 := HX.out.set (L1 := [_]) 2 (.int .i64 SC)
    case rel => exact ⟨KD, SC, ⟨Bxs.tail HY0⟩, ⟨HQ⟩⟩
   | false =>
    go_wp2_with fail
    go_meet
    case rel => exact ⟨1, 0, HX, ⟨hQ1⟩⟩
  clear HX 
  obtain ⟨kd, sc, HX, HQ⟩ := hcut
  generalize wc = W8c at *
  go_upto_region 8 with (fail)
  try simp only [Reg.SF]
  refine Reg.det [Reg.k 62 (.agg #[.int .i64 kd, .int .i64 AT, .int .i64 sc, .string (⟨#[]⟩ : ByteArray), .slice none 0 0])] [] 63 rfl (by kernel_rfl) (by kernel_rfl) ?s11 ?_
  case s11 =>
   intro iq oq pq hiq hoq hpq ρ ev W S hE hO ec ef hB hft hΦ
   have e9 : ev (.tmp 9) = .pointer (some ⟨g9, 0, none⟩) := hO 9 rfl
   have mg9_0 := HX.pc hB 0 0 (.int .i64 kd) rfl rfl
   have mg9_1 := HX.pc hB 0 1 (.int .i64 AT) rfl rfl
   have mg9_2 := HX.pc hB 0 2 (.int .i64 sc) rfl rfl
   have mg9_3 := HX.pc hB 0 3 (.string (⟨#[]⟩ : ByteArray)) rfl rfl
   have mg9_4 := HX.pc hB 0 4 (.slice none 0 0) rfl rfl
   simp only [Reg.SV, val_ln] at hE
   obtain ⟨e62, _⟩ := hE
   obtain rfl : iq = 0 := by have : iq < 1 := hiq; omega
   cases hoq; cases hpq
   all_goals exact Reg.D.cx hB
  intro ρ W8 S hB hft hap hΦ
  simp only [Reg.SV, val_ln, Reg.SF, Nat.reduceAdd]
  have HX := HX.cl hB
  clear hΦ hft hap 
  refine xG (w := w) rfl 29 (.tmp 6) (.tmp 62) rfl rfl (L1 := [_]) (cells := #[.int .i64 kd, .int .i64 AT, .int .i64 sc, .string (⟨#[]⟩ : ByteArray), .slice none 0 0]) HX.out rfl rfl (by kernel_rfl) rfl rfl ?_
  intro Wp hx
  have HX := yC.mk hx
  clear hx
  go_wp2_with fail
  refine bodyPost_ret (results_cell_row rfl _ _ g6 29 #[.int .i64 kd, .int .i64 AT, .int .i64 sc, .string (⟨#[]⟩ : ByteArray), .slice none 0 0] (0, 0) _ rfl (HX.out.at 1 rfl) hu2 rfl (by kernel_rfl)) rfl ?_
  exact ⟨⟨_, rfl, ⟨kd, AT, sc, ⟨#[]⟩, []⟩, _, rfl, HQ.out, R_none⟩, HX.out.below⟩
end
section
open Go.RowKit
theorem Valid_calls (l0 : List S57) (x : S29) (k : Nat) (hd : dep k x) (A0 : Option Addr) (c0 : Nat) (A : Option Addr) (c : Nat) (w : World) (hgl : Gl w) (hr0 : Kd.C k57 w A0 l0.length l0) (hlc : x.f4.length ≤ c) (hC : k29.C w A x.f4.length x.f4) :
  Calls Tryz.prog 27 #[.slice A0 l0.length c0, .agg (lC x A c)] w fun e w' => e = .returned (.bool (ofV k l0 x 3).2) ∧ Below w.heap.size w w' := by
 have hu2 := Tryz.underlying29
 have hu3 := Tryz.underlying76
 have HX := yC.mk (Bxs.start w)
 have HO : yC (∀ (w' : World), Below w.heap.size w w' → Calls Tryz.prog 45 #[.agg #[.slice A0 l0.length c0, .slice none 0 0], .agg (lC x A c), .int .i64 3] w' fun e w'' => e = .returned (tbC (ofV k l0 x 3)) ∧ Below w'.heap.size w' w'') :=
  ⟨fun w' hb => of_all l0 k x hd 3 ⟨by decide, by decide⟩ A0 c0 none 0 0 A c w' (hgl.below hb) (Kd.yI hr0 hb) hlc (Kd.yI hC hb)⟩
 generalize ofV k l0 x 3 = r at *
 obtain ⟨⟨T0, T1, T2⟩, b⟩ := r
 obtain ⟨k, a, s, sep, l4⟩ := x
 unfold lC tbC tyC at *
 dsimp only at HO ⊢
 generalize l4.length = n4 at *
 generalize l0.length = n0 at *
 clear hr0 hC hlc hgl hd
 go_enter Tryz.func27, Tryz.ntmps27
 go_upto_region 2 with (first | ((with_reducible refine yK (N := 3) rfl ?_); refine yQ (w := w) ?hg (N := 3) ?hd (cs := #[.int .i64 k, .int .i64 a, .int .i64 s, .string sep, .slice A n4 c]) (t := 29) HX.out ?hr ?_; (case hd | hg => rfl); (case hr => go_simp; try rfl); intro g3 W3 hx; replace HX := yC.mk hx; clear hx; have b0 := HX.out.cell 0 0 rfl rfl; have b1 := HX.out.cell 0 1 rfl rfl; have b2 := HX.out.cell 0 2 rfl rfl; have b3 := HX.out.cell 0 3 rfl rfl; have b4 := HX.out.cell 0 4 rfl rfl) | (go_at_call 45; (with_reducible refine (HO.out _ HX.out.below).mono ?_); rintro e WW ⟨rfl, hb⟩; have hx := HX.out.call hb; clear HX hb b0 b1 b2 b3 b4; have HX := yC.mk hx; clear hx) | ((with_reducible refine yK (N := 5) rfl ?_); refine yQ (w := w) ?hg (N := 5) ?hd (cs := #[.int .i64 0, .int .i64 0, .bool false]) (t := 49) HX.out ?hr ?_; (case hd | hg => rfl); (case hr => go_simp; try rfl); intro g5 W5 hx; replace HX := yC.mk hx; clear hx; refine xG (w := w) rfl 49 (.tmp 5) (.tmp 12) rfl rfl (L1 := []) (cells := #[.int .i64 T0, .int .i64 T1, .bool T2]) HX.out rfl rfl info49s rfl rfl ?_; intro W8 hx; replace HX := yC.mk hx; clear hx))
 go_wp2_with fail
 go_ret
 exact ⟨rfl, HX.out.below⟩
end
end Go.Proofs.YtmebkjdknhknbaaGreatDoor.H
namespace Go.Proofs
section
open Go.Shelf
def Tryz.lays189_ren : Go.Shelf.Ren := ⟨fun | 189 => 34 | 125 => 57 | 257 => 56 | 128 => 91 | 129 => 92 | 294 => 82 | 295 => 83 | 296 => 84 | 297 => 85 | 298 => 86 | 299 => 87 | 216 => 88 | 300 => 89 | 301 => 90 | 328 => 103 | 329 => 104 | 330 => 105 | 331 => 106 | 332 => 107 | 215 => 108 | 343 => 118 | n => n, fun | 28 => 45 | 3 => 3 | 46 => 110 | 0 => 0 | 51 => 128 | 53 => 130 | 4 => 4 | 183 => 121 | 182 => 120 | 131 => 125 | 5 => 5 | 9 => 9 | 218 => 140 | 222 => 144 | 228 => 156 | 229 => 157 | n => n, fun | n => n⟩
theorem Tryz.lays189 : Go.Proofs.Lays.n189 Tryz.prog Tryz.lays189_ren := {
 mixed := by kernel_rfl
 f125 := Tryz.func57.trans (congrArg some (by kernel_rfl))
 f128 := Tryz.func91.trans (congrArg some (by kernel_rfl))
 f129 := Tryz.func92.trans (congrArg some (by kernel_rfl))
 f189 := Tryz.func34.trans (congrArg some (by kernel_rfl))
 f215 := Tryz.func108.trans (congrArg some (by kernel_rfl))
 f216 := Tryz.func88.trans (congrArg some (by kernel_rfl))
 f257 := Tryz.func56.trans (congrArg some (by kernel_rfl))
 f294 := Tryz.func82.trans (congrArg some (by kernel_rfl))
 f295 := Tryz.func83.trans (congrArg some (by kernel_rfl))
 f296 := Tryz.func84.trans (congrArg some (by kernel_rfl))
 f297 := Tryz.func85.trans (congrArg some (by kernel_rfl))
 f298 := Tryz.func86.trans (congrArg some (by kernel_rfl))
 f299 := Tryz.func87.trans (congrArg some (by kernel_rfl))
 f300 := Tryz.func89.trans (congrArg some (by kernel_rfl))
 f301 := Tryz.func90.trans (congrArg some (by kernel_rfl))
 f328 := Tryz.func103.trans (congrArg some (by kernel_rfl))
 f329 := Tryz.func104.trans (congrArg some (by kernel_rfl))
 f330 := Tryz.func105.trans (congrArg some (by kernel_rfl))
 f331 := Tryz.func106.trans (congrArg some (by kernel_rfl))
 f332 := Tryz.func107.trans (congrArg some (by kernel_rfl))
 f343 := Tryz.func118.trans (congrArg some (by kernel_rfl))
 t0 := Tryz.underlying0
 a0 := Tryz.isAgg0
 z0 := Tryz.sizeOf0
 v0 := Tryz.zeroValue0
 t3 := Tryz.underlying3
 a3 := Tryz.isAgg3
 z3 := Tryz.sizeOf3
 v3 := Tryz.zeroValue3
 t4 := Tryz.underlying4
 a4 := Tryz.isAgg4
 z4 := Tryz.sizeOf4
 v4 := Tryz.zeroValue4
 t5 := Tryz.underlying5
 a5 := Tryz.isAgg5
 z5 := Tryz.sizeOf5
 v5 := Tryz.zeroValue5
 t9 := Tryz.underlying9
 a9 := Tryz.isAgg9
 z9 := Tryz.sizeOf9
 v9 := Tryz.zeroValue9
 t28 := Tryz.underlying45
 a28 := Tryz.isAgg45
 z28 := Tryz.sizeOf45
 v28 := Tryz.zeroValue45
 t46 := Tryz.underlying110
 a46 := Tryz.isAgg110
 z46 := Tryz.sizeOf110
 v46 := Tryz.zeroValue110
 t51 := Tryz.underlying128
 a51 := Tryz.isAgg128
 z51 := Tryz.sizeOf128
 v51 := Tryz.zeroValue128
 t53 := Tryz.underlying130
 a53 := Tryz.isAgg130
 z53 := Tryz.sizeOf130
 v53 := Tryz.zeroValue130
 t131 := Tryz.underlying125
 a131 := Tryz.isAgg125
 z131 := Tryz.sizeOf125
 v131 := Tryz.zeroValue125
 t182 := Tryz.underlying120
 a182 := Tryz.isAgg120
 z182 := Tryz.sizeOf120
 v182 := Tryz.zeroValue120
 t183 := Tryz.underlying121
 a183 := Tryz.isAgg121
 z183 := Tryz.sizeOf121
 v183 := Tryz.zeroValue121
 t218 := Tryz.underlying140
 a218 := Tryz.isAgg140
 z218 := Tryz.sizeOf140
 v218 := Tryz.zeroValue140
 t222 := Tryz.underlying144
 a222 := Tryz.isAgg144
 z222 := Tryz.sizeOf144
 v222 := Tryz.zeroValue144
 t228 := Tryz.underlying156
 a228 := Tryz.isAgg156
 z228 := Tryz.sizeOf156
 v228 := Tryz.zeroValue156
 t229 := Tryz.underlying157
 a229 := Tryz.isAgg157
 z229 := Tryz.sizeOf157
 v229 := Tryz.zeroValue157 }
open Go.Sort Go.RowKit in
theorem Tryz.slices_Sort_int (blk off cap : Nat) (zs : List Int) (w : World) (hH : Holds (Value.int .i64) w blk off zs.toArray) (hblk : blk < w.heap.size) (hsz : zs.length < 4611686018427387904) :
  Calls Tryz.prog 34 #[.slice (some ⟨blk, off, none⟩) zs.length cap] w fun e w' =>
   e = .returned (.tuple #[]) ∧ ∃ n os, w' = grow (putRow (Value.int .i64) (Sort.ahead w n) blk off (zs.mergeSort fun x y => decide (x ≤ y)).toArray) os := Any.slices_Sort_int Tryz.lays189 blk off cap zs w hH hblk hsz
def Tryz.laysNm220_ren : Go.Shelf.Ren := ⟨fun | 20 => 35 | n => n, fun | 22 => 45 | 3 => 3 | 4 => 4 | 0 => 0 | n => n, fun | n => n⟩
theorem Tryz.laysNm220 : Go.Proofs.Lays2.n20 Tryz.prog Tryz.laysNm220_ren := {
 mixed := by kernel_rfl
 f20 := Tryz.func35.trans (congrArg some (by kernel_rfl))
 t0 := Tryz.underlying0
 a0 := Tryz.isAgg0
 z0 := Tryz.sizeOf0
 v0 := Tryz.zeroValue0
 t3 := Tryz.underlying3
 a3 := Tryz.isAgg3
 z3 := Tryz.sizeOf3
 v3 := Tryz.zeroValue3
 t4 := Tryz.underlying4
 a4 := Tryz.isAgg4
 z4 := Tryz.sizeOf4
 v4 := Tryz.zeroValue4
 t22 := Tryz.underlying45
 a22 := Tryz.isAgg45
 z22 := Tryz.sizeOf45
 v22 := Tryz.zeroValue45
 i3 := by kernel_rfl }
open Go.RowKit Go.Lib Go.Sort in
theorem Tryz.slices_Compact_int (blk off cap : Nat) (zs : List Int) (w : World) (hH : Holds (Value.int .i64) w blk off zs.toArray) (hsz : zs.length ≤ 9223372036854775807) (hcap : zs.length ≤ cap) :
  Calls Tryz.prog 35 #[.slice (some ⟨blk, off, none⟩) zs.length cap] w fun e w' => e = .returned (.slice (some ⟨blk, off, none⟩) (Lib.compact zs).length cap) ∧ ∃ q, w' = putRow (Value.int .i64) (Sort.ahead w q) blk off (Lib.compact zs ++ List.replicate (zs.length - (Lib.compact zs).length) 0).toArray := Any.slices_Compact_int Tryz.laysNm220 blk off cap zs w hH hsz hcap
end
end Go.Proofs
namespace Go.Proofs.YtmebkjdknhknbaaGreatDoor.H
section
open Go.RowKit Go.Sort
theorem grownBy_putRow {W : World} {g n : Nat} (d : Array Int) : W.grownBy (putRow (Value.int .i64) (Sort.ahead W n) g 0 d) (some g) := by
 refine ⟨rfl, rfl, rfl, by simp [putRow, mapBlock, Sort.ahead], fun k hk hne => ?_⟩
 have : g ≠ k := fun e => hne (by rw [e])
 simp [putRow, mapBlock, Sort.ahead, Array.getElem?_modify, this]
theorem sort_R (xs : List Int) (v : Value) (base : Nat) (W : World) (h : Kd.R (Kd.int .i64) 3 W base (fun _ => True) v xs) (hn : xs ≠ []) (hz : xs.length ≤ 1000000) :
  Calls Tryz.prog 34 #[v] W fun e w' => e = .returned (.tuple #[]) ∧ Kd.R (Kd.int .i64) 3 w' base (fun _ => True) v (xs.mergeSort fun a b => decide (a ≤ b)) ∧ W.grownBy w' v.ownBlock := by
 have hown := Kd.own_of_R h
 have hp : 0 < xs.length := List.length_pos_iff.2 hn
 rcases hown.2 with ⟨h0, _⟩ | ⟨g, cap, cur, hv, hb, hg, h1, h2, h3, h4⟩
 ·obtain ⟨g, cap, hv, _⟩ := Kd.R_form h hp
  rw [h0] at hv
  cases hv
 ·subst hv
  obtain ⟨g', cap', hv', hbg, hlt, hnc, hcm, hl, hH⟩ := Lib.holds_of_ownsRow (zs := xs) (enc := Value.int .i64) hown (by simp)
  cases hv'
  refine (Tryz.slices_Sort_int g 0 cap xs W hH hlt (by omega)).mono ?_
  rintro e w' ⟨rfl, n, os, rfl⟩
  have hl2 : (xs.mergeSort fun a b => decide (a ≤ b)).length = xs.length := List.length_mergeSort xs
  refine ⟨rfl, ?_, grownBy_sortedI _⟩
  have ho := ownsRow_sortedI (n := n) (os := os) (ts := xs.mergeSort fun a b => decide (a ≤ b)) hl2 hb hg h1 h2 h3
  exact Kd.R_of_own (by rw [hl2]; exact ho) (fun _ _ => trivial)
theorem compact_R (xs : List Int) (v : Value) (base : Nat) (W : World) (h : Kd.R (Kd.int .i64) 3 W base (fun _ => True) v xs) (hz : xs.length ≤ 1000000) (hn : xs ≠ []) :
  Calls Tryz.prog 35 #[v] W fun e w' => ∃ v', e = .returned v' ∧ Kd.R (Kd.int .i64) 3 w' base (fun _ => True) v' (Lib.compact xs) ∧ W.grownBy w' v.ownBlock := by
 have hown := Kd.own_of_R h
 have hp : 0 < xs.length := List.length_pos_iff.2 hn
 obtain ⟨g, cap, hv, hbg, hlt, hnc, hcm, hl, hH⟩ := Lib.holds_of_ownsRow (zs := xs) (enc := Value.int .i64) hown (by
  intro e
  obtain ⟨g, cap, hv, _⟩ := Kd.R_form h hp
  rw [hv] at e; cases e)
 subst hv
 refine (Tryz.slices_Compact_int g 0 cap xs W hH (by omega) hnc).mono ?_
 rintro e w' ⟨rfl, q, rfl⟩
 have hle := Lib.compact_length_le xs
 refine ⟨_, rfl, ?_, grownBy_putRow _⟩
 have hc := Lib.ownsRow_putRow (q := q) (k := (Lib.compact xs).length) (ys := Lib.compact xs ++ List.replicate (xs.length - (Lib.compact xs).length) 0) hown (by simp; omega) hle
 rw [List.take_left] at hc
 exact Kd.R_of_own hc (fun _ _ => trivial)
end
section
open Go.RowKit
def attrsV : Nat → S29 → List Int | 0, _ => [] | k + 1, x => if x.f4 = [] then [x.f1] else Lib.compact ((x.f4.flatMap (attrsV k)).mergeSort fun a b => decide (a ≤ b))
def AttTo (x : S29) (xs : List Int) : Prop := ∀ (A : Option Addr) (c : Nat) (w : World), x.f4.length ≤ c → k29.C w A x.f4.length x.f4 →
 Calls Tryz.prog 14 #[.agg (lC x A c)] w fun e w' => ∃ v, e = .returned v ∧ Kd.R (Kd.int .i64) 3 w' w.heap.size (fun _ => True) v xs ∧ Below w.heap.size w w'
theorem info29s : (Tryz.prog.info? 29).map (·.size) = some 5 := by kernel_rfl
theorem infoI : (Tryz.prog.info? 3).map (fun i => (i.zero, i.size, i.bytes)) = some (some (.int .i64 0), 1, 8) := by kernel_rfl
theorem R_keep2 {α : Type} {d : Kd α} {e : Nat} {W W' : World} {base : Nat} {ok : Nat → Prop} {v : Value} {xs : List α} (h : d.R e W base ok v xs) {g T : Nat} {cs : Array Value} (hb : W.heap[g]? = some (.cells cs T (0, 0))) (ht : ∀ q, q ∈ e :: d.E → q ≠ T) (hk : ∀ k, k ≠ g → W'.heap[k]? = W.heap[k]?) : d.R e W' base ok v xs :=
 Kd.xE (Kd.R_step (Kd.R_types h hb ht) (fun k hk' _ => hk k hk'.2)) (fun _ hk => hk.1)
theorem take_flat {α β : Type} (l : List α) (f : α → List β) (i : Nat) (h : i < l.length) : (l.take (i + 1)).flatMap f = (l.take i).flatMap f ++ f l[i] := by
 rw [List.take_succ_eq_append_getElem h, List.flatMap_append]
 simp
theorem flat_le {α β : Type} (l : List α) (f : α → List β) (i : Nat) : ((l.take i).flatMap f).length ≤ (l.flatMap f).length := by
 have h : l.flatMap f = (l.take i).flatMap f ++ (l.drop i).flatMap f := by rw [← List.flatMap_append, List.take_append_drop]
 rw [h, List.length_append]
 omega
theorem Bxs.grown {w W W' : World} {L : List (Nat × Nat × Array Value)} (h : Bxs w W L) {g : Nat} (hg : W.grownBy W' (some g)) (hw : w.heap.size ≤ g) {cur : Array Value} {T : Nat} (hc : W.heap[g]? = some (.cells cur T (0, 0))) (hT : ∀ p ∈ L, p.2.1 ≠ T) : Bxs w W' L := by
 have hne : ∀ p ∈ L, p.1 ≠ g := fun p hp e => by
  have h1 := (h.blk p hp).2
  rw [e, hc] at h1
  injection h1 with h1
  injection h1 with _ h1
  exact hT p hp h1.symm
 refine ⟨⟨hg.os.trans h.below.os, hg.tape.trans h.below.tape, hg.output.trans h.below.output, Nat.le_trans h.below.size hg.size, fun k hk => ?_⟩, fun p hp => ⟨(h.blk p hp).1, ?_⟩, h.apart⟩
 ·rw [hg.block k (Nat.lt_of_lt_of_le hk h.below.size) (fun e => by injection e with e; omega)]
  exact h.below.block k hk
 ·rw [hg.block p.1 (blk_lt (h.blk p hp).2) (fun e => by injection e with e; exact hne p hp e)]
  exact (h.blk p hp).2
theorem Bxs.app {α : Type} {d : Kd α} {w W W' : World} {L : List (Nat × Nat × Array Value)} (h : Bxs w W L) {e : Nat} {ok : Nat → Prop} {v : Value} {xs : List α} (hO : d.R e W w.heap.size ok v xs) (hg : W.grownBy W' v.ownBlock) (hT : ∀ p ∈ L, p.2.1 ≠ e) : Bxs w W' L := by
 obtain ⟨inner, ho⟩ := Kd.R_own hO
 cases hb : v.ownBlock with | none => rw [hb] at hg; exact h.call (Reg.grown_below hg) | some g =>
  rw [hb] at hg
  obtain ⟨cells, hc⟩ := own_typed ho g hb
  exact h.grown hg (Kd.R_base hO g hb) hc hT
theorem Attrs_leaf (x : S29) (hx : x.f4 = []) : AttTo x [x.f1] := by
 intro A c w hlc hC
 have hu2 := Tryz.underlying29
 have HX := yC.mk (Bxs.start w)
 obtain ⟨k, a, s, sep, l4⟩ := x
 dsimp only at hx
 subst hx
 unfold lC
 dsimp only [List.length_nil]
 clear hlc hC
 go_enter Tryz.func14, Tryz.ntmps14
 go_wp2_with (first | ((with_reducible refine yK (N := 1) rfl ?_); refine yQ (w := w) ?hg (N := 1) ?hd (cs := #[.int .i64 k, .int .i64 a, .int .i64 s, .string sep, .slice A 0 c]) (t := 29) HX.out ?hr ?_; (case hd | hg => rfl); (case hr => go_simp; try rfl); intro g1 W1 hx; replace HX := yC.mk hx; clear hx; have b0 := HX.out.cell 0 0 rfl rfl; have b1 := HX.out.cell 0 1 rfl rfl; have b2 := HX.out.cell 0 2 rfl rfl; have b3 := HX.out.cell 0 3 rfl rfl; have b4 := HX.out.cell 0 4 rfl rfl) | ((with_reducible refine yK (N := 12) rfl ?_); refine Kd.R_lit (Kd.int .i64) (w0 := w) w.heap.size 3 ?hg (N := 12) ?hd (xs := [a]) (inner := [.int .i64 a]) (ok := fun _ => True) (okp := fun _ => True) ?hr ?hp (fun _ hk => hk) trivial HX.out.below HX.out.below.size (by simp) ?_; (case hd | hg => rfl); (case hr => go_simp; try rfl); (case hp => exact Kd.reps_scalar [a]); intro v12 W12 ho hb hg_ hnew_; clear hg_ hnew_; have HO := yC.mk ho; have HB := yC.mk hb; clear ho hb))
 go_ret
 exact ⟨v12, rfl, HO.out, HB.out⟩
theorem Attrs_parts (x : S29) (rs : S29 → List Int) (hx : x.f4 ≠ []) (hl : x.f4.length ≤ 1000) (hk : ∀ i : Nat, i < x.f4.length → AttTo (yM x.f4 (i : Int)) (rs (yM x.f4 (i : Int)))) (hn : x.f4.flatMap rs ≠ []) (hz : (x.f4.flatMap rs).length ≤ 1000000) :
  AttTo x (Lib.compact ((x.f4.flatMap rs).mergeSort fun a b => decide (a ≤ b))) := by
 intro A c w hlc hC
 have hu2 := Tryz.underlying29
 have HX := yC.mk (Bxs.start w)
 obtain ⟨k, a, s, sep, l4⟩ := x
 unfold lC
 dsimp only at hx hl hk hn hz hlc hC ⊢
 have HK := yC.mk (And.intro hk (And.intro hn (And.intro hz (And.intro hl (And.intro hC hlc)))))
 obtain ⟨n4, hn4⟩ : ∃ n, l4.length = n := ⟨_, rfl⟩
 have HN := yC.mk hn4
 rw [hn4]
 have d0 : ((n4 : Int) == 0) = false := by
  have : n4 ≠ 0 := fun e => hx (List.eq_nil_of_length_eq_zero (by rw [hn4]; exact e))
  simpa using (by omega : ¬ (n4 : Int) = 0)
 clear hx hl hk hn hz hlc hC hn4
 go_enter Tryz.func14, Tryz.ntmps14
 go_wp2_with (first | ((with_reducible refine yK (N := 1) rfl ?_); refine yQ (w := w) ?hg (N := 1) ?hd (cs := #[.int .i64 k, .int .i64 a, .int .i64 s, .string sep, .slice A n4 c]) (t := 29) HX.out ?hr ?_; (case hd | hg => rfl); (case hr => go_simp; try rfl); intro g1 W1 hx; replace HX := yC.mk hx; clear hx; have b0 := HX.out.cell 0 0 rfl rfl; have b1 := HX.out.cell 0 1 rfl rfl; have b2 := HX.out.cell 0 2 rfl rfl; have b3 := HX.out.cell 0 3 rfl rfl; have b4 := HX.out.cell 0 4 rfl rfl))
 go_loopg [3, 16] n4 (fun kq v3 v16 w' => ∃ i : Nat, v16 = .int .i64 i ∧ yC (kq + i = n4) ∧ yC (Kd.R (Kd.int .i64) 3 w' w.heap.size (fun _ => True) v3 ((l4.take i).flatMap rs)) ∧ yC (Bxs w w' [(g1, 29, #[.int .i64 k, .int .i64 a, .int .i64 s, .string sep, .slice A n4 c])]))
 case atStart => exact ⟨0, rfl, ⟨by omega⟩, ⟨Kd.R_nil _ _ _ _ _⟩, HX⟩
 case round =>
  clear HX b0 b1 b2 b3 b4 d0
  obtain ⟨i, rfl, HKQ, HO, HX⟩ := hrel
  by_cases hi : i < n4
  ·have hil : i < l4.length := by rw [HN.out]; exact hi
   have hstep := take_flat l4 rs i hil
   have hle := flat_le l4 rs (i + 1)
   rw [← rd_get l4 i hil] at hstep
   obtain ⟨ad, q, A4, c4, e, hq, K⟩ := kid HK.out.2.2.2.2.1 i hil
   have HC : yC (∀ (w' : World), Below w.heap.size w w' → Calls Tryz.prog 14 #[.agg (lC (yM l4 (i : Int)) A4 c4)] w' fun e w'' => ∃ v, e = .returned v ∧ Kd.R (Kd.int .i64) 3 w'' w'.heap.size (fun _ => True) v (rs (yM l4 (i : Int))) ∧ Below w'.heap.size w' w'') :=
    ⟨fun w' hb => HK.out.1 i hil A4 c4 w' K.len (Kd.yI K.has hb)⟩
   cases e
   generalize rs (yM l4 (i : Int)) = r at *
   generalize yM l4 (i : Int) = y at *
   obtain ⟨Y0, Y1, Y2, Y3, l5⟩ := y
   obtain ⟨h0, h1, h2, h3, h4, _, _⟩ := K
   unfold lC at HC
   dsimp only at HC h0 h1 h2 h3 h4
   generalize l5.length = n5 at *
   have HST := yC.mk hstep
   have HZ := yC.mk (Nat.le_trans hle HK.out.2.2.1)
   have q0 := yB HX.out.below h0
   have q1 := yB HX.out.below h1
   have q2 := yB HX.out.below h2
   have q3 := yB HX.out.below h3
   have q4 := yB HX.out.below h4
   cases hq
   have d1 : decide ((i : Int) < (n4 : Int)) = true := decide_eq_true (by omega)
   have p0 : (0 ≤ (i : Int)) = True := eq_true (by omega)
   have p1 : ((i : Int) < (n4 : Int)) = True := eq_true (by omega)
   have p2 : (i < n4) = True := eq_true hi
   have hln : n4 ≤ 1000 := by rw [← HN.out]; exact HK.out.2.2.2.1
   have w2 : IntKind.i64.wrap ((i : Int) + 1) = (i : Int) + 1 := by rw [IntKind.wrap_i64]; omega
   clear hstep hle h0 h1 h2 h3 h4 hln
   go_upto_region 7 with (first | ((with_reducible refine yK (N := 5) rfl ?_); refine bx_newB (w := w) ?hg (N := 5) ?hd (cs := #[.int .i64 0, .int .i64 0, .int .i64 0, .string (⟨#[]⟩ : ByteArray), .slice none 0 0]) (t := 29) HX.out ?hr ?_; (case hd | hg => rfl); (case hr => go_simp; try rfl); intro g5 W5 hx hb; have HO2 := yC.mk (Kd.yJ HO.out hb); clear HX HO hb; have HX := yC.mk hx; clear hx; refine bx_putB (w := w) rfl 29 (.tmp 5) (.tmp 19) rfl rfl (L1 := []) (cells := #[.int .i64 Y0, .int .i64 Y1, .int .i64 Y2, .string Y3, .slice A4 n5 c4]) HX.out rfl rfl info29s rfl rfl ?_; intro W6 hx hk; have HO := yC.mk (R_keep2 HO2.out (HX.out.at 0 rfl) (by decide) hk); clear HX HO2 hk; have HX := yC.mk hx; clear hx))
   try simp only [Act.put, List.setIfInBounds_toArray, List.set_cons_zero, List.set_cons_succ]
   have u0 : W6.cell? ⟨g5, 0, none⟩ = some (.int .i64 Y0) := HX.out.cell 0 0 rfl rfl
   have u1 : W6.cell? ⟨g5, 1, none⟩ = some (.int .i64 Y1) := HX.out.cell 0 1 rfl rfl
   have u2 : W6.cell? ⟨g5, 2, none⟩ = some (.int .i64 Y2) := HX.out.cell 0 2 rfl rfl
   have u3 : W6.cell? ⟨g5, 3, none⟩ = some (.string Y3) := HX.out.cell 0 3 rfl rfl
   have u4 : W6.cell? ⟨g5, 4, none⟩ = some (.slice A4 n5 c4) := HX.out.cell 0 4 rfl rfl
   clear q0 q1 q2 q3 q4
   go_upto_region 8 with (first | (go_at_call 14; (with_reducible refine (HC.out _ HX.out.below).mono ?_); rintro e WW ⟨v22, rfl, hr, hb⟩; have HO2 := yC.mk (Kd.yJ HO.out hb); have hx := HX.out.call hb; clear HO HX hb u0 u1 u2 u3 u4; have HO := HO2; clear HO2; have HX := yC.mk hx; clear hx; obtain ⟨A22, c22, rfl⟩ := Kd.R_slice hr; obtain ⟨_, _, hC22⟩ := Kd.R_reads' hr; have HC22 := yC.mk hC22; clear hC22 hr) | ((with_reducible refine gate_builtin (b := .append) (xs := #[.tmp 20, .tmp 22]) rfl ?_); at_builtin; refine Kd.R_append_rows (Kd.int .i64) (Rr := (Kd.int .i64).K _) (w0 := w) w.heap.size rfl (.tmp 20) (.tmp 22) 45 3 (.int .i64 0) 8 rfl Tryz.underlying45 infoI rfl (by decide) (by decide) _ ((l4.take i).flatMap rs) r A22 r.length c22 (fun _ => True) (fun _ => False) rfl rfl HO.out HC22.out (fun _ _ h => h) (fun _ hk => hk.elim) (fun _ _ => trivial) HX.out.below HX.out.below.size (by have h1 := HZ.out; rw [HST.out, List.length_append] at h1; omega) ?_; intro v23 W23 hr1 hb1 hg1 hat1; have hx := HX.out.app HO.out hg1 (by simp); clear HX HO hg1 hb1 hat1; have HX := yC.mk hx; clear hx; have HO := yC.mk hr1; clear hr1))
   go_wp2_with fail
   cases gk with | zero => exact absurd HKQ.out (by omega) | succ gk1 =>
   go_roundg gk1
   case measure => omega
   case rel => exact ⟨i + 1, by simp, ⟨by have := HKQ.out; omega⟩, ⟨by rw [HST.out]; exact HO.out⟩, ⟨by
    have h := HX.out
    exact ⟨h.below, fun p hp => h.blk p (List.mem_cons_of_mem _ hp), (List.nodup_cons.1 h.apart).2⟩⟩⟩
  ·have hall : l4.take i = l4 := List.take_of_length_le (by rw [HN.out]; omega)
   have HO2 := yC.mk HO.out
   rw [hall] at HO2
   have d1 : decide ((i : Int) < (n4 : Int)) = false := decide_eq_false (by omega)
   have d2 : ((i : Int) < (n4 : Int)) = False := eq_false (by omega)
   have d3 : (i < n4) = False := eq_false hi
   have HZ := yC.mk (And.intro HK.out.2.1 HK.out.2.2.1)
   clear HO hall hi HKQ HK
   obtain ⟨xs, hxs⟩ : ∃ xs, l4.flatMap rs = xs := ⟨_, rfl⟩
   rw [hxs] at HO2 HZ
   have HXS := yC.mk hxs
   clear hxs
   have HM : yC ((xs.mergeSort fun a b => decide (a ≤ b)) ≠ [] ∧ (xs.mergeSort fun a b => decide (a ≤ b)).length ≤ 1000000) := ⟨fun e => HZ.out.1 (List.length_eq_zero_iff.1 (by
    have h1 := List.length_mergeSort (le := fun a b => decide (a ≤ b)) xs
    rw [e] at h1; exact h1.symm)), by rw [List.length_mergeSort]; exact HZ.out.2⟩
   go_wp2_with (first | (go_at_call 34; (with_reducible refine (sort_R _ _ _ _ HO2.out HZ.out.1 HZ.out.2).mono ?_); rintro e WW ⟨rfl, hr, hg⟩; have hx := HX.out.app HO2.out hg (by simp); clear HX HO2 hg; have HX := yC.mk hx; clear hx; have HO := yC.mk hr; clear hr) | (go_at_call 35; (with_reducible refine (compact_R _ _ _ _ HO.out HM.out.2 HM.out.1).mono ?_); rintro e WW ⟨v28, rfl, hr, hg⟩; have hx := HX.out.app HO.out hg (by simp); clear HX HO hg; have HX := yC.mk hx; clear hx; have HO := yC.mk hr; clear hr))
   go_ret
   rw [HXS.out]
   exact ⟨v28, rfl, HO.out, HX.out.below⟩
end
section
open Go.RowKit
def wOk : Nat → S29 → Prop
 | 0, _ => False
 | k + 1, x => x.f4.length ≤ 2 ∧ ∀ i : Nat, i < x.f4.length → wOk k (yM x.f4 (i : Int))
theorem compact_ne {l : List Int} (h : l ≠ []) : Lib.compact l ≠ [] := by
 cases l with
 | nil => exact absurd rfl h
 | cons a l =>
  intro e
  unfold Lib.compact Lib.compactUpTo at e
  have h1 := List.map_eq_nil_iff.1 e
  have h2 : 0 ∈ (List.range (a :: l).length).filter (Lib.keeps (a :: l).toArray) := List.mem_filter.2 ⟨List.mem_range.2 (by simp), Lib.keeps_lt_one _ 0 (by decide)⟩
  rw [h1] at h2
  cases h2
theorem attrs_ne : ∀ (k : Nat) (x : S29), wOk k x → attrsV k x ≠ [] := by
 intro k
 induction k with
 | zero => intro x h; exact h.elim
 | succ k ih =>
  intro x h
  unfold attrsV
  split
  ·simp
  ·rename_i hx
   refine compact_ne fun e => ?_
   have h1 := List.length_mergeSort (le := fun a b => decide (a ≤ b)) (x.f4.flatMap (attrsV k))
   rw [e] at h1
   have h2 : x.f4.flatMap (attrsV k) = [] := List.length_eq_zero_iff.1 h1.symm
   have hl : 0 < x.f4.length := List.length_pos_iff.2 hx
   have h3 := (List.flatMap_eq_nil_iff.1 h2) (x.f4[0]) (List.getElem_mem hl)
   rw [← rd_get x.f4 0 hl] at h3
   exact ih _ (h.2 0 hl) h3
theorem compact_len : ∀ l : List Int, (Lib.compact l).length ≤ l.length := Lib.compact_length_le
theorem attrs_len : ∀ (k : Nat) (x : S29), wOk k x → (attrsV k x).length ≤ 2 ^ k ∧ (x.f4.flatMap (attrsV (k - 1))).length ≤ 2 ^ k := by
 intro k
 induction k with
 | zero => intro x h; exact h.elim
 | succ k ih =>
  intro x h
  have hp : 1 ≤ 2 ^ k := Nat.one_le_two_pow
  have hf : (x.f4.flatMap (attrsV k)).length ≤ 2 ^ (k + 1) := by
   have h0 := h.1
   have hk := h.2
   rcases x with ⟨_, _, _, _, l⟩
   dsimp only at h0 hk ⊢
   match l, h0, hk with
   | [], _, _ => simp
   | [a], _, hk =>
    have := (ih _ (hk 0 (by simp))).1
    simp [yM] at this ⊢
    rw [Nat.pow_succ]; omega
   | [a, b], _, hk =>
    have h1 := (ih _ (hk 0 (by simp))).1
    have h2 := (ih _ (hk 1 (by simp))).1
    simp [yM] at h1 h2 ⊢
    rw [Nat.pow_succ]; omega
   | _ :: _ :: _ :: _, h0, _ => simp at h0
  refine ⟨?_, hf⟩
  unfold attrsV
  split
  ·simp; omega
  ·exact Nat.le_trans (compact_len _) (by rw [List.length_mergeSort]; exact hf)
theorem Attrs_all : ∀ (k : Nat) (x : S29), k ≤ 19 → wOk k x → AttTo x (attrsV k x) := by
 intro k
 induction k with
 | zero => intro x _ h; exact h.elim
 | succ k ih =>
  intro x hk h
  unfold attrsV
  split
  ·rename_i hx; exact Attrs_leaf x hx
  ·rename_i hx
   have hl : 0 < x.f4.length := List.length_pos_iff.2 hx
   have hb : (x.f4.flatMap (attrsV k)).length ≤ 2 ^ (k + 1) := (attrs_len (k + 1) x h).2
   have hp : 2 ^ (k + 1) ≤ 2 ^ 19 := Nat.pow_le_pow_right (by decide) hk
   refine Attrs_parts x (attrsV k) hx (by have := h.1; omega) (fun i hi => ih _ (by omega) (h.2 i hi)) (fun e => ?_) (by omega)
   have h3 := (List.flatMap_eq_nil_iff.1 e) (x.f4[0]) (List.getElem_mem hl)
   rw [← rd_get x.f4 0 hl] at h3
   exact attrs_ne _ _ (h.2 0 hl) h3
end
section
open Go.RowKit
theorem info85s : (Tryz.prog.info? 85).map (·.size) = some 4 := by kernel_rfl
theorem ofRa (k a s : Int) (HK : yC (k = 1 ∨ k = 2 ∨ k = 3)) (sep : ByteArray) (A A0 : Option Addr) (n4 c n0 c0 : Nat) (T0 T1 : Int) (T2 : Bool) (w : World)
  (HD : yC (∀ w', Below w.heap.size w w' → Calls Tryz.prog 48 #[.agg #[.int .i64 k, .int .i64 a, .int .i64 s, .string sep, .slice A n4 c], .int .i64 3] w' fun e w'' => e = .returned (.bool false) ∧ Below w'.heap.size w' w''))
  (HP : yC (∀ w', Below w.heap.size w w' → Calls Tryz.prog 59 #[.slice A0 n0 c0, .agg #[.int .i64 k, .int .i64 a, .int .i64 s, .string sep, .slice A n4 c]] w' fun e w'' => e = .returned (.agg #[.int .i64 T0, .int .i64 T1, .bool T2, .bool true]) ∧ Below w'.heap.size w' w'')) :
  Calls Tryz.prog 40 #[.slice A0 n0 c0, .agg #[.int .i64 k, .int .i64 a, .int .i64 s, .string sep, .slice A n4 c]] w fun e w' => e = .returned (.agg #[.int .i64 T0, .int .i64 T1, .bool T2, .bool true]) ∧ Below w.heap.size w w' := by
 have hu := Tryz.underlying85
 have hu2 := Tryz.underlying29
 have hu3 := Tryz.underlying49
 obtain ⟨c1, hc1⟩ : ∃ b, (k == 1) = b := ⟨_, rfl⟩
 obtain ⟨c2, hc2⟩ : ∃ b, (k == 2) = b := ⟨_, rfl⟩
 have C1 := yC.mk hc1
 have C2 := yC.mk hc2
 clear hc1 hc2
 have HX := yC.mk (Bxs.start w)
 go_enter Tryz.func40, Tryz.ntmps40
 go_upto_region 0 with (fail)
 refine Reg.det [(some 3, Reg.Dv.box 3 29 (fun _ => #[.int .i64 k, .int .i64 a, .int .i64 s, .string sep, .slice A n4 c]) [] true), (some 4, Reg.Dv.box 4 85 (fun _ => #[.int .i64 0, .int .i64 0, .bool false, .bool false]) [] true)] [] 25 rfl (by kernel_rfl) (by kernel_rfl) ?s1 ?_
 case s1 =>
  intro iq oq pq hiq hoq hpq ρ ev W S hE hO ec ef hB hft hΦ
  have e1 : ev (.tmp 1) = .agg #[.int .i64 k, .int .i64 a, .int .i64 s, .string sep, .slice A n4 c] := hO 1 rfl
  simp only [Reg.SV] at hE
  obtain ⟨e3, e4, _⟩ := hE
  rcases Reg.lt2 hiq with rfl | rfl
  all_goals (cases hoq; cases hpq)
  rotate_left 1
  ·refine Reg.D.box hB ?_
   go_simp
   try rfl
  rotate_right 1
  ·refine Reg.D.box hB ?_
   go_simp
   try rfl
 intro ρ W0 S hB hft hap hΦ
 simp only [Reg.SV, Reg.SF, Nat.reduceAdd]
 obtain ⟨g3, e3, s3, hg3, _, b3⟩ := hΦ 0 _ rfl rfl
 replace e3 : ρ 3 = .pointer (some ⟨g3, 0, none⟩) := e3
 obtain ⟨g4, e4, s4, hg4, _, b4⟩ := hΦ 1 _ rfl rfl
 replace e4 : ρ 4 = .pointer (some ⟨g4, 0, none⟩) := e4
 try simp only [e3, e4]
 replace b3 : W0.heap[g3]? = some (.cells #[.int .i64 k, .int .i64 a, .int .i64 s, .string sep, .slice A n4 c] 29 (0, 0)) := b3
 replace b4 : W0.heap[g4]? = some (.cells #[.int .i64 0, .int .i64 0, .bool false, .bool false] 85 (0, 0)) := b4
 have HX := yC.mk (HX.out.join ((Bxs.one hB hg3 b3).more hg4 b4 (by intro p hp; simp only [List.mem_cons, List.mem_singleton, List.not_mem_nil, or_false] at hp; rcases hp with rfl <;> (intro e; dsimp only at e; subst e; first | exact absurd (hap _ _ _ s3 s4) (by decide)))))
 clear hΦ hft hap 
 go_upto_region 1 with (fail)
 try simp only [Reg.SF]
 refine Reg.det [Reg.k 5 (.agg #[.int .i64 k, .int .i64 a, .int .i64 s, .string sep, .slice A n4 c]), Reg.k 6 (.bool false)] [] 25 rfl (by kernel_rfl) (by kernel_rfl) ?s2 ?_
 case s2 =>
  intro iq oq pq hiq hoq hpq ρ ev W S hE hO ec ef hB hft hΦ
  have e3 : ev (.tmp 3) = .pointer (some ⟨g3, 0, none⟩) := hO 3 rfl
  have mg3_0 := HX.pc hB 1 0 (.int .i64 k) rfl rfl
  have mg3_1 := HX.pc hB 1 1 (.int .i64 a) rfl rfl
  have mg3_2 := HX.pc hB 1 2 (.int .i64 s) rfl rfl
  have mg3_3 := HX.pc hB 1 3 (.string sep) rfl rfl
  have mg3_4 := HX.pc hB 1 4 (.slice A n4 c) rfl rfl
  simp only [Reg.SV] at hE
  obtain ⟨e5, e6, _⟩ := hE
  rcases Reg.lt2 hiq with rfl | rfl
  all_goals (cases hoq; cases hpq)
  rotate_left 1
  ·refine Reg.D.cc (g := 48) (args := #[.agg #[.int .i64 k, .int .i64 a, .int .i64 s, .string sep, .slice A n4 c], .int .i64 3]) hB (by go_simp; try rfl) ?_
   exact HD.out W (yD HX.out.below hB)
  rotate_right 1
  all_goals exact Reg.D.cx hB
 intro ρ W1 S hB hft hap hΦ
 simp only [Reg.SV, Reg.SF, Nat.reduceAdd]
 have HX := HX.cl hB
 clear hΦ hft hap 
 go_upto_region 3 with (fail)
 try simp only [Reg.SF]
 refine Reg.det [Reg.k 8 (.pointer (some ⟨g3, 0, none⟩)), Reg.k 9 (.int .i64 k)] [] 25 rfl (by kernel_rfl) (by kernel_rfl) ?s3 ?_
 case s3 =>
  intro iq oq pq hiq hoq hpq ρ ev W S hE hO ec ef hB hft hΦ
  have e3 : ev (.tmp 3) = .pointer (some ⟨g3, 0, none⟩) := hO 3 rfl
  have mg3_0 := HX.pc hB 1 0 (.int .i64 k) rfl rfl
  simp only [Reg.SV] at hE
  obtain ⟨e8, e9, _⟩ := hE
  rcases Reg.lt2 hiq with rfl | rfl
  all_goals (cases hoq; cases hpq)
  all_goals exact Reg.D.cx hB
 intro ρ W3 S hB hft hap hΦ
 simp only [Reg.SV, Reg.SF, Nat.reduceAdd]
 have HX := HX.cl hB
 clear hΦ hft hap 
 go_upto_region 4 with (fail)
 try simp only [Reg.SF]
 refine Reg.det [Reg.k 11 (.bool c1), Reg.k 10 (.bool c1)] [] 25 rfl (by kernel_rfl) (by kernel_rfl) ?s4 ?_
 case s4 =>
  intro iq oq pq hiq hoq hpq ρ ev W S hE hO ec ef hB hft hΦ
  have e9 : ev (.tmp 9) = .int .i64 k := hO 9 rfl
  simp only [Reg.SV] at hE
  obtain ⟨e11, e10, _⟩ := hE
  rcases Reg.lt2 hiq with rfl | rfl
  all_goals (cases hoq; cases hpq)
  all_goals try exact Reg.D.mv hB
  all_goals (refine Reg.D.cv hB ?_; go_simp; try (first | done | rfl | (exact C1.out) | (exact C2.out) | (have h1 := HK.out; have h2 := C1.out; have h3 := C2.out; simp at h2 h3 ⊢; omega) | (have h1 := HK.out; simp; omega)))
 intro ρ W4 S hB hft hap hΦ
 simp only [Reg.SV, Reg.SF, Nat.reduceAdd]
 have HX := HX.cl hB
 clear hΦ hft hap 
 cases c1 with
 | true =>
  go_upto_region 7 with (fail)
  try simp only [Reg.SF]
  refine Reg.det [Reg.k 14 (.slice A0 n0 c0), Reg.k 15 (.agg #[.int .i64 k, .int .i64 a, .int .i64 s, .string sep, .slice A n4 c]), Reg.k 16 (.agg #[.int .i64 T0, .int .i64 T1, .bool T2, .bool true])] [] 25 rfl (by kernel_rfl) (by kernel_rfl) ?s5 ?_
  case s5 =>
   intro iq oq pq hiq hoq hpq ρ ev W S hE hO ec ef hB hft hΦ
   have e0 : ev (.tmp 0) = .slice A0 n0 c0 := hO 0 rfl
   have e3 : ev (.tmp 3) = .pointer (some ⟨g3, 0, none⟩) := hO 3 rfl
   have mg3_0 := HX.pc hB 1 0 (.int .i64 k) rfl rfl
   have mg3_1 := HX.pc hB 1 1 (.int .i64 a) rfl rfl
   have mg3_2 := HX.pc hB 1 2 (.int .i64 s) rfl rfl
   have mg3_3 := HX.pc hB 1 3 (.string sep) rfl rfl
   have mg3_4 := HX.pc hB 1 4 (.slice A n4 c) rfl rfl
   simp only [Reg.SV] at hE
   obtain ⟨e14, e15, e16, _⟩ := hE
   rcases Reg.lt3 hiq with rfl | rfl | rfl
   all_goals (cases hoq; cases hpq)
   rotate_left 2
   ·refine Reg.D.cc (g := 59) (args := #[.slice A0 n0 c0, .agg #[.int .i64 k, .int .i64 a, .int .i64 s, .string sep, .slice A n4 c]]) hB (by go_simp; try rfl) ?_
    exact HP.out W (yD HX.out.below hB)
   rotate_right 2
   all_goals try exact Reg.D.mv hB
   all_goals exact Reg.D.cx hB
  intro ρ W7 S hB hft hap hΦ
  simp only [Reg.SV, Reg.SF, Nat.reduceAdd]
  have HX := HX.cl hB
  clear hΦ hft hap 
  refine xG (w := w) rfl 85 (.tmp 4) (.tmp 16) rfl rfl (L1 := []) (cells := #[.int .i64 T0, .int .i64 T1, .bool T2, .bool true]) HX.out rfl rfl (by kernel_rfl) rfl rfl ?_
  intro Wp hx
  have HX := yC.mk hx
  clear hx
  go_wp2_with fail
  refine bodyPost_ret (results_cell_row rfl _ _ g4 85 #[.int .i64 T0, .int .i64 T1, .bool T2, .bool true] (0, 0) _ rfl (HX.out.at 0 rfl) hu rfl (by kernel_rfl)) rfl ?_
  exact ⟨rfl, HX.out.below⟩
 | false =>
  go_upto_region 5 with (fail)
  try simp only [Reg.SF]
  refine Reg.det [Reg.k 12 (.bool c2), Reg.k 10 (.bool c2)] [] 25 rfl (by kernel_rfl) (by kernel_rfl) ?s6 ?_
  case s6 =>
   intro iq oq pq hiq hoq hpq ρ ev W S hE hO ec ef hB hft hΦ
   have e9 : ev (.tmp 9) = .int .i64 k := hO 9 rfl
   simp only [Reg.SV] at hE
   obtain ⟨e12, e10, _⟩ := hE
   rcases Reg.lt2 hiq with rfl | rfl
   all_goals (cases hoq; cases hpq)
   all_goals try exact Reg.D.mv hB
   all_goals (refine Reg.D.cv hB ?_; go_simp; try (first | done | rfl | (exact C1.out) | (exact C2.out) | (have h1 := HK.out; have h2 := C1.out; have h3 := C2.out; simp at h2 h3 ⊢; omega) | (have h1 := HK.out; simp; omega)))
  intro ρ W5 S hB hft hap hΦ
  simp only [Reg.SV, Reg.SF, Nat.reduceAdd]
  have HX := HX.cl hB
  clear hΦ hft hap 
  cases c2 with
  | true =>
   go_upto_region 7 with (fail)
   try simp only [Reg.SF]
   refine Reg.det [Reg.k 14 (.slice A0 n0 c0), Reg.k 15 (.agg #[.int .i64 k, .int .i64 a, .int .i64 s, .string sep, .slice A n4 c]), Reg.k 16 (.agg #[.int .i64 T0, .int .i64 T1, .bool T2, .bool true])] [] 25 rfl (by kernel_rfl) (by kernel_rfl) ?s7 ?_
   case s7 =>
    intro iq oq pq hiq hoq hpq ρ ev W S hE hO ec ef hB hft hΦ
    have e0 : ev (.tmp 0) = .slice A0 n0 c0 := hO 0 rfl
    have e3 : ev (.tmp 3) = .pointer (some ⟨g3, 0, none⟩) := hO 3 rfl
    have mg3_0 := HX.pc hB 1 0 (.int .i64 k) rfl rfl
    have mg3_1 := HX.pc hB 1 1 (.int .i64 a) rfl rfl
    have mg3_2 := HX.pc hB 1 2 (.int .i64 s) rfl rfl
    have mg3_3 := HX.pc hB 1 3 (.string sep) rfl rfl
    have mg3_4 := HX.pc hB 1 4 (.slice A n4 c) rfl rfl
    simp only [Reg.SV] at hE
    obtain ⟨e14, e15, e16, _⟩ := hE
    rcases Reg.lt3 hiq with rfl | rfl | rfl
    all_goals (cases hoq; cases hpq)
    rotate_left 2
    ·refine Reg.D.cc (g := 59) (args := #[.slice A0 n0 c0, .agg #[.int .i64 k, .int .i64 a, .int .i64 s, .string sep, .slice A n4 c]]) hB (by go_simp; try rfl) ?_
     exact HP.out W (yD HX.out.below hB)
    rotate_right 2
    all_goals try exact Reg.D.mv hB
    all_goals exact Reg.D.cx hB
   intro ρ W7 S hB hft hap hΦ
   simp only [Reg.SV, Reg.SF, Nat.reduceAdd]
   have HX := HX.cl hB
   clear hΦ hft hap 
   refine xG (w := w) rfl 85 (.tmp 4) (.tmp 16) rfl rfl (L1 := []) (cells := #[.int .i64 T0, .int .i64 T1, .bool T2, .bool true]) HX.out rfl rfl (by kernel_rfl) rfl rfl ?_
   intro Wp hx
   have HX := yC.mk hx
   clear hx
   go_wp2_with fail
   refine bodyPost_ret (results_cell_row rfl _ _ g4 85 #[.int .i64 T0, .int .i64 T1, .bool T2, .bool true] (0, 0) _ rfl (HX.out.at 0 rfl) hu rfl (by kernel_rfl)) rfl ?_
   exact ⟨rfl, HX.out.below⟩
  | false =>
   go_upto_region 6 with (fail)
   try simp only [Reg.SF]
   refine Reg.det [Reg.k 13 (.bool true), Reg.k 10 (.bool true)] [] 25 rfl (by kernel_rfl) (by kernel_rfl) ?s8 ?_
   case s8 =>
    intro iq oq pq hiq hoq hpq ρ ev W S hE hO ec ef hB hft hΦ
    have e9 : ev (.tmp 9) = .int .i64 k := hO 9 rfl
    simp only [Reg.SV] at hE
    obtain ⟨e13, e10, _⟩ := hE
    rcases Reg.lt2 hiq with rfl | rfl
    all_goals (cases hoq; cases hpq)
    all_goals try exact Reg.D.mv hB
    all_goals (refine Reg.D.cv hB ?_; go_simp; try (first | done | rfl | (exact C1.out) | (exact C2.out) | (have h1 := HK.out; have h2 := C1.out; have h3 := C2.out; simp at h2 h3 ⊢; omega) | (have h1 := HK.out; simp; omega)))
   intro ρ W6 S hB hft hap hΦ
   simp only [Reg.SV, Reg.SF, Nat.reduceAdd]
   have HX := HX.cl hB
   clear hΦ hft hap 
   go_upto_region 7 with (fail)
   try simp only [Reg.SF]
   refine Reg.det [Reg.k 14 (.slice A0 n0 c0), Reg.k 15 (.agg #[.int .i64 k, .int .i64 a, .int .i64 s, .string sep, .slice A n4 c]), Reg.k 16 (.agg #[.int .i64 T0, .int .i64 T1, .bool T2, .bool true])] [] 25 rfl (by kernel_rfl) (by kernel_rfl) ?s9 ?_
   case s9 =>
    intro iq oq pq hiq hoq hpq ρ ev W S hE hO ec ef hB hft hΦ
    have e0 : ev (.tmp 0) = .slice A0 n0 c0 := hO 0 rfl
    have e3 : ev (.tmp 3) = .pointer (some ⟨g3, 0, none⟩) := hO 3 rfl
    have mg3_0 := HX.pc hB 1 0 (.int .i64 k) rfl rfl
    have mg3_1 := HX.pc hB 1 1 (.int .i64 a) rfl rfl
    have mg3_2 := HX.pc hB 1 2 (.int .i64 s) rfl rfl
    have mg3_3 := HX.pc hB 1 3 (.string sep) rfl rfl
    have mg3_4 := HX.pc hB 1 4 (.slice A n4 c) rfl rfl
    simp only [Reg.SV] at hE
    obtain ⟨e14, e15, e16, _⟩ := hE
    rcases Reg.lt3 hiq with rfl | rfl | rfl
    all_goals (cases hoq; cases hpq)
    rotate_left 2
    ·refine Reg.D.cc (g := 59) (args := #[.slice A0 n0 c0, .agg #[.int .i64 k, .int .i64 a, .int .i64 s, .string sep, .slice A n4 c]]) hB (by go_simp; try rfl) ?_
     exact HP.out W (yD HX.out.below hB)
    rotate_right 2
    all_goals try exact Reg.D.mv hB
    all_goals exact Reg.D.cx hB
   intro ρ W7 S hB hft hap hΦ
   simp only [Reg.SV, Reg.SF, Nat.reduceAdd]
   have HX := HX.cl hB
   clear hΦ hft hap 
   refine xG (w := w) rfl 85 (.tmp 4) (.tmp 16) rfl rfl (L1 := []) (cells := #[.int .i64 T0, .int .i64 T1, .bool T2, .bool true]) HX.out rfl rfl (by kernel_rfl) rfl rfl ?_
   intro Wp hx
   have HX := yC.mk hx
   clear hx
   go_wp2_with fail
   refine bodyPost_ret (results_cell_row rfl _ _ g4 85 #[.int .i64 T0, .int .i64 T1, .bool T2, .bool true] (0, 0) _ rfl (HX.out.at 0 rfl) hu rfl (by kernel_rfl)) rfl ?_
   exact ⟨rfl, HX.out.below⟩
theorem ofRb (k a s : Int) (HK : yC (k = 4 ∨ k = 5 ∨ k = 6)) (sep : ByteArray) (A A0 : Option Addr) (n4 c n0 c0 : Nat) (T0 T1 : Int) (T2 : Bool) (w : World)
  (HD : yC (∀ w', Below w.heap.size w w' → Calls Tryz.prog 48 #[.agg #[.int .i64 k, .int .i64 a, .int .i64 s, .string sep, .slice A n4 c], .int .i64 3] w' fun e w'' => e = .returned (.bool false) ∧ Below w'.heap.size w' w''))
  (HP : yC (∀ w', Below w.heap.size w w' → Calls Tryz.prog 60 #[.slice A0 n0 c0, .agg #[.int .i64 k, .int .i64 a, .int .i64 s, .string sep, .slice A n4 c]] w' fun e w'' => e = .returned (.agg #[.int .i64 T0, .int .i64 T1, .bool T2, .bool true]) ∧ Below w'.heap.size w' w'')) :
  Calls Tryz.prog 40 #[.slice A0 n0 c0, .agg #[.int .i64 k, .int .i64 a, .int .i64 s, .string sep, .slice A n4 c]] w fun e w' => e = .returned (.agg #[.int .i64 T0, .int .i64 T1, .bool T2, .bool true]) ∧ Below w.heap.size w w' := by
 have hu := Tryz.underlying85
 have hu2 := Tryz.underlying29
 have hu3 := Tryz.underlying49
 obtain ⟨c1, hc1⟩ : ∃ b, (k == 4) = b := ⟨_, rfl⟩
 obtain ⟨c2, hc2⟩ : ∃ b, (k == 5) = b := ⟨_, rfl⟩
 have C1 := yC.mk hc1
 have C2 := yC.mk hc2
 clear hc1 hc2
 have HX := yC.mk (Bxs.start w)
 go_enter Tryz.func40, Tryz.ntmps40
 go_upto_region 0 with (fail)
 refine Reg.det [(some 3, Reg.Dv.box 3 29 (fun _ => #[.int .i64 k, .int .i64 a, .int .i64 s, .string sep, .slice A n4 c]) [] true), (some 4, Reg.Dv.box 4 85 (fun _ => #[.int .i64 0, .int .i64 0, .bool false, .bool false]) [] true)] [] 25 rfl (by kernel_rfl) (by kernel_rfl) ?s10 ?_
 case s10 =>
  intro iq oq pq hiq hoq hpq ρ ev W S hE hO ec ef hB hft hΦ
  have e1 : ev (.tmp 1) = .agg #[.int .i64 k, .int .i64 a, .int .i64 s, .string sep, .slice A n4 c] := hO 1 rfl
  simp only [Reg.SV] at hE
  obtain ⟨e3, e4, _⟩ := hE
  rcases Reg.lt2 hiq with rfl | rfl
  all_goals (cases hoq; cases hpq)
  rotate_left 1
  ·refine Reg.D.box hB ?_
   go_simp
   try rfl
  rotate_right 1
  ·refine Reg.D.box hB ?_
   go_simp
   try rfl
 intro ρ W0 S hB hft hap hΦ
 simp only [Reg.SV, Reg.SF, Nat.reduceAdd]
 obtain ⟨g3, e3, s3, hg3, _, b3⟩ := hΦ 0 _ rfl rfl
 replace e3 : ρ 3 = .pointer (some ⟨g3, 0, none⟩) := e3
 obtain ⟨g4, e4, s4, hg4, _, b4⟩ := hΦ 1 _ rfl rfl
 replace e4 : ρ 4 = .pointer (some ⟨g4, 0, none⟩) := e4
 try simp only [e3, e4]
 replace b3 : W0.heap[g3]? = some (.cells #[.int .i64 k, .int .i64 a, .int .i64 s, .string sep, .slice A n4 c] 29 (0, 0)) := b3
 replace b4 : W0.heap[g4]? = some (.cells #[.int .i64 0, .int .i64 0, .bool false, .bool false] 85 (0, 0)) := b4
 have HX := yC.mk (HX.out.join ((Bxs.one hB hg3 b3).more hg4 b4 (by intro p hp; simp only [List.mem_cons, List.mem_singleton, List.not_mem_nil, or_false] at hp; rcases hp with rfl <;> (intro e; dsimp only at e; subst e; first | exact absurd (hap _ _ _ s3 s4) (by decide)))))
 clear hΦ hft hap 
 go_upto_region 1 with (fail)
 try simp only [Reg.SF]
 refine Reg.det [Reg.k 5 (.agg #[.int .i64 k, .int .i64 a, .int .i64 s, .string sep, .slice A n4 c]), Reg.k 6 (.bool false)] [] 25 rfl (by kernel_rfl) (by kernel_rfl) ?s11 ?_
 case s11 =>
  intro iq oq pq hiq hoq hpq ρ ev W S hE hO ec ef hB hft hΦ
  have e3 : ev (.tmp 3) = .pointer (some ⟨g3, 0, none⟩) := hO 3 rfl
  have mg3_0 := HX.pc hB 1 0 (.int .i64 k) rfl rfl
  have mg3_1 := HX.pc hB 1 1 (.int .i64 a) rfl rfl
  have mg3_2 := HX.pc hB 1 2 (.int .i64 s) rfl rfl
  have mg3_3 := HX.pc hB 1 3 (.string sep) rfl rfl
  have mg3_4 := HX.pc hB 1 4 (.slice A n4 c) rfl rfl
  simp only [Reg.SV] at hE
  obtain ⟨e5, e6, _⟩ := hE
  rcases Reg.lt2 hiq with rfl | rfl
  all_goals (cases hoq; cases hpq)
  rotate_left 1
  ·refine Reg.D.cc (g := 48) (args := #[.agg #[.int .i64 k, .int .i64 a, .int .i64 s, .string sep, .slice A n4 c], .int .i64 3]) hB (by go_simp; try rfl) ?_
   exact HD.out W (yD HX.out.below hB)
  rotate_right 1
  all_goals exact Reg.D.cx hB
 intro ρ W1 S hB hft hap hΦ
 simp only [Reg.SV, Reg.SF, Nat.reduceAdd]
 have HX := HX.cl hB
 clear hΦ hft hap 
 go_upto_region 3 with (fail)
 try simp only [Reg.SF]
 refine Reg.det [Reg.k 8 (.pointer (some ⟨g3, 0, none⟩)), Reg.k 9 (.int .i64 k)] [] 25 rfl (by kernel_rfl) (by kernel_rfl) ?s12 ?_
 case s12 =>
  intro iq oq pq hiq hoq hpq ρ ev W S hE hO ec ef hB hft hΦ
  have e3 : ev (.tmp 3) = .pointer (some ⟨g3, 0, none⟩) := hO 3 rfl
  have mg3_0 := HX.pc hB 1 0 (.int .i64 k) rfl rfl
  simp only [Reg.SV] at hE
  obtain ⟨e8, e9, _⟩ := hE
  rcases Reg.lt2 hiq with rfl | rfl
  all_goals (cases hoq; cases hpq)
  all_goals exact Reg.D.cx hB
 intro ρ W3 S hB hft hap hΦ
 simp only [Reg.SV, Reg.SF, Nat.reduceAdd]
 have HX := HX.cl hB
 clear hΦ hft hap 
 go_upto_region 4 with (fail)
 try simp only [Reg.SF]
 refine Reg.det [Reg.k 11 (.bool false), Reg.k 10 (.bool false)] [] 25 rfl (by kernel_rfl) (by kernel_rfl) ?s13 ?_
 case s13 =>
  intro iq oq pq hiq hoq hpq ρ ev W S hE hO ec ef hB hft hΦ
  have e9 : ev (.tmp 9) = .int .i64 k := hO 9 rfl
  simp only [Reg.SV] at hE
  obtain ⟨e11, e10, _⟩ := hE
  rcases Reg.lt2 hiq with rfl | rfl
  all_goals (cases hoq; cases hpq)
  all_goals try exact Reg.D.mv hB
  all_goals (refine Reg.D.cv hB ?_; go_simp; try (first | done | rfl | (exact C1.out) | (exact C2.out) | (have h1 := HK.out; have h2 := C1.out; have h3 := C2.out; simp at h2 h3 ⊢; omega) | (have h1 := HK.out; simp; omega)))
 intro ρ W4 S hB hft hap hΦ
 simp only [Reg.SV, Reg.SF, Nat.reduceAdd]
 have HX := HX.cl hB
 clear hΦ hft hap 
 go_upto_region 5 with (fail)
 try simp only [Reg.SF]
 refine Reg.det [Reg.k 12 (.bool false), Reg.k 10 (.bool false)] [] 25 rfl (by kernel_rfl) (by kernel_rfl) ?s14 ?_
 case s14 =>
  intro iq oq pq hiq hoq hpq ρ ev W S hE hO ec ef hB hft hΦ
  have e9 : ev (.tmp 9) = .int .i64 k := hO 9 rfl
  simp only [Reg.SV] at hE
  obtain ⟨e12, e10, _⟩ := hE
  rcases Reg.lt2 hiq with rfl | rfl
  all_goals (cases hoq; cases hpq)
  all_goals try exact Reg.D.mv hB
  all_goals (refine Reg.D.cv hB ?_; go_simp; try (first | done | rfl | (exact C1.out) | (exact C2.out) | (have h1 := HK.out; have h2 := C1.out; have h3 := C2.out; simp at h2 h3 ⊢; omega) | (have h1 := HK.out; simp; omega)))
 intro ρ W5 S hB hft hap hΦ
 simp only [Reg.SV, Reg.SF, Nat.reduceAdd]
 have HX := HX.cl hB
 clear hΦ hft hap 
 go_upto_region 6 with (fail)
 try simp only [Reg.SF]
 refine Reg.det [Reg.k 13 (.bool false), Reg.k 10 (.bool false)] [] 25 rfl (by kernel_rfl) (by kernel_rfl) ?s15 ?_
 case s15 =>
  intro iq oq pq hiq hoq hpq ρ ev W S hE hO ec ef hB hft hΦ
  have e9 : ev (.tmp 9) = .int .i64 k := hO 9 rfl
  simp only [Reg.SV] at hE
  obtain ⟨e13, e10, _⟩ := hE
  rcases Reg.lt2 hiq with rfl | rfl
  all_goals (cases hoq; cases hpq)
  all_goals try exact Reg.D.mv hB
  all_goals (refine Reg.D.cv hB ?_; go_simp; try (first | done | rfl | (exact C1.out) | (exact C2.out) | (have h1 := HK.out; have h2 := C1.out; have h3 := C2.out; simp at h2 h3 ⊢; omega) | (have h1 := HK.out; simp; omega)))
 intro ρ W6 S hB hft hap hΦ
 simp only [Reg.SV, Reg.SF, Nat.reduceAdd]
 have HX := HX.cl hB
 clear hΦ hft hap 
 go_upto_region 8 with (fail)
 try simp only [Reg.SF]
 refine Reg.det [Reg.k 18 (.bool c1), Reg.k 17 (.bool c1)] [] 25 rfl (by kernel_rfl) (by kernel_rfl) ?s16 ?_
 case s16 =>
  intro iq oq pq hiq hoq hpq ρ ev W S hE hO ec ef hB hft hΦ
  have e9 : ev (.tmp 9) = .int .i64 k := hO 9 rfl
  simp only [Reg.SV] at hE
  obtain ⟨e18, e17, _⟩ := hE
  rcases Reg.lt2 hiq with rfl | rfl
  all_goals (cases hoq; cases hpq)
  all_goals try exact Reg.D.mv hB
  all_goals (refine Reg.D.cv hB ?_; go_simp; try (first | done | rfl | (exact C1.out) | (exact C2.out) | (have h1 := HK.out; have h2 := C1.out; have h3 := C2.out; simp at h2 h3 ⊢; omega) | (have h1 := HK.out; simp; omega)))
 intro ρ W8 S hB hft hap hΦ
 simp only [Reg.SV, Reg.SF, Nat.reduceAdd]
 have HX := HX.cl hB
 clear hΦ hft hap 
 cases c1 with
 | true =>
  go_upto_region 11 with (fail)
  try simp only [Reg.SF]
  refine Reg.det [Reg.k 21 (.slice A0 n0 c0), Reg.k 22 (.agg #[.int .i64 k, .int .i64 a, .int .i64 s, .string sep, .slice A n4 c]), Reg.k 23 (.agg #[.int .i64 T0, .int .i64 T1, .bool T2, .bool true])] [] 25 rfl (by kernel_rfl) (by kernel_rfl) ?s17 ?_
  case s17 =>
   intro iq oq pq hiq hoq hpq ρ ev W S hE hO ec ef hB hft hΦ
   have e0 : ev (.tmp 0) = .slice A0 n0 c0 := hO 0 rfl
   have e3 : ev (.tmp 3) = .pointer (some ⟨g3, 0, none⟩) := hO 3 rfl
   have mg3_0 := HX.pc hB 1 0 (.int .i64 k) rfl rfl
   have mg3_1 := HX.pc hB 1 1 (.int .i64 a) rfl rfl
   have mg3_2 := HX.pc hB 1 2 (.int .i64 s) rfl rfl
   have mg3_3 := HX.pc hB 1 3 (.string sep) rfl rfl
   have mg3_4 := HX.pc hB 1 4 (.slice A n4 c) rfl rfl
   simp only [Reg.SV] at hE
   obtain ⟨e21, e22, e23, _⟩ := hE
   rcases Reg.lt3 hiq with rfl | rfl | rfl
   all_goals (cases hoq; cases hpq)
   rotate_left 2
   ·refine Reg.D.cc (g := 60) (args := #[.slice A0 n0 c0, .agg #[.int .i64 k, .int .i64 a, .int .i64 s, .string sep, .slice A n4 c]]) hB (by go_simp; try rfl) ?_
    exact HP.out W (yD HX.out.below hB)
   rotate_right 2
   all_goals try exact Reg.D.mv hB
   all_goals exact Reg.D.cx hB
  intro ρ W11 S hB hft hap hΦ
  simp only [Reg.SV, Reg.SF, Nat.reduceAdd]
  have HX := HX.cl hB
  clear hΦ hft hap 
  refine xG (w := w) rfl 85 (.tmp 4) (.tmp 23) rfl rfl (L1 := []) (cells := #[.int .i64 T0, .int .i64 T1, .bool T2, .bool true]) HX.out rfl rfl (by kernel_rfl) rfl rfl ?_
  intro Wp hx
  have HX := yC.mk hx
  clear hx
  go_wp2_with fail
  refine bodyPost_ret (results_cell_row rfl _ _ g4 85 #[.int .i64 T0, .int .i64 T1, .bool T2, .bool true] (0, 0) _ rfl (HX.out.at 0 rfl) hu rfl (by kernel_rfl)) rfl ?_
  exact ⟨rfl, HX.out.below⟩
 | false =>
  go_upto_region 9 with (fail)
  try simp only [Reg.SF]
  refine Reg.det [Reg.k 19 (.bool c2), Reg.k 17 (.bool c2)] [] 25 rfl (by kernel_rfl) (by kernel_rfl) ?s18 ?_
  case s18 =>
   intro iq oq pq hiq hoq hpq ρ ev W S hE hO ec ef hB hft hΦ
   have e9 : ev (.tmp 9) = .int .i64 k := hO 9 rfl
   simp only [Reg.SV] at hE
   obtain ⟨e19, e17, _⟩ := hE
   rcases Reg.lt2 hiq with rfl | rfl
   all_goals (cases hoq; cases hpq)
   all_goals try exact Reg.D.mv hB
   all_goals (refine Reg.D.cv hB ?_; go_simp; try (first | done | rfl | (exact C1.out) | (exact C2.out) | (have h1 := HK.out; have h2 := C1.out; have h3 := C2.out; simp at h2 h3 ⊢; omega) | (have h1 := HK.out; simp; omega)))
  intro ρ W9 S hB hft hap hΦ
  simp only [Reg.SV, Reg.SF, Nat.reduceAdd]
  have HX := HX.cl hB
  clear hΦ hft hap 
  cases c2 with
  | true =>
   go_upto_region 11 with (fail)
   try simp only [Reg.SF]
   refine Reg.det [Reg.k 21 (.slice A0 n0 c0), Reg.k 22 (.agg #[.int .i64 k, .int .i64 a, .int .i64 s, .string sep, .slice A n4 c]), Reg.k 23 (.agg #[.int .i64 T0, .int .i64 T1, .bool T2, .bool true])] [] 25 rfl (by kernel_rfl) (by kernel_rfl) ?s19 ?_
   case s19 =>
    intro iq oq pq hiq hoq hpq ρ ev W S hE hO ec ef hB hft hΦ
    have e0 : ev (.tmp 0) = .slice A0 n0 c0 := hO 0 rfl
    have e3 : ev (.tmp 3) = .pointer (some ⟨g3, 0, none⟩) := hO 3 rfl
    have mg3_0 := HX.pc hB 1 0 (.int .i64 k) rfl rfl
    have mg3_1 := HX.pc hB 1 1 (.int .i64 a) rfl rfl
    have mg3_2 := HX.pc hB 1 2 (.int .i64 s) rfl rfl
    have mg3_3 := HX.pc hB 1 3 (.string sep) rfl rfl
    have mg3_4 := HX.pc hB 1 4 (.slice A n4 c) rfl rfl
    simp only [Reg.SV] at hE
    obtain ⟨e21, e22, e23, _⟩ := hE
    rcases Reg.lt3 hiq with rfl | rfl | rfl
    all_goals (cases hoq; cases hpq)
    rotate_left 2
    ·refine Reg.D.cc (g := 60) (args := #[.slice A0 n0 c0, .agg #[.int .i64 k, .int .i64 a, .int .i64 s, .string sep, .slice A n4 c]]) hB (by go_simp; try rfl) ?_
     exact HP.out W (yD HX.out.below hB)
    rotate_right 2
    all_goals try exact Reg.D.mv hB
    all_goals exact Reg.D.cx hB
   intro ρ W11 S hB hft hap hΦ
   simp only [Reg.SV, Reg.SF, Nat.reduceAdd]
   have HX := HX.cl hB
   clear hΦ hft hap 
   refine xG (w := w) rfl 85 (.tmp 4) (.tmp 23) rfl rfl (L1 := []) (cells := #[.int .i64 T0, .int .i64 T1, .bool T2, .bool true]) HX.out rfl rfl (by kernel_rfl) rfl rfl ?_
   intro Wp hx
   have HX := yC.mk hx
   clear hx
   go_wp2_with fail
   refine bodyPost_ret (results_cell_row rfl _ _ g4 85 #[.int .i64 T0, .int .i64 T1, .bool T2, .bool true] (0, 0) _ rfl (HX.out.at 0 rfl) hu rfl (by kernel_rfl)) rfl ?_
   exact ⟨rfl, HX.out.below⟩
  | false =>
   go_upto_region 10 with (fail)
   try simp only [Reg.SF]
   refine Reg.det [Reg.k 20 (.bool true), Reg.k 17 (.bool true)] [] 25 rfl (by kernel_rfl) (by kernel_rfl) ?s20 ?_
   case s20 =>
    intro iq oq pq hiq hoq hpq ρ ev W S hE hO ec ef hB hft hΦ
    have e9 : ev (.tmp 9) = .int .i64 k := hO 9 rfl
    simp only [Reg.SV] at hE
    obtain ⟨e20, e17, _⟩ := hE
    rcases Reg.lt2 hiq with rfl | rfl
    all_goals (cases hoq; cases hpq)
    all_goals try exact Reg.D.mv hB
    all_goals (refine Reg.D.cv hB ?_; go_simp; try (first | done | rfl | (exact C1.out) | (exact C2.out) | (have h1 := HK.out; have h2 := C1.out; have h3 := C2.out; simp at h2 h3 ⊢; omega) | (have h1 := HK.out; simp; omega)))
   intro ρ W10 S hB hft hap hΦ
   simp only [Reg.SV, Reg.SF, Nat.reduceAdd]
   have HX := HX.cl hB
   clear hΦ hft hap 
   go_upto_region 11 with (fail)
   try simp only [Reg.SF]
   refine Reg.det [Reg.k 21 (.slice A0 n0 c0), Reg.k 22 (.agg #[.int .i64 k, .int .i64 a, .int .i64 s, .string sep, .slice A n4 c]), Reg.k 23 (.agg #[.int .i64 T0, .int .i64 T1, .bool T2, .bool true])] [] 25 rfl (by kernel_rfl) (by kernel_rfl) ?s21 ?_
   case s21 =>
    intro iq oq pq hiq hoq hpq ρ ev W S hE hO ec ef hB hft hΦ
    have e0 : ev (.tmp 0) = .slice A0 n0 c0 := hO 0 rfl
    have e3 : ev (.tmp 3) = .pointer (some ⟨g3, 0, none⟩) := hO 3 rfl
    have mg3_0 := HX.pc hB 1 0 (.int .i64 k) rfl rfl
    have mg3_1 := HX.pc hB 1 1 (.int .i64 a) rfl rfl
    have mg3_2 := HX.pc hB 1 2 (.int .i64 s) rfl rfl
    have mg3_3 := HX.pc hB 1 3 (.string sep) rfl rfl
    have mg3_4 := HX.pc hB 1 4 (.slice A n4 c) rfl rfl
    simp only [Reg.SV] at hE
    obtain ⟨e21, e22, e23, _⟩ := hE
    rcases Reg.lt3 hiq with rfl | rfl | rfl
    all_goals (cases hoq; cases hpq)
    rotate_left 2
    ·refine Reg.D.cc (g := 60) (args := #[.slice A0 n0 c0, .agg #[.int .i64 k, .int .i64 a, .int .i64 s, .string sep, .slice A n4 c]]) hB (by go_simp; try rfl) ?_
     exact HP.out W (yD HX.out.below hB)
    rotate_right 2
    all_goals try exact Reg.D.mv hB
    all_goals exact Reg.D.cx hB
   intro ρ W11 S hB hft hap hΦ
   simp only [Reg.SV, Reg.SF, Nat.reduceAdd]
   have HX := HX.cl hB
   clear hΦ hft hap 
   refine xG (w := w) rfl 85 (.tmp 4) (.tmp 23) rfl rfl (L1 := []) (cells := #[.int .i64 T0, .int .i64 T1, .bool T2, .bool true]) HX.out rfl rfl (by kernel_rfl) rfl rfl ?_
   intro Wp hx
   have HX := yC.mk hx
   clear hx
   go_wp2_with fail
   refine bodyPost_ret (results_cell_row rfl _ _ g4 85 #[.int .i64 T0, .int .i64 T1, .bool T2, .bool true] (0, 0) _ rfl (HX.out.at 0 rfl) hu rfl (by kernel_rfl)) rfl ?_
   exact ⟨rfl, HX.out.below⟩
end
end Go.Proofs.YtmebkjdknhknbaaGreatDoor.H
