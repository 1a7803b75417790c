/- Plain facts on digits: what a numeral is, its value, what strconv.Atoi makes of it, what is left when digits are trimmed. -/
import Derived.Lib.AtoiAll
import Derived.Lib.SlTrimSet
import Derived.Lib.Repeat
import Derived.Lib.IndexMore
import Derived.Lib.Strings
set_option linter.unusedVariables false
set_option linter.unusedSimpArgs false
namespace Go.Proofs.YtckonpphagkfeaaGreatDoor.H

def isDig (c : UInt8) : Bool := decide (48 ≤ c.toNat) && decide (c.toNat ≤ 57)
/-- Decimal digits, at least one. -/
def numB (l : List UInt8) : Bool := !l.isEmpty && l.all isDig
/-- A digit's value. -/
@[irreducible] def digV (c : UInt8) : Nat := c.toNat - 48
theorem digV_eq (c : UInt8) : digV c = c.toNat - 48 := by unfold digV; rfl
def valFrom : Nat → List UInt8 → Nat
  | a, [] => a
  | a, c :: r => valFrom (10 * a + digV c) r
/-- The value of decimal digits. -/
def valB (l : List UInt8) : Nat := valFrom 0 l

theorem valFrom_cons (a : Nat) (c : UInt8) (r : List UInt8) : valFrom a (c :: r) = valFrom (10 * a + digV c) r := rfl
theorem valFrom_ge (l : List UInt8) : ∀ a, a ≤ valFrom a l := by
  induction l with
  | nil => intro a; exact Nat.le_refl _
  | cons c r ih =>
    intro a
    have := ih (10 * a + digV c)
    rw [valFrom_cons]
    omega
theorem valFrom_append (l m : List UInt8) : ∀ a, valFrom a (l ++ m) = valFrom (valFrom a l) m := by
  induction l with
  | nil => intro a; rfl
  | cons c r ih => intro a; rw [List.cons_append, valFrom_cons, valFrom_cons, ih]
theorem valFrom_lin (l : List UInt8) : ∀ a, valFrom a l = a * 10 ^ l.length + valFrom 0 l := by
  induction l with
  | nil => intro a; simp [valFrom]
  | cons c r ih =>
    intro a
    rw [valFrom_cons, valFrom_cons, ih (10 * a + digV c), ih (10 * 0 + digV c), List.length_cons, Nat.pow_succ]
    generalize 10 ^ r.length = p
    generalize digV c = d
    generalize valFrom 0 r = v
    rw [Nat.add_mul, Nat.mul_zero, Nat.zero_add, Nat.add_assoc, Nat.mul_comm 10 a, Nat.mul_assoc, Nat.mul_comm 10 p]
theorem valB_lt : ∀ (l : List UInt8), l.all isDig = true → valB l < 10 ^ l.length
  | [], _ => by simp [valB, valFrom]
  | c :: r, h => by
    simp only [List.all_cons, Bool.and_eq_true] at h
    have hc := h.1
    simp only [isDig, Bool.and_eq_true, decide_eq_true_eq] at hc
    have ih := valB_lt r h.2
    unfold valB at ih ⊢
    rw [valFrom_cons, List.length_cons, valFrom_lin r, Nat.pow_succ]
    have h9 : (10 * 0 + digV c) ≤ 9 := by rw [digV_eq]; omega
    generalize 10 * 0 + digV c = d at *
    generalize 10 ^ r.length = p at *
    have : d * p ≤ 9 * p := Nat.mul_le_mul_right _ h9
    omega

theorem parse_digits : ∀ (l : List UInt8) (a : Nat), l.all isDig = true → a < 18446744073709551616 → Lib.parseUint10 a l = if valFrom a l < 18446744073709551616 then .ok (valFrom a l) else .range
  | [], a, _, ha => by
    have e : valFrom a [] = a := rfl
    rw [e, if_pos ha]
    rfl
  | c :: r, a, h, ha => by
    simp only [List.all_cons, Bool.and_eq_true] at h
    have hc := h.1
    simp only [isDig, Bool.and_eq_true, decide_eq_true_eq] at hc
    have hg := valFrom_ge r (10 * a + digV c)
    have hd := digV_eq c
    rw [valFrom_cons]
    simp only [Lib.parseUint10]
    rw [if_pos hc, ← hd]
    by_cases h1 : 1844674407370955162 ≤ a
    · rw [if_pos h1, if_neg (by omega)]
    · rw [if_neg h1]
      by_cases h2 : 18446744073709551616 ≤ a * 10 + digV c
      · rw [if_pos h2, if_neg (by omega)]
      · rw [if_neg h2, parse_digits r _ h.2 (by omega)]
        have e : a * 10 + digV c = 10 * a + digV c := by omega
        rw [e]

theorem atoi_digits (l : List UInt8) (h : numB l = true) : Lib.atoiAll l = if valB l < 9223372036854775808 then .ok (valB l : Int) else .range := by
  cases l with
  | nil => simp [numB] at h
  | cons c r =>
    simp only [numB, Bool.and_eq_true] at h
    have hall := h.2
    have hc := h.2
    simp only [List.all_cons, Bool.and_eq_true, isDig, decide_eq_true_eq] at hc
    have h43 : ¬ (c.toNat = 43 ∨ c.toNat = 45) := by omega
    have h45 : ¬ c.toNat = 45 := by omega
    have hp := parse_digits (c :: r) 0 hall (by omega)
    unfold Lib.atoiAll
    simp only [if_neg h43, Lib.parseMag, if_neg (List.cons_ne_nil c r), hp]
    change (match (if valB (c :: r) < 18446744073709551616 then Lib.NumEnd.ok (valB (c :: r)) else Lib.NumEnd.range) with
      | .syntax => Lib.NumEnd.syntax
      | .range => Lib.NumEnd.range
      | .ok u => if ¬ c.toNat = 45 ∧ 9223372036854775808 ≤ u then .range else if c.toNat = 45 ∧ 9223372036854775808 < u then .range else .ok (if c.toNat = 45 then -(u : Int) else u)) = _
    by_cases h1 : valB (c :: r) < 18446744073709551616
    · rw [if_pos h1]
      dsimp only
      by_cases h2 : valB (c :: r) < 9223372036854775808
      · rw [if_neg (by omega), if_neg (by omega), if_neg h45, if_pos h2]
      · rw [if_pos ⟨h45, by omega⟩, if_neg h2]
    · rw [if_neg h1, if_neg (by omega)]

def tens : List UInt8 := [48, 49, 50, 51, 52, 53, 54, 55, 56, 57]
theorem tens_has (c : UInt8) : tens.contains c = isDig c := by
  have : ∀ i : Fin 256, tens.contains (UInt8.ofNat i.val) = isDig (UInt8.ofNat i.val) := by decide +kernel
  have h := this ⟨c.toNat, c.toNat_lt⟩
  simpa using h

theorem dropWhile_nil {α : Type} (p : α → Bool) : ∀ l : List α, (l.dropWhile p).isEmpty = l.all p
  | [] => rfl
  | x :: l => by
    cases h : p x
    · simp [List.dropWhile_cons, h]
    · simp [List.dropWhile_cons, h, dropWhile_nil p l]

theorem trim_digits (l : List UInt8) : (Lib.trimS l tens).isEmpty = l.all isDig := by
  unfold Lib.trimS Lib.trimLeftS Lib.trimRightS
  rw [dropWhile_nil]
  have e : (fun x => tens.contains x) = isDig := funext tens_has
  rw [e, List.all_reverse]
  have key : ∀ m : List UInt8, (m.dropWhile isDig).all isDig = m.all isDig := by
    intro m
    induction m with
    | nil => rfl
    | cons x m ih =>
      cases h : isDig x
      · simp [List.dropWhile_cons, h]
      · simp [List.dropWhile_cons, h, ih]
  rw [key, List.all_reverse]
end Go.Proofs.YtckonpphagkfeaaGreatDoor.H
