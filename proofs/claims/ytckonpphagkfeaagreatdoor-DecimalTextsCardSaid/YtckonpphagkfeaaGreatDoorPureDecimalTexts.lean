/- The plain law of texts. -/
import Derived.Test.YtckonpphagkfeaaGreatDoorRx2
import Derived.Test.YtckonpphagkfeaaGreatDoorPText
import Derived.Test.YtckonpphagkfeaaGreatDoorPRound
set_option linter.unusedVariables false
set_option linter.unusedSimpArgs false
namespace Go.Proofs.YtckonpphagkfeaaGreatDoor.Pure
open Go.RowKit Go.Proofs.YtckonpphagkfeaaGreatDoor.R Go.Proofs.YtckonpphagkfeaaGreatDoor.Q Go.Proofs.YtckonpphagkfeaaGreatDoor.H

theorem nat_small {a : Int} (h0 : -9223372036854775808 ≤ a) (h1 : a ≤ 9223372036854775807) : a.natAbs < 10 ^ 20 := by
  have : a.natAbs ≤ 9223372036854775808 := by omega
  exact Nat.lt_of_le_of_lt this (by decide)
theorem text_f {a : Int} (h0 : -9223372036854775808 ≤ a) (h1 : a ≤ 9223372036854775807) : decimal_Text.f a = some ⟨(textL a).toArray⟩ := by
  unfold decimal_Text.f
  rw [if_pos ⟨h0, h1⟩]
theorem parsed_f {s : ByteArray} (k : Int) (h : s.size < 4294967281) : chapmanlaw02_parsed.f s k = some (parseR s.data.toList k) := by
  unfold chapmanlaw02_parsed.f decimal_Parse.f
  rw [if_pos h]
  rfl
theorem fits_f (n : Int) (k : Nat) (hk : k < 7) : decimal_Fits.f n (k : Int) = some (Int.tmod n (stepOf (k : Int)) == 0) := by
  unfold decimal_Fits.f
  rw [if_pos (by omega)]
theorem valid_f (n : Int) : decimal_Valid.f n = some (okN n) := by
  unfold decimal_Valid.f okN
  split
  · rename_i h
    rw [decide_eq_true h, Bool.true_and]
  · rename_i h
    rw [decide_eq_false h, Bool.false_and]

/-- What a parsed string is. -/
theorem parse_cases (l : List UInt8) (k : Nat) (hk : k < 7) : (∃ n, parseR l (k : Int) = (n, 0)) ∨ (∃ e, parseR l (k : Int) = (0, e) ∧ e ≠ 0) := by
  unfold parseR
  rw [if_pos (by omega)]
  unfold parseTail
  split
  · exact .inr ⟨5, rfl, by decide⟩
  · split
    · exact .inr ⟨5, rfl, by decide⟩
    · split
      · exact .inr ⟨2, rfl, by decide⟩
      · exact .inl ⟨_, rfl⟩

theorem texts_step (j : Nat) (a b : Int) (s : ByteArray) (h0 : -9223372036854775808 ≤ a) (h1 : a ≤ 9223372036854775807) (hs : s.size ≤ 40) (k : Nat) (hk : k < 7)
    (ht : chapmanlaw02_DecimalTexts.l0 j a b s true ⟨(textL a).toArray⟩ ((k + 1 : Nat) : Int) = some true) :
    chapmanlaw02_DecimalTexts.l0 (j + 2) a b s true ⟨(textL a).toArray⟩ (k : Int) = some true := by
  have hsm := nat_small h0 h1
  have hw : wrap64 ((k : Int) + 1) = ((k + 1 : Nat) : Int) := by rw [wrap64_id _ (by omega)]; rfl
  have hlen := textL_len a
  have hsz : (⟨(textL a).toArray⟩ : ByteArray).size < 4294967281 := by
    show (textL a).toArray.size < _
    rw [List.size_toArray]
    omega
  simp only [chapmanlaw02_DecimalTexts.l0, chapmanlaw02_DecimalTexts.j2]
  rw [if_pos (by omega), parsed_f _ hsz, parsed_f _ (by omega)]
  simp only [Option.bind_some]
  have hp := parse_textL a hsm k hk
  generalize hP : parseR (textL a) (k : Int) = p at hp
  rw [fits_f a k hk, fits_iff a hsm k hk, hw]
  simp only [Option.bind_some, valid_f]
  have hq : ∀ (x y : Int) (z : Int) (e : Int), x = z → y = e →
      (if (!(x == z) || !(y == e)) = true then some false else
        if (parseR s.data.toList (k : Int)).2 = 0 then
          (decimal_Text.f (parseR s.data.toList (k : Int)).1).bind fun t113 => if t113.toList = s.toList then (decimal_Fits.f (parseR s.data.toList (k : Int)).1 (k : Int)).bind fun t114 => if t114 = true then if okN (parseR s.data.toList (k : Int)).1 = true then chapmanlaw02_DecimalTexts.l0 j a b s true ⟨(textL a).toArray⟩ ((k + 1 : Nat) : Int) else some false else some false else some false
        else if (parseR s.data.toList (k : Int)).1 = 0 then chapmanlaw02_DecimalTexts.l0 j a b s true ⟨(textL a).toArray⟩ ((k + 1 : Nat) : Int) else some false) = some true := by
    intro x y z e hx hy
    subst hx
    subst hy
    rw [if_neg (by simp)]
    rcases parse_cases s.data.toList k hk with ⟨n, hn⟩ | ⟨e, he, hne⟩
    · obtain ⟨t1, t2, t3, t4⟩ := textL_back hk hn
      rw [hn]
      simp only [if_true]
      rw [text_f (by omega) (by omega), fits_f n k hk, fits_iff n (nat_small (by omega) (by omega)) k hk, decide_eq_true t2, okN_true t3 t4]
      simp only [Option.bind_some, if_true]
      rw [if_pos, ht]
      rw [Lib.toList_data, Lib.toList_data, t1]
    · rw [he]
      simp only [if_true]
      rw [if_neg hne]
      exact ht
  obtain ⟨p1, p2⟩ := p
  by_cases hl : (partB a).length ≤ k
  · rw [if_pos hl] at hp
    rw [decide_eq_true hl, if_pos (rfl : true = true)]
    by_cases hv : okN a = true
    · have hb := okN_yes hv
      rw [if_neg (by omega)] at hp
      rw [if_pos hv]
      exact hq p1 p2 a 0 (congrArg Prod.fst hp) (congrArg Prod.snd hp)
    · have hb := okN_no (by simpa using hv)
      rw [if_pos (by omega)] at hp
      rw [if_neg hv]
      exact hq p1 p2 0 2 (congrArg Prod.fst hp) (congrArg Prod.snd hp)
  · rw [if_neg hl] at hp
    rw [decide_eq_false hl, if_neg Bool.false_ne_true]
    exact hq p1 p2 0 5 (congrArg Prod.fst hp) (congrArg Prod.snd hp)

theorem texts_end (j : Nat) (a b : Int) (s : ByteArray) (h0 : -9223372036854775808 ≤ a) (h1 : a ≤ 9223372036854775807) (h2 : -9223372036854775808 ≤ b) (h3 : b ≤ 9223372036854775807) :
    chapmanlaw02_DecimalTexts.l0 (j + 1) a b s true ⟨(textL a).toArray⟩ 7 = some true := by
  simp only [chapmanlaw02_DecimalTexts.l0]
  rw [if_neg (by decide), text_f h2 h3]
  simp only [Option.bind_some]
  rw [if_pos]
  rw [Lib.toList_data, Lib.toList_data]
  by_cases h : a = b
  · subst h
    simp
  · have hne : textL a ≠ textL b := fun e => h (textL_inj (nat_small h0 h1) (nat_small h2 h3) e)
    have e1 : (a == b) = false := by simpa using h
    rw [e1]
    simpa using hne

theorem DecimalTexts : chapmanlaw02_DecimalTexts.Pure := by
  intro a b s wa wb hs
  have ha : -9223372036854775808 ≤ a ∧ a ≤ 9223372036854775807 := by simpa [Lit.wf, IntKind.min, IntKind.max, IntKind.signed, IntKind.bits] using wa
  have hb : -9223372036854775808 ≤ b ∧ b ≤ 9223372036854775807 := by simpa [Lit.wf, IntKind.min, IntKind.max, IntKind.signed, IntKind.bits] using wb
  refine ⟨16, ?_⟩
  simp only [chapmanlaw02_DecimalTexts.f, chapmanlaw02_examples.f, Option.bind_some, if_true, chapmanlaw02_DecimalTexts.j0]
  by_cases h40 : (s.size : Int) > 40
  · rw [decide_eq_true h40, if_pos rfl]
  · rw [decide_eq_false h40, if_neg (by decide), text_f ha.1 ha.2]
    simp only [Option.bind_some]
    have hs' : s.size ≤ 40 := by omega
    have e7 := texts_end 0 a b s ha.1 ha.2 hb.1 hb.2
    have e6 := texts_step 1 a b s ha.1 ha.2 hs' 6 (by decide) e7
    have e5 := texts_step 3 a b s ha.1 ha.2 hs' 5 (by decide) e6
    have e4 := texts_step 5 a b s ha.1 ha.2 hs' 4 (by decide) e5
    have e3 := texts_step 7 a b s ha.1 ha.2 hs' 3 (by decide) e4
    have e2 := texts_step 9 a b s ha.1 ha.2 hs' 2 (by decide) e3
    have e1 := texts_step 11 a b s ha.1 ha.2 hs' 1 (by decide) e2
    exact texts_step 13 a b s ha.1 ha.2 hs' 0 (by decide) e1
end Go.Proofs.YtckonpphagkfeaaGreatDoor.Pure
