/- decimal.Text as a Lean function on bytes, with the contract of its call. -/
import Derived.Test.YtckonpphagkfeaaGreatDoorHParse
namespace Go.Proofs.YtckonpphagkfeaaGreatDoor.H
open Go.RowKit Go.Proofs.YtckonpphagkfeaaGreatDoorW.PrintWords
set_option linter.unusedVariables false
set_option linter.unusedSimpArgs false

/-- The digits of a number, at least seven. -/
def padB (n : Int) : List UInt8 := Lib.repeatL [48] (7 - (dec 20 n.natAbs).length) ++ dec 20 n.natAbs
def wholeB (n : Int) : List UInt8 := (padB n).take ((padB n).length - 6)
def partB (n : Int) : List UInt8 := Lib.trimRightB ((padB n).drop ((padB n).length - 6)) 48
def signB (n : Int) : List UInt8 := if n < 0 then [45] else []
/-- The text of a number. -/
def textL (n : Int) : List UInt8 := signB n ++ wholeB n ++ (if partB n = [] then [] else 46 :: partB n)

theorem itoa_sign (n : Int) : itoa n = signB n ++ dec 20 n.natAbs := by
  unfold itoa signB
  by_cases h : n < 0
  · rw [if_pos h, if_pos h]; rfl
  · rw [if_neg h, if_neg h]
    have : n.toNat = n.natAbs := by omega
    rw [this]; rfl
theorem dec_len : ∀ (k u : Nat), (dec k u).length ≤ k
  | 0, u => Nat.le_refl _
  | k + 1, u => by
    unfold dec
    split
    · simp
    · have := dec_len k (u / 10)
      simp only [List.length_append, List.length_cons, List.length_nil]
      omega
theorem dropWhile_len (p : UInt8 → Bool) (l : List UInt8) : (l.dropWhile p).length ≤ l.length := by
  induction l with
  | nil => exact Nat.le_refl _
  | cons x l ih =>
    rw [List.dropWhile_cons]
    split
    · exact Nat.le_succ_of_le ih
    · exact Nat.le_refl _
theorem padB_len (n : Int) : 7 ≤ (padB n).length ∧ (padB n).length ≤ 20 := by
  have := dec_len 20 n.natAbs
  unfold padB
  rw [List.length_append, Lib.repeatL_length]
  simp only [List.length_cons, List.length_nil]
  omega

theorem ba_extract (l : List UInt8) (a b : Nat) : (⟨l.toArray⟩ : ByteArray).extract a b = ⟨((l.drop a).take (b - a)).toArray⟩ := by
  have h := Lib.extract_toList ⟨l.toArray⟩ a b
  refine ByteArray.ext ?_
  rw [ByteArray.extract_mk]
  first | done | simp

theorem ba_append (a b : List UInt8) : (⟨a.toArray⟩ : ByteArray) ++ ⟨b.toArray⟩ = ⟨(a ++ b).toArray⟩ := by
  refine ByteArray.ext ?_
  simp
theorem ret_str {a b : ByteArray} (h : a = b) : Ending.returned (.string a) = .returned (.string b) := by rw [h]

set_option maxHeartbeats 1000000 in
theorem text_calls (n : Int) (w : World) (hgl : Gl w) (h0 : -9223372036854775808 ≤ n) (h1 : n ≤ 9223372036854775807) :
    Calls Tryz.prog 23 #[.int .i64 n] w fun e w' => e = .returned (.string ⟨(textL n).toArray⟩) ∧ Below w.heap.size w w' := by
  have hI : ∀ W, Gl W → Calls Tryz.prog 43 #[.int .i64 n] W fun e w' => e = .returned (.string ⟨(signB n ++ dec 20 n.natAbs).toArray⟩) ∧ Below W.heap.size W w' := fun W hW => by
    have := strconv_Itoa.calls n ⟨(itoa n).toArray⟩ W hW (by unfold strconv_Itoa.f; rw [if_pos ⟨h0, h1⟩])
    rw [itoa_sign] at this
    exact this
  have HI := Lib.hid hI
  obtain ⟨hp1, hp2⟩ := padB_len n
  have hdl := dec_len 20 n.natAbs
  have hpad : padB n = Lib.repeatL [48] (7 - (dec 20 n.natAbs).length) ++ dec 20 n.natAbs := rfl
  have htx : textL n = signB n ++ (padB n).take ((padB n).length - 6) ++ (if partB n = [] then [] else 46 :: partB n) := rfl
  have hpt : ∀ W, Calls Tryz.prog 45 #[.string ⟨((padB n).drop ((padB n).length - 6)).toArray⟩, .string ⟨#[48]⟩] W fun e w' => e = .returned (.string ⟨(partB n).toArray⟩) ∧ w' = W := fun W =>
    Tryz.strings_TrimRight_one ⟨((padB n).drop ((padB n).length - 6)).toArray⟩ 48 (by decide) W (show ((padB n).drop ((padB n).length - 6)).length ≤ _ by rw [List.length_drop]; omega)
  have hpl : (partB n).length ≤ 20 := by
    unfold partB Lib.trimRightB
    rw [List.length_reverse]
    have := dropWhile_len (· == (48 : UInt8)) ((padB n).drop ((padB n).length - 6)).reverse
    rw [List.length_reverse, List.length_drop] at this
    omega
  have HT := Lib.hid htx
  have HP := Lib.hid hpt
  clear hI htx hpt
  generalize partB n = pt at *
  generalize padB n = pd at *
  generalize dec 20 n.natAbs = ds at *
  have hsg : (n < 0 ∧ signB n = [45]) ∨ (¬ n < 0 ∧ signB n = []) := by
    unfold signB
    by_cases h : n < 0
    · exact Or.inl ⟨h, if_pos h⟩
    · exact Or.inr ⟨h, if_neg h⟩
  generalize signB n = sg at *
  generalize textL n = tx at *
  have HPad := Lib.hid hpad
  clear hpad
  go_enter Tryz.func23, Tryz.ntmps23
  go_wp2_with fail
  refine (HI.out _ hgl).mono ?_
  rintro e w1 ⟨rfl, hb1⟩
  go_upto_if 11 with (fail)
  go_cut [3, 4] (fun s3 s4 wx => s3 = .string ⟨ds.toArray⟩ ∧ s4 = .string ⟨sg.toArray⟩ ∧ Below w.heap.size w wx)
  case first =>
    rcases hsg with ⟨hn, rfl⟩ | ⟨hn, rfl⟩
    · have hx := ba_extract (45 :: ds) 1 (ds.length + 1)
      go_wp2_with fail
      go_quiet (fail)
      go_wp2_with fail
      go_meet
      exact ⟨rfl, rfl, pw_below_drewN hb1 _⟩
    · go_wp2_with fail
      go_meet
      exact ⟨rfl, rfl, hb1⟩
  case rest =>
    obtain ⟨rfl, rfl, hb⟩ := hcut
    clear hb1 HI
    go_upto_if 18 with (fail)
    go_cut [3] (fun s3 wx => s3 = .string ⟨pd.toArray⟩ ∧ Below w.heap.size w wx)
    case first =>
      by_cases hl : ds.length < 7
      · have hrep : ∀ W0 : World, Calls Tryz.prog 44 #[.string ⟨#[48]⟩, .int .i64 (7 - (ds.length : Int))] W0 fun e w' => e = .returned (.string ⟨(Lib.repeatL [48] (7 - ds.length)).toArray⟩) ∧ Below W0.heap.size W0 w' := fun W0 => by
          rw [show (7 - (ds.length : Int)) = ((7 - ds.length : Nat) : Int) by omega]
          exact Tryz.strings_Repeat ⟨#[48]⟩ (7 - ds.length) W0 (by omega) (by show 1 * (7 - ds.length) ≤ _; omega)
        have HRep := Lib.hid hrep
        have hrl : (Lib.repeatL [48] (7 - ds.length)).length ≤ 7 := by rw [Lib.repeatL_length]; simp
        clear hrep
        go_wp2_with fail
        refine (HRep.out _).mono ?_
        rintro e w2 ⟨rfl, hb2⟩
        go_wp2_with fail
        go_meet
        exact ⟨by rw [HPad.out]; rfl, below_step hb hb2⟩
      · have e0 : 7 - ds.length = 0 := by omega
        have hpd : Aside0 (pd = ds) := ⟨by rw [HPad.out, e0]; rfl⟩
        clear e0
        go_wp2_with fail
        go_meet
        exact ⟨by rw [hpd.out], hb⟩
    case rest =>
      obtain ⟨rfl, hb2⟩ := hcut
      clear hb HPad hdl hgl
      have hxa : (⟨pd.toArray⟩ : ByteArray).extract 0 (pd.length - 6) = ⟨(pd.take (pd.length - 6)).toArray⟩ := by rw [ba_extract]; simp
      have hxb : (⟨pd.toArray⟩ : ByteArray).extract (pd.length - 6) pd.length = ⟨(pd.drop (pd.length - 6)).toArray⟩ := by rw [ba_extract, List.take_of_length_le (by rw [List.length_drop]; omega)]
      go_wp2_with fail
      go_quiet ((go_at_call 45; exact Calls.quiet_of_same (HP.out _)))
      have hsl : sg.length ≤ 1 := by rcases hsg with ⟨_, rfl⟩ | ⟨_, rfl⟩ <;> decide
      clear hsg
      cases pt with
      | nil =>
        go_wp2_with fail
        go_ret
        exact ⟨ret_str (by rw [ba_append, HT.out]; simp), pw_below_drewN hb2 _⟩
      | cons c t =>
        have htl : t.length ≤ 19 := by simp only [List.length_cons] at hpl; omega
        go_wp2_with fail
        go_ret
        exact ⟨ret_str (by rw [ba_append, HT.out]; show (⟨(sg ++ List.take (pd.length - 6) pd).toArray⟩ : ByteArray) ++ ⟨[46].toArray⟩ ++ ⟨(c :: t).toArray⟩ = _; rw [ba_append, ba_append]; simp), pw_below_drewN hb2 _⟩

def decimal_Text.f (a0 : Int) : Option ByteArray := if -9223372036854775808 ≤ a0 ∧ a0 ≤ 9223372036854775807 then some ⟨(textL a0).toArray⟩ else none
theorem decimal_Text.calls (a0 : Int) (r : ByteArray) (w : World) (hgl : Gl w) (h : decimal_Text.f a0 = some r) :
    Calls Tryz.prog 23 #[.int .i64 a0] w fun e w' => e = .returned (.string r) ∧ Below w.heap.size w w' := by
  unfold decimal_Text.f at h
  split at h
  · rename_i hb
    obtain rfl := Option.some.inj h
    exact text_calls a0 w hgl hb.1 hb.2
  · cases h
end Go.Proofs.YtckonpphagkfeaaGreatDoor.H
