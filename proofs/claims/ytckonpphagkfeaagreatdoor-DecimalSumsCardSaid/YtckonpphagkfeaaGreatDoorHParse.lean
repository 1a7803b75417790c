/- decimal.Parse as a Lean function on bytes, with the contract of its call. -/
import Derived.Test.YtckonpphagkfeaaGreatDoorHTab
import Derived.Test.YtckonpphagkfeaaGreatDoorPNum
import Derived.Shelf.Strings.SlTrimAscii
import Derived.Lib.AtoiErrMem
import Derived.Outline
import Derived.Deep.DeepCutAuto
import Derived.Deep.CutBlock
namespace Go.Proofs.YtckonpphagkfeaaGreatDoor.H
open Go.RowKit Go.Proofs.YtckonpphagkfeaaGreatDoorW.PrintWords
set_option linter.unusedVariables false
set_option linter.unusedSimpArgs false

theorem h116 : (Tryz.prog.info? (Tryz.lays160_ren.t 116)).map (fun i => (i.zero, i.size)) = some (some (.agg (Array.replicate 256 (.bool false))), 256) := by kernel_rfl

theorem trim_calls (s : ByteArray) (w : World) (hs : s.size ≤ 9223372036854775807) :
    Calls Tryz.prog 88 #[.string s, .string ⟨#[48, 49, 50, 51, 52, 53, 54, 55, 56, 57]⟩] w fun e w' => e = .returned (.string ⟨(Lib.trimS s.data.toList tens).toArray⟩) ∧ Below w.heap.size w w' :=
  Any.strings_Trim_laid Tryz.lays160 h116 s ⟨#[48, 49, 50, 51, 52, 53, 54, 55, 56, 57]⟩ w hs (by decide) (ascii_of_all (by decide))

set_option maxHeartbeats 400000 in
theorem numeral_calls (l : List UInt8) (w : World) (hs : l.length ≤ 9223372036854775807) :
    Calls Tryz.prog 71 #[.string ⟨l.toArray⟩] w fun e w' => e = .returned (.bool (numB l)) ∧ Below w.heap.size w w' := by
  have ht := fun W => trim_calls ⟨l.toArray⟩ W hs
  have hv := trim_digits l
  change ∀ W, Calls Tryz.prog 88 #[.string ⟨l.toArray⟩, .string ⟨#[48, 49, 50, 51, 52, 53, 54, 55, 56, 57]⟩] W fun e w' => e = .returned (.string ⟨(Lib.trimS l tens).toArray⟩) ∧ Below W.heap.size W w' at ht
  generalize Lib.trimS l tens = r at *
  have HT := Lib.hid ht
  clear ht
  cases l with
  | nil =>
    go_enter Tryz.func71, Tryz.ntmps71
    go_wp2_with fail
    go_ret
    exact ⟨rfl, Below.refl _ _⟩
  | cons c t =>
    have hn : numB (c :: t) = (c :: t).all isDig := rfl
    rw [hn, ← hv]
    clear hn hv hs
    go_enter Tryz.func71, Tryz.ntmps71
    go_wp2_with fail
    refine (HT.out _).mono ?_
    rintro e w1 ⟨rfl, hb⟩
    cases r with
    | nil =>
      go_wp2_with fail
      go_ret
      exact ⟨rfl, hb⟩
    | cons d u =>
      go_wp2_with fail
      go_ret
      exact ⟨rfl, hb⟩

theorem cut_len (l sep : List UInt8) : (Lib.cut l sep).1.length ≤ l.length ∧ (Lib.cut l sep).2.1.length ≤ l.length := by
  unfold Lib.cut
  split
  · exact ⟨by simp only [List.length_take]; omega, by simp only [List.length_drop]; omega⟩
  · exact ⟨Nat.le_refl _, Nat.zero_le _⟩
theorem trimPrefix_len (l p : List UInt8) : (Lib.trimPrefix l p).length ≤ l.length := by
  unfold Lib.trimPrefix
  split
  · rw [List.length_drop]; omega
  · exact Nat.le_refl _

/-- Is the part ahead of the point, or the sign, out of form? -/
def bad1 (W S1 : List UInt8) (mn : Bool) : Bool := !numB W || (!(W == [48]) && W.head? == some 48) || (S1 == [48] && mn)
/-- Is the part behind the point out of form? -/
def bad2 (Pt : List UInt8) (pt : Bool) (k : Nat) : Bool := pt && (!numB Pt || decide (k < Pt.length) || Lib.hasSuffix Pt [48])

theorem byte_head (c : UInt8) (t : List UInt8) : ((c :: t).head? == some 48) = (c.toNat == 48) := by
  rw [Bool.eq_iff_iff]
  simp only [List.head?_cons, beq_iff_eq, Option.some.injEq]
  constructor
  · rintro rfl; rfl
  · intro h; exact UInt8.toNat_inj.mp h

set_option maxHeartbeats 1000000 in
theorem parse_tail (W Pt S1 : List UInt8) (mn pt : Bool) (s : ByteArray) (k : Nat) (hk : k < 7) (w : World) (hgl : Gl w) (r : Int × Int)
    (hC1 : ∀ w, Calls Tryz.prog 69 #[.string s, .string ⟨#[45]⟩] w fun e w' => e = .returned (.tuple #[.string ⟨S1.toArray⟩, .bool mn]) ∧ w' = w)
    (hC2 : ∀ (w : World) {m : Int}, w.cell? ⟨4, 0, none⟩ = some (.int .i64 m) → Calls Tryz.prog 70 #[.string ⟨S1.toArray⟩, .string ⟨#[46]⟩] w fun e w' => e = .returned (.tuple #[.string ⟨W.toArray⟩, .string ⟨Pt.toArray⟩, .bool pt]) ∧ ∃ n, w' = w.drewN n)
    (hp0 : pt = false → Pt = []) (hS : S1.length < 4294967281) (hW : W.length < 4294967281) (hP : Pt.length < 4294967281)
    (hr : r = if bad1 W S1 mn = true then (0, 5) else if bad2 Pt pt k = true then (0, 5)
      else if 1000000000000000 < valB (W ++ Pt ++ Lib.repeatL [48] (6 - Pt.length)) then (0, 2)
      else (if mn then -(valB (W ++ Pt ++ Lib.repeatL [48] (6 - Pt.length)) : Int) else (valB (W ++ Pt ++ Lib.repeatL [48] (6 - Pt.length)) : Int), 0)) :
    Calls Tryz.prog 46 #[.string s, .int .i64 k] w fun e w' => e = .returned (.tuple #[.int .i64 r.1, .int .i64 r.2]) ∧ Below w.heap.size w w' := by
  have HP0 := Lib.hid hp0
  clear hp0
  have HC1 := Lib.hid hC1
  have HC2 := Lib.hid @hC2
  have hN := fun w => numeral_calls W w (by omega)
  have HN := Lib.hid hN
  have hNP := fun w => numeral_calls Pt w (by omega)
  have HNP := Lib.hid hNP
  have HR := Lib.hid hr
  have hsuf : ∀ w, Calls Tryz.prog 72 #[.string ⟨Pt.toArray⟩, .string ⟨#[48]⟩] w fun e w' => e = .returned (.bool (Lib.hasSuffix Pt [48])) ∧ w' = w := fun w => Tryz.strings_HasSuffix ⟨Pt.toArray⟩ ⟨#[48]⟩ w (show Pt.length ≤ _ by omega)
  have HSuf := Lib.hid hsuf
  obtain ⟨m, hm⟩ := hgl.maxlen
  clear hC1 hC2 hN hr hNP hsuf
  go_enter Tryz.func46, Tryz.ntmps46
  go_wp2_with fail
  refine (scaled_yes k hk _).mono ?_
  rintro e w1 ⟨rfl, ⟨nd, rfl⟩⟩
  go_wp2_with fail
  refine (HC1.out _).mono ?_
  rintro e w2 ⟨rfl, rfl⟩
  go_wp2_with fail
  refine (HC2.out (w.drewN nd) (m := m) hm).mono ?_
  rintro e w3 ⟨rfl, n3, rfl⟩
  go_upto_region 5 with (fail)
  go_cut [45] (fun c wx => c = .bool (bad1 W S1 mn) ∧ Below w.heap.size w wx)
  case first =>
    cases W with
    | nil =>
      go_wp2_with fail
      refine (HN.out _).mono ?_
      rintro e w4 ⟨rfl, hb4⟩
      go_wp2_with fail
      go_meet
      exact ⟨rfl, below_step (pw_below_drewN (Below.refl _ _) _) hb4⟩
    | cons c t =>
      cases hn : numB (c :: t) with
      | false =>
        have Hb : Aside0 (bad1 (c :: t) S1 mn = true) := ⟨by simp [bad1, hn]⟩
        rw [hn] at HN
        clear hn
        go_wp2_with fail
        refine (HN.out _).mono ?_
        rintro e w4 ⟨rfl, hb4⟩
        go_wp2_with fail
        go_meet
        exact ⟨by rw [Hb.out], below_step (pw_below_drewN (Below.refl _ _) _) hb4⟩
      | true =>
        have Hb : Aside0 (bad1 (c :: t) S1 mn = ((!((c :: t) == [48]) && c.toNat == 48) || (S1 == [48] && mn))) := ⟨by simp only [bad1, hn, byte_head, Bool.not_true, Bool.false_or]⟩
        rw [hn] at HN
        clear hn
        have hi : ∀ h, (((((⟨(c :: t).toArray⟩ : ByteArray)[0]'h).toNat : Nat) : Int) == 48) = (c.toNat == 48) := fun h => by
          have e : ((⟨(c :: t).toArray⟩ : ByteArray)[0]'h) = c := rfl
          rw [e, Bool.eq_iff_iff]; simp only [beq_iff_eq]; omega
        cases h1 : (c :: t) == [48] with
        | true =>
          rw [h1] at Hb
          cases h3 : S1 == [48] with
          | false =>
            rw [h3] at Hb
            go_wp2_with fail
            refine (HN.out _).mono ?_
            rintro e w4 ⟨rfl, hb4⟩
            go_wp2_with fail
            go_meet
            exact ⟨by rw [Hb.out]; rfl, below_step (pw_below_drewN (Below.refl _ _) _) hb4⟩
          | true =>
            rw [h3] at Hb
            cases mn with
            | false =>
              go_wp2_with fail
              refine (HN.out _).mono ?_
              rintro e w4 ⟨rfl, hb4⟩
              go_wp2_with fail
              go_meet
              exact ⟨by rw [Hb.out]; rfl, below_step (pw_below_drewN (Below.refl _ _) _) hb4⟩
            | true =>
              go_wp2_with fail
              refine (HN.out _).mono ?_
              rintro e w4 ⟨rfl, hb4⟩
              go_wp2_with fail
              go_meet
              exact ⟨by rw [Hb.out]; rfl, below_step (pw_below_drewN (Below.refl _ _) _) hb4⟩
        | false =>
          rw [h1] at Hb
          cases h2 : c.toNat == 48 with
          | true =>
            rw [h2] at Hb
            simp only [h2] at hi
            go_wp2_with fail
            refine (HN.out _).mono ?_
            rintro e w4 ⟨rfl, hb4⟩
            go_wp2_with fail
            go_meet
            exact ⟨by rw [Hb.out]; rfl, below_step (pw_below_drewN (Below.refl _ _) _) hb4⟩
          | false =>
            rw [h2] at Hb
            simp only [h2] at hi
            cases h3 : S1 == [48] with
            | false =>
              rw [h3] at Hb
              go_wp2_with fail
              refine (HN.out _).mono ?_
              rintro e w4 ⟨rfl, hb4⟩
              go_wp2_with fail
              go_meet
              exact ⟨by rw [Hb.out]; rfl, below_step (pw_below_drewN (Below.refl _ _) _) hb4⟩
            | true =>
              rw [h3] at Hb
              cases mn with
              | false =>
                go_wp2_with fail
                refine (HN.out _).mono ?_
                rintro e w4 ⟨rfl, hb4⟩
                go_wp2_with fail
                go_meet
                exact ⟨by rw [Hb.out]; rfl, below_step (pw_below_drewN (Below.refl _ _) _) hb4⟩
              | true =>
                go_wp2_with fail
                refine (HN.out _).mono ?_
                rintro e w4 ⟨rfl, hb4⟩
                go_wp2_with fail
                go_meet
                exact ⟨by rw [Hb.out]; rfl, below_step (pw_below_drewN (Below.refl _ _) _) hb4⟩
  case rest =>
    obtain ⟨rfl, hb⟩ := hcut
    cases hbad : bad1 W S1 mn with
    | true =>
      go_wp2_with fail
      go_ret2
      exact ⟨by rw [HR.out, if_pos hbad]; rfl, hb⟩
    | false =>
      have HR2 := Lib.hid (HR.out.trans (if_neg (by rw [hbad]; decide)))
      have hnW : numB W = true := by
        cases h : numB W
        · rw [bad1, h] at hbad; simp at hbad
        · rfl
      clear HR hbad HN HC1 HC2
      go_upto_region 7 with (fail)
      go_cut [61] (fun c wx => c = .bool (bad2 Pt pt k) ∧ Below w.heap.size w wx)
      case first =>
        cases pt with
        | false =>
          go_wp2_with fail
          go_meet
          exact ⟨by simp [bad2], hb⟩
        | true =>
          cases hn : numB Pt with
          | false =>
            have Hb : Aside0 (bad2 Pt true k = true) := ⟨by simp [bad2, hn]⟩
            rw [hn] at HNP
            clear hn
            go_wp2_with fail
            refine (HNP.out _).mono ?_
            rintro e w4 ⟨rfl, hb4⟩
            go_wp2_with fail
            go_meet
            exact ⟨by rw [Hb.out], below_step hb hb4⟩
          | true =>
            rw [hn] at HNP
            by_cases hl : k < Pt.length
            · have Hb : Aside0 (bad2 Pt true k = true) := ⟨by simp [bad2, hl]⟩
              clear hn
              go_wp2_with fail
              refine (HNP.out _).mono ?_
              rintro e w4 ⟨rfl, hb4⟩
              go_wp2_with fail
              go_meet
              exact ⟨by rw [Hb.out], below_step hb hb4⟩
            · have Hb : Aside0 (bad2 Pt true k = Lib.hasSuffix Pt [48]) := ⟨by simp [bad2, hl, hn]⟩
              clear hn
              go_wp2_with fail
              refine (HNP.out _).mono ?_
              rintro e w4 ⟨rfl, hb4⟩
              go_wp2_with fail
              refine (HSuf.out _).mono ?_
              rintro e w5 ⟨rfl, rfl⟩
              go_wp2_with fail
              go_meet
              exact ⟨by rw [Hb.out], below_step hb hb4⟩
      case rest =>
        obtain ⟨rfl, hb2⟩ := hcut
        cases hbad : bad2 Pt pt k with
        | true =>
          go_wp2_with fail
          go_ret2
          exact ⟨by rw [HR2.out, if_pos hbad]; rfl, hb2⟩
        | false =>
          have HR3 := Lib.hid (HR2.out.trans (if_neg (by rw [hbad]; decide)))
          have hPt : Pt.length ≤ 6 ∧ Pt.all isDig = true := by
            cases pt with
            | false => rw [HP0.out rfl]; exact ⟨by decide, rfl⟩
            | true =>
              simp only [bad2, Bool.true_and, Bool.or_eq_false_iff, Bool.not_eq_false', decide_eq_false_iff_not] at hbad
              have := hbad.1.1
              simp only [numB, Bool.and_eq_true] at this
              exact ⟨by omega, this.2⟩
          obtain ⟨hP6, hPd⟩ := hPt
          have hrep : ∀ W0 : World, Calls Tryz.prog 44 #[.string ⟨#[48]⟩, .int .i64 (6 - (Pt.length : Int))] W0 fun e w' => e = .returned (.string ⟨(Lib.repeatL [48] (6 - Pt.length)).toArray⟩) ∧ Below W0.heap.size W0 w' := fun W0 => by
            rw [show (6 - (Pt.length : Int)) = ((6 - Pt.length : Nat) : Int) by omega]
            exact Tryz.strings_Repeat ⟨#[48]⟩ (6 - Pt.length) W0 (by omega) (by show 1 * (6 - Pt.length) ≤ _; omega)
          have HRep := Lib.hid hrep
          have hrl : (Lib.repeatL [48] (6 - Pt.length)).length ≤ 6 := by rw [Lib.repeatL_length]; simp
          clear HR2 hbad hrep HNP HSuf
          have hD : numB (W ++ Pt ++ Lib.repeatL [48] (6 - Pt.length)) = true := by
            simp only [numB, Bool.and_eq_true, Bool.not_eq_true', List.all_append] at hnW ⊢
            refine ⟨?_, ⟨hnW.2, hPd⟩, ?_⟩
            · cases W with
              | nil => simp at hnW
              | cons c t => rfl
            · generalize 6 - Pt.length = z
              induction z with
              | zero => rfl
              | succ z ih => simp only [Lib.repeatL, List.all_append, ih, Bool.and_true]; decide
          have hX : (((⟨W.toArray⟩ : ByteArray) ++ ⟨Pt.toArray⟩ ++ ⟨(Lib.repeatL [48] (6 - Pt.length)).toArray⟩) : ByteArray).data.toList = W ++ Pt ++ Lib.repeatL [48] (6 - Pt.length) := by simp
          have hXs : (((⟨W.toArray⟩ : ByteArray) ++ ⟨Pt.toArray⟩ ++ ⟨(Lib.repeatL [48] (6 - Pt.length)).toArray⟩) : ByteArray).size ≤ 4294967300 := by
            rw [Lib.size_eq, hX, List.length_append, List.length_append]
            omega
          have hA := atoi_digits _ hD
          rw [← hX] at hA
          have hXm : (((⟨W.toArray⟩ : ByteArray) ++ ⟨Pt.toArray⟩ ++ ⟨(Lib.repeatL [48] (6 - Pt.length)).toArray⟩) : ByteArray).size ≤ 9223372036854775806 := by omega
          have hXn : (((⟨W.toArray⟩ : ByteArray) ++ ⟨Pt.toArray⟩ ++ ⟨(Lib.repeatL [48] (6 - Pt.length)).toArray⟩) : ByteArray).size ≤ 281474976710656 := by omega
          have hok := Tryz.strconv_Atoi_ok _ hXm
          have hra := Tryz.strconv_Atoi_range_var _ hXn
          rw [hX] at hA
          rw [hX] at hok hra
          generalize hDD : W ++ Pt ++ Lib.repeatL [48] (6 - Pt.length) = D at *
          clear hD hX hXs hDD hXm hXn
          by_cases hv : valB D < 9223372036854775808
          · rw [if_pos hv] at hA
            have HOK := Lib.hid (hok _ hA)
            clear hok hra hA
            generalize valB D = v at *
            by_cases hM : 1000000000000000 < v
            · have HR4 := Lib.hid (HR3.out.trans (if_pos hM))
              clear HR3
              go_wp2_with fail
              refine (HRep.out _).mono ?_
              rintro e w6 ⟨rfl, hb6⟩
              go_wp2_with fail
              refine (HOK.out _).mono ?_
              rintro e w7 ⟨rfl, hw7⟩
              have hb8 : Below w.heap.size w w7 := by
                rcases hw7 with rfl | ⟨t, rfl⟩
                · exact below_step hb2 hb6
                · exact below_step (below_step hb2 hb6) (Lib.bytesWorld_below _ _ _)
              clear hw7
              go_wp2_with fail
              go_ret2
              exact ⟨by rw [HR4.out]; rfl, hb8⟩
            · have HR4 := Lib.hid (HR3.out.trans (if_neg hM))
              clear HR3
              cases mn with
              | false =>
                go_wp2_with fail
                refine (HRep.out _).mono ?_
                rintro e w6 ⟨rfl, hb6⟩
                go_wp2_with fail
                refine (HOK.out _).mono ?_
                rintro e w7 ⟨rfl, hw7⟩
                have hb8 : Below w.heap.size w w7 := by
                  rcases hw7 with rfl | ⟨t, rfl⟩
                  · exact below_step hb2 hb6
                  · exact below_step (below_step hb2 hb6) (Lib.bytesWorld_below _ _ _)
                clear hw7
                go_wp2_with fail
                go_ret2
                exact ⟨by rw [HR4.out]; rfl, hb8⟩
              | true =>
                go_wp2_with fail
                refine (HRep.out _).mono ?_
                rintro e w6 ⟨rfl, hb6⟩
                go_wp2_with fail
                refine (HOK.out _).mono ?_
                rintro e w7 ⟨rfl, hw7⟩
                have hb8 : Below w.heap.size w w7 := by
                  rcases hw7 with rfl | ⟨t, rfl⟩
                  · exact below_step hb2 hb6
                  · exact below_step (below_step hb2 hb6) (Lib.bytesWorld_below _ _ _)
                clear hw7
                go_wp2_with fail
                go_ret2
                exact ⟨by rw [HR4.out]; rfl, hb8⟩
          · rw [if_neg hv] at hA
            have HRA := Lib.hid (hra hA)
            have HR4 := Lib.hid (HR3.out.trans (if_pos (by omega)))
            clear hok hra hA HR3 hv
            go_wp2_with fail
            refine (HRep.out _).mono ?_
            rintro e w6 ⟨rfl, hb6⟩
            have hG6 : Gl w6 := hgl.below (below_step hb2 hb6)
            obtain ⟨tp, p, hvar⟩ := hG6.rng
            have HV := Lib.hid hvar
            clear hvar
            go_wp2_with fail
            refine (HRA.out tp p _ HV.out).mono ?_
            rintro e w7 ⟨N, rfl, hN1, hN2, hb9⟩
            clear hN1 hN2
            go_wp2_with fail
            go_ret2
            exact ⟨by rw [HR4.out]; rfl, below_step (below_step hb2 hb6) hb9⟩

def parseTail (W Pt S1 : List UInt8) (mn pt : Bool) (k : Nat) : Int × Int :=
  if bad1 W S1 mn = true then (0, 5) else if bad2 Pt pt k = true then (0, 5)
  else if 1000000000000000 < valB (W ++ Pt ++ Lib.repeatL [48] (6 - Pt.length)) then (0, 2)
  else (if mn then -(valB (W ++ Pt ++ Lib.repeatL [48] (6 - Pt.length)) : Int) else (valB (W ++ Pt ++ Lib.repeatL [48] (6 - Pt.length)) : Int), 0)
/-- What decimal.Parse tells of bytes. -/
def parseR (l : List UInt8) (scale : Int) : Int × Int :=
  if 0 ≤ scale ∧ scale < 7 then parseTail (Lib.cut (Lib.trimPrefix l [45]) [46]).1 (Lib.cut (Lib.trimPrefix l [45]) [46]).2.1 (Lib.trimPrefix l [45]) (Lib.hasPrefix l [45]) (Lib.cut (Lib.trimPrefix l [45]) [46]).2.2 scale.toNat
  else (0, 1)
def decimal_Parse.f (a0 : ByteArray) (a1 : Int) : Option (Int × Int) := if a0.size < 4294967281 then some (parseR a0.data.toList a1) else none

theorem cut_none (l sep : List UInt8) (h : (Lib.cut l sep).2.2 = false) : (Lib.cut l sep).2.1 = [] := by
  unfold Lib.cut at h ⊢
  split at h
  · simp at h
  · rename_i h2; rw [if_neg h2]

theorem decimal_Parse.calls (a0 : ByteArray) (a1 r1 r2 : Int) (w : World) (hgl : Gl w) (h : decimal_Parse.f a0 a1 = some (r1, r2)) :
    Calls Tryz.prog 46 #[.string a0, .int .i64 a1] w fun e w' => e = .returned (.tuple #[.int .i64 r1, .int .i64 r2]) ∧ Below w.heap.size w w' := by
  unfold decimal_Parse.f at h
  split at h
  case isFalse => cases h
  rename_i hlen
  have hr := Option.some.inj h
  obtain ⟨rfl, rfl⟩ : r1 = (parseR a0.data.toList a1).1 ∧ r2 = (parseR a0.data.toList a1).2 := by rw [hr]; exact ⟨rfl, rfl⟩
  clear h hr
  by_cases hs : 0 ≤ a1 ∧ a1 < 7
  · obtain ⟨k, rfl⟩ : ∃ k : Nat, a1 = k := ⟨a1.toNat, by omega⟩
    have hl0 : a0.data.toList.length < 4294967281 := by rw [← Lib.size_eq]; exact hlen
    have hl1 := trimPrefix_len a0.data.toList [45]
    have hl2 := cut_len (Lib.trimPrefix a0.data.toList [45]) [46]
    refine parse_tail (Lib.cut (Lib.trimPrefix a0.data.toList [45]) [46]).1 (Lib.cut (Lib.trimPrefix a0.data.toList [45]) [46]).2.1 (Lib.trimPrefix a0.data.toList [45]) (Lib.hasPrefix a0.data.toList [45]) (Lib.cut (Lib.trimPrefix a0.data.toList [45]) [46]).2.2 a0 k (by omega) w hgl (parseR a0.data.toList k) (fun W => Tryz.strings_CutPrefix a0 ⟨#[45]⟩ W) (fun W {m} hm => ?_) (cut_none _ _) (by omega) (by omega) (by omega) ?_
    · exact Tryz.strings_Cut ⟨(Lib.trimPrefix a0.data.toList [45]).toArray⟩ ⟨#[46]⟩ m W (show (Lib.trimPrefix a0.data.toList [45]).length < _ by omega) hm
    · unfold parseR
      rw [if_pos hs, Int.toNat_natCast]
      rfl
  · have hv : parseR a0.data.toList a1 = (0, 1) := by unfold parseR; rw [if_neg hs]
    rw [hv]
    go_enter Tryz.func46, Tryz.ntmps46
    go_wp2_with fail
    refine (scaled_no a1 hs _).mono ?_
    rintro e w1 ⟨rfl, ⟨nd, rfl⟩⟩
    go_wp2_with fail
    go_ret2
    exact ⟨rfl, pw_below_drewN (Below.refl _ _) _⟩
end Go.Proofs.YtckonpphagkfeaaGreatDoor.H
