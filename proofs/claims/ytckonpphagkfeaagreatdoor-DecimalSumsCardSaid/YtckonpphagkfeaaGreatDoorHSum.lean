/- decimal.Sum: the sum of a list by numbers of 128 bits. -/
import Derived.Test.YtckonpphagkfeaaGreatDoorHFrac
import Derived.Laws.Externs
namespace Go.Proofs.YtckonpphagkfeaaGreatDoor.H
open Go.RowKit Go.Proofs.YtckonpphagkfeaaGreatDoorW.PrintWords Go.Proofs.YtckonpphagkfeaaGreatDoorW.PrintLast Go.Proofs.YtckonpphagkfeaaGreatDoorW.PrintMore
set_option linter.unusedVariables false

theorem run_add (x y c : Nat) (hc : c ≤ 1) (w : World) :
    (callFunc 74 #[.int .u64 x, .int .u64 y, .int .u64 c]).run Tryz.prog w =
      .ok (.value (.tuple #[.int .u64 (((x + y + c) % 18446744073709551616 : Nat) : Int), .int .u64 (((x + y + c) / 18446744073709551616 : Nat) : Int)])) w := by
  rw [run_callFunc_extern Tryz.func74 (by kernel_rfl) (by kernel_rfl) (by kernel_rfl) (e := add64Entry) (by kernel_rfl), run_add64 x y c (by omega) (by omega) (by omega) (by omega)]
  simp only [Result.andThen]
  congr 5 <;> omega

def okS (n : Int) : Bool := decide (-4000000000000000000 ≤ n) && decide (n ≤ 4000000000000000000)
/-- What the sum of a list is told as. -/
def sumR (l : List Int) : Int × Int := if l.all okS && okS l.sum then (l.sum, 0) else (0, 2)
def decimal_Sum.f (l0 : List Int) : Option (Int × Int) := if l0.length ≤ 140737488351232 then some (sumR l0) else none

/-- The number of 128 bits, in two's complement. -/
def InvS (l : List Int) (k h lo : Nat) : Prop := (l.take k).all okS = true ∧ ∃ z : Int, (h : Int) * 18446744073709551616 + lo = (l.take k).sum + z * 340282366920938463463374607431768211456

theorem inv_zero (l : List Int) : InvS l 0 0 0 := ⟨by simp, 0, by simp⟩

theorem inv_num (h lo u s : Nat) (S x z : Int) (hm : (h : Int) * 18446744073709551616 + lo = S + z * 340282366920938463463374607431768211456)
    (hs : (x < 0 ∧ s = 18446744073709551615 ∧ (u : Int) = x + 18446744073709551616) ∨ (0 ≤ x ∧ s = 0 ∧ (u : Int) = x)) :
    ∃ z' : Int, (((h + s + (lo + u + 0) / 18446744073709551616) % 18446744073709551616 : Nat) : Int) * 18446744073709551616 + ((lo + u + 0) % 18446744073709551616 : Nat) = S + x + z' * 340282366920938463463374607431768211456 := by
  refine ⟨z - ((h + s + (lo + u + 0) / 18446744073709551616) / 18446744073709551616 : Nat) + (if x < 0 then 1 else 0), ?_⟩
  have e1 := Nat.div_add_mod (lo + u + 0) 18446744073709551616
  have e2 := Nat.div_add_mod (h + s + (lo + u + 0) / 18446744073709551616) 18446744073709551616
  generalize (lo + u + 0) % 18446744073709551616 = l' at *
  generalize (lo + u + 0) / 18446744073709551616 = c at *
  generalize (h + s + c) % 18446744073709551616 = h' at *
  generalize (h + s + c) / 18446744073709551616 = d at *
  rcases hs with ⟨h1, h2, h3⟩ | ⟨h1, h2, h3⟩
  · rw [if_pos h1]; subst h2; omega
  · rw [if_neg (by omega)]; subst h2; omega

theorem take_at (l : List Int) (k : Nat) (hk : k < l.length) : l.take (k + 1) = l.take k ++ [rd l k] := by
  rw [List.take_succ_eq_append_getElem hk]
  simp [rd, hk]

theorem sum_at (l : List Int) (k : Nat) (hk : k < l.length) : (l.take (k + 1)).sum = (l.take k).sum + rd l k := by
  rw [take_at l k hk]
  simp

theorem inv_step (l : List Int) (k h lo u s : Nat) (hk : k < l.length) (hi : InvS l k h lo) (hx : okS (rd l k) = true)
    (hs : (rd l k < 0 ∧ s = 18446744073709551615 ∧ (u : Int) = rd l k + 18446744073709551616) ∨ (0 ≤ rd l k ∧ s = 0 ∧ (u : Int) = rd l k)) :
    InvS l (k + 1) ((h + s + (lo + u + 0) / 18446744073709551616) % 18446744073709551616) ((lo + u + 0) % 18446744073709551616) := by
  obtain ⟨ha, z, hm⟩ := hi
  obtain ⟨z', hz⟩ := inv_num h lo u s _ _ z hm hs
  refine ⟨by rw [take_at l k hk]; simp [ha, hx], z', ?_⟩
  rw [sum_at l k hk]
  exact hz

theorem sum_bd (l : List Int) (h : l.all okS = true) : -4000000000000000000 * (l.length : Int) ≤ l.sum ∧ l.sum ≤ 4000000000000000000 * (l.length : Int) := by
  induction l with
  | nil => simp
  | cons x l ih =>
    simp only [List.all_cons, Bool.and_eq_true] at h
    have hx := h.1
    simp only [okS, Bool.and_eq_true, decide_eq_true_eq] at hx
    have := ih h.2
    simp only [List.sum_cons, List.length_cons]
    omega
theorem inv_end (l : List Int) (h lo : Nat) (hl : l.length ≤ 140737488351232) (hh : h < 18446744073709551616) (hlo : lo < 18446744073709551616) (hi : InvS l l.length h lo) :
    l.all okS = true ∧ ((if lo < 9223372036854775808 then (h ≠ 0 ∨ 4000000000000000000 < lo) else (h ≠ 18446744073709551615 ∨ (lo : Int) - 18446744073709551616 < -4000000000000000000)) → okS l.sum = false) ∧
      (¬ (if lo < 9223372036854775808 then (h ≠ 0 ∨ 4000000000000000000 < lo) else (h ≠ 18446744073709551615 ∨ (lo : Int) - 18446744073709551616 < -4000000000000000000)) → okS l.sum = true ∧ l.sum = if lo < 9223372036854775808 then (lo : Int) else (lo : Int) - 18446744073709551616) := by
  obtain ⟨ha, z, hm⟩ := hi
  rw [List.take_length] at ha hm
  have hb := sum_bd l ha
  generalize l.sum = S at *
  generalize l.length = n at *
  refine ⟨ha, ?_, ?_⟩
  · intro hc
    simp only [okS, Bool.and_eq_false_iff, decide_eq_false_iff_not]
    split at hc <;> omega
  · intro hc
    simp only [okS, Bool.and_eq_true, decide_eq_true_eq]
    split at hc <;> simp only [*, if_true, if_false] <;> omega

set_option maxHeartbeats 1000000 in
set_option maxRecDepth 20000 in
theorem decimal_Sum.calls (A0 : Option Addr) (c0 : Nat) (l0 : List Int) (r1 r2 : Int) (w : World) (hr0 : Kd.C (Kd.int .i64) w A0 l0.length l0) (hc0 : l0.length ≤ c0) (h : decimal_Sum.f l0 = some (r1, r2)) :
    Calls Tryz.prog 52 #[.slice A0 l0.length c0] w fun e w' => e = .returned (.tuple #[.int .i64 r1, .int .i64 r2]) ∧ Drawn0 w w' := by
  unfold decimal_Sum.f at h
  split at h
  case isFalse => cases h
  rename_i hlen
  have hr := Option.some.inj h
  obtain ⟨rfl, rfl⟩ : r1 = (sumR l0).1 ∧ r2 = (sumR l0).2 := by rw [hr]; exact ⟨rfl, rfl⟩
  clear h hr
  have HR := Aside0.mk hr0
  clear hr0
  have HA := Lib.hid (run_add)
  go_enter Tryz.func52, Tryz.ntmps52
  go_wp2_with fail
  go_loop [4, 5, 13] (fun hi lo i => ∃ k h l : Nat, i = .int .i64 k ∧ k ≤ l0.length ∧ hi = .int .u64 h ∧ lo = .int .u64 l ∧ h < 18446744073709551616 ∧ l < 18446744073709551616 ∧ Aside0 (InvS l0 k h l)) (fun _ _ i => l0.length - (intOf i).toNat)
  case atStart => exact ⟨0, 0, 0, rfl, Nat.zero_le _, rfl, rfl, by omega, by omega, ⟨inv_zero l0⟩⟩
  case round =>
    obtain ⟨k, hh, ll, rfl, hk, rfl, rfl, hh1, hl1, HI⟩ := hrel
    by_cases hlt : k < l0.length
    · obtain ⟨ad, rfl, hcell⟩ := Kd.at_int HR.out k (by omega) (by omega)
      rw [Int.toNat_natCast] at hcell
      have hst := inv_step l0 k hh ll
      have hsr : okS (rd l0 k) = false → sumR l0 = (0, 2) := fun hx => by
        have hall : l0.all okS = false := by
          rw [List.all_eq_false]
          refine ⟨l0[k], List.getElem_mem hlt, ?_⟩
          have : rd l0 k = l0[k] := by simp [rd, hlt]
          rw [← this, hx]
          simp
        unfold sumR
        rw [hall, Bool.false_and]
        rfl
      generalize hX : rd l0 k = x at *
      have HX := Lib.hid hX
      clear hX
      cases hok : okS x with
      | false =>
        have HF := Lib.hid (hsr hok)
        simp only [okS, Bool.and_eq_false_iff, decide_eq_false_iff_not] at hok
        clear hst hsr
        by_cases h1 : x < -4000000000000000000
        · clear hok
          go_wp2_with fail
          go_ret2
          exact ⟨by rw [HF.out]; rfl, Drawn0.refl _⟩
        · have h2 : 4000000000000000000 < x := by omega
          clear hok
          go_wp2_with fail
          go_ret2
          exact ⟨by rw [HF.out]; rfl, Drawn0.refl _⟩
      | true =>
        have hok' := hok
        simp only [okS, Bool.and_eq_true, decide_eq_true_eq] at hok'
        obtain ⟨h1, h2⟩ := hok'
        by_cases hneg : x < 0
        · obtain ⟨u, hu⟩ : ∃ u : Nat, (u : Int) = x + 18446744073709551616 := ⟨(x + 18446744073709551616).toNat, by omega⟩
          have hst' := hst u 18446744073709551615 hlt HI.out hok (Or.inl ⟨hneg, rfl, hu⟩)
          have hw : IntKind.u64.wrap x = (u : Int) := by rw [IntKind.wrap_u64]; omega
          have ha1 : ∀ W, (callFunc 74 #[.int .u64 (ll : Int), .int .u64 (u : Int), .int .u64 0]).run Tryz.prog W = .ok (.value (.tuple #[.int .u64 (((ll + u + 0) % 18446744073709551616 : Nat) : Int), .int .u64 (((ll + u + 0) / 18446744073709551616 : Nat) : Int)])) W := fun W => HA.out ll u 0 (by omega) W
          have hc1 : (ll + u + 0) / 18446744073709551616 ≤ 1 := by omega
          have ha2 : ∀ W, (callFunc 74 #[.int .u64 (hh : Int), .int .u64 18446744073709551615, .int .u64 (((ll + u + 0) / 18446744073709551616 : Nat) : Int)]).run Tryz.prog W = .ok (.value (.tuple #[.int .u64 (((hh + 18446744073709551615 + (ll + u + 0) / 18446744073709551616) % 18446744073709551616 : Nat) : Int), .int .u64 (((hh + 18446744073709551615 + (ll + u + 0) / 18446744073709551616) / 18446744073709551616 : Nat) : Int)])) W := fun W => HA.out hh 18446744073709551615 ((ll + u + 0) / 18446744073709551616) hc1 W
          have hlo : (ll + u + 0) % 18446744073709551616 < 18446744073709551616 := Nat.mod_lt _ (by decide)
          have hhi : (hh + 18446744073709551615 + (ll + u + 0) / 18446744073709551616) % 18446744073709551616 < 18446744073709551616 := Nat.mod_lt _ (by decide)
          have HST := Aside0.mk hst'
          clear hst hsr hst' hu hok HI
          generalize (ll + u + 0) / 18446744073709551616 = cy at *
          generalize (ll + u + 0) % 18446744073709551616 = lo' at *
          generalize (hh + 18446744073709551615 + cy) % 18446744073709551616 = hi' at *
          generalize (hh + 18446744073709551615 + cy) / 18446744073709551616 = c2 at *
          go_wp2_with fail
          go_round
          case rel => exact ⟨k + 1, hi', lo', by go_num, by omega, rfl, rfl, hhi, hlo, HST⟩
          case measure => simp [intOf]; omega
        · obtain ⟨u, hu⟩ : ∃ u : Nat, (u : Int) = x := ⟨(x).toNat, by omega⟩
          have hst' := hst u 0 hlt HI.out hok (Or.inr ⟨by omega, rfl, hu⟩)
          have hw : IntKind.u64.wrap x = (u : Int) := by rw [IntKind.wrap_u64]; omega
          have ha1 : ∀ W, (callFunc 74 #[.int .u64 (ll : Int), .int .u64 (u : Int), .int .u64 0]).run Tryz.prog W = .ok (.value (.tuple #[.int .u64 (((ll + u + 0) % 18446744073709551616 : Nat) : Int), .int .u64 (((ll + u + 0) / 18446744073709551616 : Nat) : Int)])) W := fun W => HA.out ll u 0 (by omega) W
          have hc1 : (ll + u + 0) / 18446744073709551616 ≤ 1 := by omega
          have ha2 : ∀ W, (callFunc 74 #[.int .u64 (hh : Int), .int .u64 0, .int .u64 (((ll + u + 0) / 18446744073709551616 : Nat) : Int)]).run Tryz.prog W = .ok (.value (.tuple #[.int .u64 (((hh + 0 + (ll + u + 0) / 18446744073709551616) % 18446744073709551616 : Nat) : Int), .int .u64 (((hh + 0 + (ll + u + 0) / 18446744073709551616) / 18446744073709551616 : Nat) : Int)])) W := fun W => HA.out hh 0 ((ll + u + 0) / 18446744073709551616) hc1 W
          have hlo : (ll + u + 0) % 18446744073709551616 < 18446744073709551616 := Nat.mod_lt _ (by decide)
          have hhi : (hh + 0 + (ll + u + 0) / 18446744073709551616) % 18446744073709551616 < 18446744073709551616 := Nat.mod_lt _ (by decide)
          have HST := Aside0.mk hst'
          clear hst hsr hst' hu hok HI
          generalize (ll + u + 0) / 18446744073709551616 = cy at *
          generalize (ll + u + 0) % 18446744073709551616 = lo' at *
          generalize (hh + 0 + cy) % 18446744073709551616 = hi' at *
          generalize (hh + 0 + cy) / 18446744073709551616 = c2 at *
          go_wp2_with fail
          go_round
          case rel => exact ⟨k + 1, hi', lo', by go_num, by omega, rfl, rfl, hhi, hlo, HST⟩
          case measure => simp [intOf]; omega
    · obtain rfl : k = l0.length := by omega
      have he := inv_end l0 hh ll hlen hh1 hl1 HI.out
      clear HI
      obtain ⟨hall, hbad, hgood⟩ := he
      by_cases hneg : ll < 9223372036854775808
      · rw [if_pos hneg] at hbad hgood
        rw [if_pos hneg] at hgood
        have hn : wrap64 (ll : Int) = (ll : Int) := by unfold wrap64; omega
        by_cases hz : hh = 0
        · by_cases hg : 4000000000000000000 < ll
          · have hb := hbad (Or.inr hg)
            have HF : Aside0 (sumR l0 = (0, 2)) := ⟨by unfold sumR; rw [hb, Bool.and_false]; rfl⟩
            have hz' : ((hh : Int) != 0) = false := by rw [bne_eq_false_iff_eq]; omega
            clear hbad hgood hall hb hz
            go_wp2_with fail
            go_ret2
            exact ⟨by rw [HF.out]; rfl, Drawn0.refl _⟩
          · obtain ⟨hg1, hg2⟩ := hgood (by omega)
            have HF : Aside0 (sumR l0 = ((ll : Int), 0)) := ⟨by unfold sumR; rw [hall, hg1]; simp [hg2]⟩
            have hz' : ((hh : Int) != 0) = false := by rw [bne_eq_false_iff_eq]; omega
            clear hbad hgood hall hg1 hg2 hz
            go_wp2_with fail
            go_ret2
            exact ⟨by rw [HF.out]; rfl, Drawn0.refl _⟩
        · have hb := hbad (Or.inl hz)
          have HF : Aside0 (sumR l0 = (0, 2)) := ⟨by unfold sumR; rw [hb, Bool.and_false]; rfl⟩
          have hz' : ((hh : Int) != 0) = true := by rw [bne_iff_ne]; omega
          clear hbad hgood hall hb hz
          go_wp2_with fail
          go_ret2
          exact ⟨by rw [HF.out]; rfl, Drawn0.refl _⟩
      · rw [if_neg hneg] at hbad hgood
        rw [if_neg hneg] at hgood
        have hn : wrap64 (ll : Int) = (ll : Int) - 18446744073709551616 := by unfold wrap64; omega
        by_cases hz : hh = 18446744073709551615
        · by_cases hg : (ll : Int) - 18446744073709551616 < -4000000000000000000
          · have hb := hbad (Or.inr hg)
            have HF : Aside0 (sumR l0 = (0, 2)) := ⟨by unfold sumR; rw [hb, Bool.and_false]; rfl⟩
            have hz' : ((hh : Int) != 18446744073709551615) = false := by rw [bne_eq_false_iff_eq]; omega
            clear hbad hgood hall hb hz
            go_wp2_with fail
            go_ret2
            exact ⟨by rw [HF.out]; rfl, Drawn0.refl _⟩
          · obtain ⟨hg1, hg2⟩ := hgood (by omega)
            have HF : Aside0 (sumR l0 = ((ll : Int) - 18446744073709551616, 0)) := ⟨by unfold sumR; rw [hall, hg1]; simp [hg2]⟩
            have hz' : ((hh : Int) != 18446744073709551615) = false := by rw [bne_eq_false_iff_eq]; omega
            clear hbad hgood hall hg1 hg2 hz
            go_wp2_with fail
            go_ret2
            exact ⟨by rw [HF.out]; rfl, Drawn0.refl _⟩
        · have hb := hbad (Or.inl hz)
          have HF : Aside0 (sumR l0 = (0, 2)) := ⟨by unfold sumR; rw [hb, Bool.and_false]; rfl⟩
          have hz' : ((hh : Int) != 18446744073709551615) = true := by rw [bne_iff_ne]; omega
          clear hbad hgood hall hb hz
          go_wp2_with fail
          go_ret2
          exact ⟨by rw [HF.out]; rfl, Drawn0.refl _⟩
end Go.Proofs.YtckonpphagkfeaaGreatDoor.H
