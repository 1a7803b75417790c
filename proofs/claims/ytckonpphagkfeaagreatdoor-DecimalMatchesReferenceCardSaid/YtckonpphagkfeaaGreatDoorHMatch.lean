/- The walk of the law that compares decimal with the reference. -/
import Derived.Test.YtckonpphagkfeaaGreatDoorPRef
import Derived.Deep.RegionHeld3
namespace Go.Proofs.YtckonpphagkfeaaGreatDoor.H
open Go.RowKit Go.Proofs.YtckonpphagkfeaaGreatDoor.M Go.Proofs.YtckonpphagkfeaaGreatDoor.Q Go.Proofs.YtckonpphagkfeaaGreatDoorW.PrintWords Go.Proofs.YtckonpphagkfeaaGreatDoorW.PrintLast Go.Proofs.YtckonpphagkfeaaGreatDoorW.PrintMore
set_option linter.unusedVariables false
set_option linter.unusedSimpArgs false

theorem cell_new (w : World) (cs : Array Value) (t : TypeId) (j : Nat) : (w.alloc (.cells cs t)).cell? ⟨w.heap.size, j, none⟩ = cs[j]? := by
  have ha : (w.alloc (.cells cs t)).heap[w.heap.size]? = some (.cells cs t) := by
    show (w.heap.push _)[w.heap.size]? = _
    exact Array.getElem?_push_size
  simp only [World.cell?, ha]
  simp
/-- What is known at each step: nothing that was there has turned, the argument's box holds what it held, so does the list of pairs. -/
structure Inv (w : World) (gz : Nat) (s : ByteArray) (scale : Int) (A : Option Addr) (c : Nat) (l : List Int) (W : World) : Prop where
  below : Below w.heap.size w W
  c0 : W.cell? ⟨gz, 0, none⟩ = some (.string s)
  c1 : W.cell? ⟨gz, 1, none⟩ = some (.int .i64 scale)
  c2 : W.cell? ⟨gz, 2, none⟩ = some (.slice A l.length c)
  ls : Kd.C (Kd.int .i64) W A l.length l
theorem Inv.step {w : World} {gz : Nat} {s : ByteArray} {scale : Int} {A : Option Addr} {c : Nat} {l : List Int} {W W' : World} (h : Inv w gz s scale A c l W) (hb : Below W.heap.size W W') : Inv w gz s scale A c l W' :=
  ⟨below_step h.below hb, pw_cell_below hb h.c0, pw_cell_below hb h.c1, pw_cell_below hb h.c2, Kd.C_below h.ls hb⟩
/-- The pairs that are compared. -/
structure Prs (ga : Nat) (xs ys : List Int) (W : World) : Prop where
  at0 : ∀ k : Nat, k < 4 → W.cell? ⟨ga, k * 2, none⟩ = some (.int .i64 (xs.getD k 0))
  at1 : ∀ k : Nat, k < 4 → W.cell? ⟨ga, k * 2 + 1, none⟩ = some (.int .i64 (ys.getD k 0))
theorem Prs.step {ga : Nat} {xs ys : List Int} {W W' : World} (h : Prs ga xs ys W) (hb : Below W.heap.size W W') : Prs ga xs ys W' :=
  ⟨fun k hk => pw_cell_below hb (h.at0 k hk), fun k hk => pw_cell_below hb (h.at1 k hk)⟩
def I64 (x : Int) : Prop := -9223372036854775808 ≤ x ∧ x ≤ 9223372036854775807
theorem both_add (x y : Int) : ∃ p q, chapmanlaw02_added.f x y = some (p, q) ∧ chapmanref02_AddIn.f x y = some (p, q) := by
  rw [radd]
  unfold chapmanlaw02_added.f decimal_Add.f
  simp only [dvalid_f, Option.bind_some, dchecked_f]
  cases okN x <;> cases okN y <;> simp
theorem both_sub (x y : Int) : ∃ p q, chapmanlaw02_less.f x y = some (p, q) ∧ chapmanref02_SubIn.f x y = some (p, q) := by
  rw [rsub]
  unfold chapmanlaw02_less.f decimal_Sub.f
  simp only [dvalid_f, Option.bind_some, dchecked_f]
  cases okN x <;> cases okN y <;> simp
theorem both_mul (x y : Int) : ∃ p q k, chapmanlaw02_product.f x y = some (p, q) ∧ chapmanref02_MulIn.f k x y = some (p, q) :=
  ⟨_, _, 2, rfl, rmul 0 x y⟩
theorem both_div (x y : Int) : ∃ p q k, chapmanlaw02_quotient.f x y = some (p, q) ∧ chapmanref02_DivIn.f k x y = some (p, q) :=
  ⟨_, _, 8, rfl, rdiv 0 x y⟩
theorem both_cmp (x y : Int) : ∃ p, decimal_Cmp.f x y = some p ∧ chapmanref02_Cmp.f x y = some p := by
  rw [rcmp]
  unfold chapmanref02_Cmp.f
  split
  · exact ⟨_, rfl, rfl⟩
  · split <;> exact ⟨_, rfl, rfl⟩
theorem both_text (x : Int) (h : I64 x) : ∃ t k, t.size ≤ 60 ∧ decimal_Text.f x = some t ∧ chapmanref02_Text.f k x = some t := by
  refine ⟨⟨(textL x).toArray⟩, 100, ?_, ?_, rtext 0 x h.1 h.2⟩
  · have := textL_len x
    rw [size_arr]; omega
  · unfold decimal_Text.f
    rw [if_pos ⟨h.1, h.2⟩]
theorem both_parse (t : ByteArray) (ht : t.size ≤ 60) (s : Int) : ∃ p q k, chapmanlaw02_parsed.f t s = some (p, q) ∧ chapmanref02_ParseIn.f k t s = some (p, q) := by
  have e : t = ⟨t.data.toList.toArray⟩ := rfl
  have hl : t.data.toList.length ≤ 60 := by rw [Array.length_toList]; exact ht
  refine ⟨(parseR t.data.toList s).1, (parseR t.data.toList s).2, 600, ?_, ?_⟩
  · unfold chapmanlaw02_parsed.f decimal_Parse.f
    rw [if_pos (by omega)]
    rfl
  · have := rparse 0 t.data.toList s (by omega)
    rw [← e] at this
    exact this
theorem both_trunc (x s : Int) (h : I64 x) : ∃ p k, decimal_Trunc.f x s = some p ∧ chapmanref02_Trunc.f k x s = some p := by
  have e := rtrunc 0 x s h.1 h.2
  unfold decimal_Trunc.f at *
  split at e
  · rename_i hs
    rw [if_pos hs]
    exact ⟨_, _, rfl, e⟩
  · rename_i hs
    rw [if_neg hs]
    exact ⟨_, _, rfl, e⟩
theorem both_fits (x s : Int) : ∃ p k, decimal_Fits.f x s = some p ∧ chapmanref02_Fits.f k x s = some p := by
  have e := rfits 0 x s
  unfold decimal_Fits.f at *
  split at e
  · rename_i hs
    rw [if_pos hs]
    exact ⟨_, _, rfl, e⟩
  · rename_i hs
    rw [if_neg hs]
    exact ⟨_, _, rfl, e⟩
theorem both_sum (l : List Int) (h : l.length ≤ 60) : ∃ p q k, chapmanlaw02_sum.f l = some (p, q) ∧ chapmanref02_SumIn.f k l = some (p, q) := by
  refine ⟨_, _, 0 + 2 + l.length, ?_, rsum l h 0⟩
  unfold chapmanlaw02_sum.f decimal_Sum.f
  rw [if_pos (by omega)]
  rfl
/-- The equality of results, field by field. -/
theorem eqR (d : Nat) (w : World) (x0 y0 : Int) (x1 y1 : Int) :
    (Op.equalIn (d + 2) 30 (.agg #[.int .i64 x0, .int .i64 x1]) (.agg #[.int .i64 y0, .int .i64 y1])).run Tryz.prog w = .ok (x0 == y0 && (x1 == y1)) w := by
  refine eqA_of Tryz.underlying30 (by kernel_rfl) ?_
  refine eqf_cons (by rfl) (by go_simp; rfl) (by go_simp; rfl) (by go_simp) ?_
  exact eqf_last (by rfl) (by go_simp; rfl) (by go_simp; rfl) (by go_simp)
theorem drawn_below {w w' : World} (h : Drawn0 w w') : Below w.heap.size w w' := h.below
attribute [local go_sem high] eqR

set_option maxHeartbeats 4000000 in
set_option maxRecDepth 100000 in
theorem match_walk (a b : Int) (s : ByteArray) (scale : Int) (A : Option Addr) (c : Nat) (l : List Int) (w : World) (hgl : Gl w) (ha : I64 a) (hb : I64 b) (hsc : I64 scale)
    (hr : Kd.C (Kd.int .i64) w A l.length l) (hc : l.length ≤ c) :
    Calls Tryz.prog 3 #[.int .i64 a, .int .i64 b, .agg #[.string s, .int .i64 scale, .slice A l.length c]] w fun e w' => e = .returned (.bool true) ∧ Below w.heap.size w w' := by
  have hw0 := cell_new w #[.string s, .int .i64 scale, .slice A l.length c] 24
  have HI : Aside0 (Inv w w.heap.size s scale A c l (w.alloc (.cells #[.string s, .int .i64 scale, .slice A l.length c] 24))) := ⟨⟨below_alloc (Below.refl _ _) _, hw0 0, hw0 1, hw0 2, Kd.C_alloc hr _⟩⟩
  clear hw0 hr
  go_enter Tryz.func3, Tryz.ntmps3
  go_wp2_with fail
  refine (chapmanlaw02_examples.calls true _ (hgl.below HI.out.below) rfl).mono ?_
  rintro e wx ⟨rfl, hb1⟩
  replace HI := Aside0.mk (HI.out.step hb1)
  clear hb1
  have h0 := HI.out.c0
  have h1 := HI.out.c1
  have h2 := HI.out.c2
  by_cases hs : 60 < s.size
  · have hs' : decide (60 < (s.size : Int)) = true := decide_eq_true (by omega)
    go_wp2_with fail
    go_ret
    exact ⟨rfl, HI.out.below⟩
  have hs' : decide (60 < (s.size : Int)) = false := decide_eq_false (by omega)
  by_cases hl : 60 < l.length
  · have hl' : decide (60 < (l.length : Int)) = true := decide_eq_true (by omega)
    go_wp2_with fail
    go_ret
    exact ⟨rfl, HI.out.below⟩
  have hl' : decide (60 < (l.length : Int)) = false := decide_eq_false (by omega)
  obtain ⟨x1, hx1⟩ : ∃ x, Int.tmod a 1000000000000001 = x := ⟨_, rfl⟩
  obtain ⟨y1, hy1⟩ : ∃ x, Int.tmod b 1000000000000001 = x := ⟨_, rfl⟩
  obtain ⟨x2, hx2⟩ : ∃ x, Int.tmod a 1000000 = x := ⟨_, rfl⟩
  obtain ⟨x3, hx3⟩ : ∃ x, Int.tmod a 1000 = x := ⟨_, rfl⟩
  obtain ⟨y3, hy3⟩ : ∃ x, Int.tmod b 1000 = x := ⟨_, rfl⟩
  have z1 : ((1000000000000001 : Int) == 0) = false := rfl
  have z2 : ((1000000 : Int) == 0) = false := rfl
  have z3 : ((1000 : Int) == 0) = false := rfl
  go_wp2_with fail
  have hx1b := tmod_in a 1000000000000001 (by decide)
  have hy1b := tmod_in b 1000000000000001 (by decide)
  have hx2b := tmod_in a 1000000 (by decide)
  have hx3b := tmod_in a 1000 (by decide)
  have hy3b := tmod_in b 1000 (by decide)
  rw [hx1] at hx1b
  rw [hy1] at hy1b
  rw [hx2] at hx2b
  rw [hx3] at hx3b
  rw [hy3] at hy3b
  have hX : Aside0 (∀ k : Nat, k < 4 → I64 ([a, x1, x2, x3].getD k 0)) := ⟨fun k hk => by
    unfold I64 at *
    match k, hk with
    | 0, _ => exact ha
    | 1, _ => show _ ≤ x1 ∧ x1 ≤ _; omega
    | 2, _ => show _ ≤ x2 ∧ x2 ≤ _; omega
    | 3, _ => show _ ≤ x3 ∧ x3 ≤ _; omega⟩
  clear hx1 hy1 hx2 hx3 hy3 hx1b hy1b hx2b hx3b hy3b z1 z2 z3 ha hb h0 h1 h2 hs' hl'
  have hn := cell_new wx #[.int .i64 a, .int .i64 b, .int .i64 x1, .int .i64 y1, .int .i64 x2, .int .i64 y1, .int .i64 x3, .int .i64 y3] 26
  have HP : Aside0 (Prs wx.heap.size [a, x1, x2, x3] [b, y1, y1, y3] (wx.alloc (.cells #[.int .i64 a, .int .i64 b, .int .i64 x1, .int .i64 y1, .int .i64 x2, .int .i64 y1, .int .i64 x3, .int .i64 y3] 26))) := ⟨⟨fun k hk => by
    match k, hk with
    | 0, _ => exact hn 0
    | 1, _ => exact hn 2
    | 2, _ => exact hn 4
    | 3, _ => exact hn 6, fun k hk => by
    match k, hk with
    | 0, _ => exact hn 1
    | 1, _ => exact hn 3
    | 2, _ => exact hn 5
    | 3, _ => exact hn 7⟩⟩
  replace HI := Aside0.mk (HI.out.step (below_alloc (Below.refl _ wx) (.cells #[.int .i64 a, .int .i64 b, .int .i64 x1, .int .i64 y1, .int .i64 x2, .int .i64 y1, .int .i64 x3, .int .i64 y3] 26)))
  clear hn
  generalize [a, x1, x2, x3] = xs at *
  generalize [b, y1, y1, y3] = ys at *
  generalize hga : wx.heap.size = ga at *
  generalize wx.alloc (.cells #[.int .i64 a, .int .i64 b, .int .i64 x1, .int .i64 y1, .int .i64 x2, .int .i64 y1, .int .i64 x3, .int .i64 y3] 26) = W1 at *
  clear hga
  go_loopw [9] (fun v9 wr => ∃ k : Nat, v9 = .int .i64 (k : Int) ∧ k ≤ 4 ∧ Aside0 (Inv w w.heap.size s scale A c l wr) ∧ Aside0 (Prs ga xs ys wr)) (fun v9 _ => 4 - (intOf v9).toNat)
  case atStart => exact ⟨0, rfl, by omega, HI, HP⟩
  case round =>
    clear HI HP
    obtain ⟨k, rfl, hk, HI, HP⟩ := hrel
    by_cases hk4 : k < 4
    · go_wp2_with fail
      obtain ⟨x, hx⟩ : ∃ x, xs.getD k 0 = x := ⟨_, rfl⟩
      obtain ⟨y, hy⟩ : ∃ x, ys.getD k 0 = x := ⟨_, rfl⟩
      have g0 := HP.out.at0 k hk4
      have g1 := HP.out.at1 k hk4
      have hI := hX.out k hk4
      rw [hx] at g0 hI
      rw [hy] at g1
      clear hx hy
      go_quiet (fail)
      replace HI := Aside0.mk (HI.out.step (pw_below_drewN (Below.refl _ wr) nq))
      replace HP := Aside0.mk (HP.out.step (pw_below_drewN (Below.refl _ wr) nq))
      clear g0 g1
      generalize wr.drewN nq = W0 at *
      obtain ⟨a1, a2, A1, A2⟩ := both_add x y
      obtain ⟨b1, b2, B1, B2⟩ := both_sub x y
      obtain ⟨m1, m2, mk, M1, M2⟩ := both_mul x y
      obtain ⟨d1, d2, dk, D1, D2⟩ := both_div x y
      obtain ⟨p1, P1, P2⟩ := both_cmp x y
      have V1 := dvalid_f x
      have V2 := rvalid_f x
      replace A1 := Aside0.mk A1
      replace A2 := Aside0.mk A2
      replace B1 := Aside0.mk B1
      replace B2 := Aside0.mk B2
      replace M1 := Aside0.mk M1
      replace M2 := Aside0.mk M2
      replace D1 := Aside0.mk D1
      replace D2 := Aside0.mk D2
      replace P1 := Aside0.mk P1
      replace P2 := Aside0.mk P2
      replace V1 := Aside0.mk V1
      replace V2 := Aside0.mk V2
      go_wp2_with (first
        | (go_at_call 10; refine (chapmanlaw02_added.calls x y a1 a2 _ A1.out).mono ?_; rintro e W1 ⟨rfl, hb⟩; replace HI := Aside0.mk (HI.out.step hb); replace HP := Aside0.mk (HP.out.step hb); clear hb)
        | (go_at_call 11; refine (chapmanref02_AddIn.calls x y a1 a2 _ A2.out).mono ?_; rintro e W1 ⟨rfl, hb⟩; replace HI := Aside0.mk (HI.out.step hb); replace HP := Aside0.mk (HP.out.step hb); clear hb)
        | (go_at_call 12; refine (chapmanlaw02_less.calls x y b1 b2 _ B1.out).mono ?_; rintro e W1 ⟨rfl, hb⟩; replace HI := Aside0.mk (HI.out.step hb); replace HP := Aside0.mk (HP.out.step hb); clear hb)
        | (go_at_call 13; refine (chapmanref02_SubIn.calls x y b1 b2 _ B2.out).mono ?_; rintro e W1 ⟨rfl, hb⟩; replace HI := Aside0.mk (HI.out.step hb); replace HP := Aside0.mk (HP.out.step hb); clear hb)
        | (go_at_call 14; refine (chapmanlaw02_product.calls x y m1 m2 _ M1.out).mono ?_; rintro e W1 ⟨rfl, hb⟩; replace HI := Aside0.mk (HI.out.step hb); replace HP := Aside0.mk (HP.out.step hb); clear hb)
        | (go_at_call 15; refine (chapmanref02_MulIn.calls mk x y m1 m2 _ M2.out).mono ?_; rintro e W1 ⟨rfl, hb⟩; replace HI := Aside0.mk (HI.out.step hb); replace HP := Aside0.mk (HP.out.step hb); clear hb)
        | (go_at_call 16; refine (chapmanlaw02_quotient.calls x y d1 d2 _ D1.out).mono ?_; rintro e W1 ⟨rfl, hb⟩; replace HI := Aside0.mk (HI.out.step hb); replace HP := Aside0.mk (HP.out.step hb); clear hb)
        | (go_at_call 17; refine (chapmanref02_DivIn.calls dk x y d1 d2 _ D2.out).mono ?_; rintro e W1 ⟨rfl, hb⟩; replace HI := Aside0.mk (HI.out.step hb); replace HP := Aside0.mk (HP.out.step hb); clear hb)
        | (go_at_call 18; refine (decimal_Cmp.calls x y p1 _ P1.out).mono ?_; rintro e W1 ⟨rfl, hb⟩; replace HI := Aside0.mk (HI.out.step (drawn_below hb)); replace HP := Aside0.mk (HP.out.step (drawn_below hb)); clear hb)
        | (go_at_call 19; refine (chapmanref02_Cmp.calls x y p1 _ P2.out).mono ?_; rintro e W1 ⟨rfl, hb⟩; replace HI := Aside0.mk (HI.out.step (drawn_below hb)); replace HP := Aside0.mk (HP.out.step (drawn_below hb)); clear hb)
        | (go_at_call 20; refine (decimal_Valid.calls x _ _ V1.out).mono ?_; rintro e W1 ⟨rfl, hb⟩; replace HI := Aside0.mk (HI.out.step (drawn_below hb)); replace HP := Aside0.mk (HP.out.step (drawn_below hb)); clear hb)
        | (go_at_call 21; refine (chapmanref02_Valid.calls x _ _ V2.out).mono ?_; rintro e W1 ⟨rfl, hb⟩; replace HI := Aside0.mk (HI.out.step (drawn_below hb)); replace HP := Aside0.mk (HP.out.step (drawn_below hb)); clear hb))
      clear A1 A2 B1 B2 M1 M2 D1 D2 P1 P2 V1 V2
      obtain ⟨t, tk, htz, T1, T2⟩ := both_text x hI
      replace T1 := Aside0.mk T1
      replace T2 := Aside0.mk T2
      refine (chapmanref02_Text.calls tk x t _ T2.out).mono ?_
      rintro e W1 ⟨rfl, hb⟩
      replace HI := Aside0.mk (HI.out.step hb)
      replace HP := Aside0.mk (HP.out.step hb)
      clear hb
      go_wp2_with fail
      have Q1 : Aside0 (∀ sc : Int, ∃ p q k, chapmanlaw02_parsed.f t sc = some (p, q) ∧ chapmanref02_ParseIn.f k t sc = some (p, q)) := ⟨both_parse t htz⟩
      have Q2 : Aside0 (∀ sc : Int, ∃ p k, decimal_Trunc.f x sc = some p ∧ chapmanref02_Trunc.f k x sc = some p) := ⟨fun sc => both_trunc x sc hI⟩
      have Q3 : Aside0 (∀ sc : Int, ∃ p k, decimal_Fits.f x sc = some p ∧ chapmanref02_Fits.f k x sc = some p) := ⟨both_fits x⟩
      have Q4 : Aside0 (∀ sc : Int, ∃ p q k, chapmanlaw02_parsed.f s sc = some (p, q) ∧ chapmanref02_ParseIn.f k s sc = some (p, q)) := ⟨both_parse s (by omega)⟩
      obtain ⟨a1, a2, ak, A1, A2⟩ := Q1.out scale
      obtain ⟨b1, bk, B1, B2⟩ := Q2.out scale
      obtain ⟨c1, ck, C1, C2⟩ := Q3.out scale
      replace A1 := Aside0.mk A1
      replace A2 := Aside0.mk A2
      replace B1 := Aside0.mk B1
      replace B2 := Aside0.mk B2
      replace C1 := Aside0.mk C1
      replace C2 := Aside0.mk C2
      have h1 : W1.drew.cell? ⟨w.heap.size, 1, none⟩ = some (.int .i64 scale) := (HI.out.step (below_drew1 (Below.refl _ W1))).c1
      replace HI := Aside0.mk (HI.out.step (below_drew1 (Below.refl _ W1)))
      replace HP := Aside0.mk (HP.out.step (below_drew1 (Below.refl _ W1)))
      go_region_held3 (fun w' => w'.cell? ⟨w.heap.size, 1, none⟩ = some (.int .i64 scale) ∧ Aside0 (Inv w w.heap.size s scale A c l w') ∧ Aside0 (Prs ga xs ys w'))
        (first
          | exact ⟨h1, HI, HP⟩
          | (go_split_ands; exact ⟨pw_cell_below hb ‹_›, ⟨Inv.step (‹Aside0 (Inv w w.heap.size s scale A c l _)›).out hb⟩, ⟨Prs.step (‹Aside0 (Prs ga xs ys _)›).out hb⟩⟩))
        (first
          | (go_at_call 23; refine (decimal_Text.calls x t _ ?_ T1.out).mono ?_; (try go_split_ands); exact hgl.below (Inv.below (‹Aside0 (Inv w w.heap.size s scale A c l _)›).out); rintro e W1 ⟨rfl, hb⟩)
          | (go_at_call 24; refine (chapmanlaw02_parsed.calls t scale a1 a2 _ ?_ A1.out).mono ?_; (try go_split_ands); exact hgl.below (Inv.below (‹Aside0 (Inv w w.heap.size s scale A c l _)›).out); rintro e W1 ⟨rfl, hb⟩)
          | (go_at_call 25; refine (chapmanref02_ParseIn.calls ak t scale a1 a2 _ A2.out).mono ?_; rintro e W1 ⟨rfl, hb⟩)
          | (go_at_call 26; refine (decimal_Trunc.calls x scale b1 _ ?_ B1.out).mono ?_; (try go_split_ands); exact hgl.below (Inv.below (‹Aside0 (Inv w w.heap.size s scale A c l _)›).out); rintro e W1 ⟨rfl, hd⟩; have hb := drawn_below hd)
          | (go_at_call 27; refine (chapmanref02_Trunc.calls bk x scale b1 _ B2.out).mono ?_; rintro e W1 ⟨rfl, hd⟩; have hb := drawn_below hd)
          | (go_at_call 28; refine (decimal_Fits.calls x scale c1 _ ?_ C1.out).mono ?_; (try go_split_ands); exact hgl.below (Inv.below (‹Aside0 (Inv w w.heap.size s scale A c l _)›).out); rintro e W1 ⟨rfl, hd⟩; have hb := drawn_below hd)
          | (go_at_call 29; refine (chapmanref02_Fits.calls ck x scale c1 _ C2.out).mono ?_; rintro e W1 ⟨rfl, hd⟩; have hb := drawn_below hd))
      rename_i hH
      replace HI := hH.2.1
      replace HP := hH.2.2
      clear hH hb hd h1 A1 A2 B1 B2 C1 C2 T1 T2
      go_wp2_with fail
      go_loopw [13] (fun v13 wr => ∃ sc : Int, v13 = .int .i64 sc ∧ -1 ≤ sc ∧ sc ≤ 8 ∧ Aside0 (Inv w w.heap.size s scale A c l wr) ∧ Aside0 (Prs ga xs ys wr)) (fun v13 _ => (8 - intOf v13).toNat)
      case atStart => exact ⟨-1, rfl, by omega, by omega, HI, HP⟩
      case round =>
        clear HI HP
        obtain ⟨sc, rfl, hs1, hs2, HI, HP⟩ := hrel
        by_cases hsc8 : sc ≤ 7
        · obtain ⟨a1, a2, ak, A1, A2⟩ := Q1.out sc
          obtain ⟨b1, bk, B1, B2⟩ := Q2.out sc
          obtain ⟨c1, ck, C1, C2⟩ := Q3.out sc
          obtain ⟨d1, d2, dk, D1, D2⟩ := Q4.out sc
          replace A1 := Aside0.mk A1
          replace A2 := Aside0.mk A2
          replace B1 := Aside0.mk B1
          replace B2 := Aside0.mk B2
          replace C1 := Aside0.mk C1
          replace C2 := Aside0.mk C2
          replace D1 := Aside0.mk D1
          replace D2 := Aside0.mk D2
          go_wp2_with fail
          have h0 := (HI.out.step (below_drew1 (Below.refl _ _))).c0
          replace HI := Aside0.mk (HI.out.step (below_drew1 (Below.refl _ _)))
          replace HP := Aside0.mk (HP.out.step (below_drew1 (Below.refl _ _)))
          go_region_held3 (fun w' => w'.cell? ⟨w.heap.size, 0, none⟩ = some (.string s) ∧ Aside0 (Inv w w.heap.size s scale A c l w') ∧ Aside0 (Prs ga xs ys w'))
            (first
              | exact ⟨h0, HI, HP⟩
              | (go_split_ands; exact ⟨pw_cell_below hb ‹_›, ⟨Inv.step (‹Aside0 (Inv w w.heap.size s scale A c l _)›).out hb⟩, ⟨Prs.step (‹Aside0 (Prs ga xs ys _)›).out hb⟩⟩))
            (first
              | (go_at_call 24; (with_reducible refine (chapmanlaw02_parsed.calls t sc a1 a2 _ ?_ A1.out).mono ?_); (try go_split_ands); exact hgl.below (Inv.below (‹Aside0 (Inv w w.heap.size s scale A c l _)›).out); rintro e W1 ⟨rfl, hb⟩)
              | (go_at_call 25; (with_reducible refine (chapmanref02_ParseIn.calls ak t sc a1 a2 _ A2.out).mono ?_); rintro e W1 ⟨rfl, hb⟩)
              | (go_at_call 26; (with_reducible refine (decimal_Trunc.calls x sc b1 _ ?_ B1.out).mono ?_); (try go_split_ands); exact hgl.below (Inv.below (‹Aside0 (Inv w w.heap.size s scale A c l _)›).out); rintro e W1 ⟨rfl, hd⟩; have hb := drawn_below hd)
              | (go_at_call 27; (with_reducible refine (chapmanref02_Trunc.calls bk x sc b1 _ B2.out).mono ?_); rintro e W1 ⟨rfl, hd⟩; have hb := drawn_below hd)
              | (go_at_call 28; (with_reducible refine (decimal_Fits.calls x sc c1 _ ?_ C1.out).mono ?_); (try go_split_ands); exact hgl.below (Inv.below (‹Aside0 (Inv w w.heap.size s scale A c l _)›).out); rintro e W1 ⟨rfl, hd⟩; have hb := drawn_below hd)
              | (go_at_call 29; (with_reducible refine (chapmanref02_Fits.calls ck x sc c1 _ C2.out).mono ?_); rintro e W1 ⟨rfl, hd⟩; have hb := drawn_below hd)
              | (go_at_call 24; (with_reducible refine (chapmanlaw02_parsed.calls s sc d1 d2 _ ?_ D1.out).mono ?_); (try go_split_ands); exact hgl.below (Inv.below (‹Aside0 (Inv w w.heap.size s scale A c l _)›).out); rintro e W1 ⟨rfl, hb⟩)
              | (go_at_call 25; (with_reducible refine (chapmanref02_ParseIn.calls dk s sc d1 d2 _ D2.out).mono ?_); rintro e W1 ⟨rfl, hb⟩))
          rename_i hH
          replace HI := hH.2.1
          replace HP := hH.2.2
          clear hH hb h0 A1 A2 B1 B2 C1 C2 D1 D2
          go_wp2_with fail
          go_roundw
          case rel => exact ⟨sc + 1, rfl, by omega, by omega, HI, HP⟩
          case measure => simp [intOf]; omega
        · go_wp2_with fail
          go_roundw
          case rel => exact ⟨k + 1, by go_num, by omega, HI, HP⟩
          case measure => simp [intOf]; omega
    · obtain ⟨b1, b2, bk, B1, B2⟩ := both_sum l (by omega)
      obtain ⟨d1, d2, dk, D1, D2⟩ := both_parse s (by omega) scale
      replace B1 := Aside0.mk B1
      replace B2 := Aside0.mk B2
      replace D1 := Aside0.mk D1
      replace D2 := Aside0.mk D2
      go_wp2_with fail
      have h0 := (HI.out.step (below_drew1 (Below.refl _ _))).c0
      have h1 := (HI.out.step (below_drew1 (Below.refl _ _))).c1
      have h2 := (HI.out.step (below_drew1 (Below.refl _ _))).c2
      replace HI := Aside0.mk (HI.out.step (below_drew1 (Below.refl _ _)))
      go_region_held3 (fun w' => w'.cell? ⟨w.heap.size, 0, none⟩ = some (.string s) ∧ w'.cell? ⟨w.heap.size, 1, none⟩ = some (.int .i64 scale) ∧ w'.cell? ⟨w.heap.size, 2, none⟩ = some (.slice A l.length c) ∧ Aside0 (Inv w w.heap.size s scale A c l w'))
        (first
          | exact ⟨h0, h1, h2, HI⟩
          | (go_split_ands; exact ⟨pw_cell_below hb ‹_›, pw_cell_below hb ‹_›, pw_cell_below hb ‹_›, ⟨Inv.step (‹Aside0 (Inv w w.heap.size s scale A c l _)›).out hb⟩⟩))
        (first
          | (go_at_call 24; (with_reducible refine (chapmanlaw02_parsed.calls s scale d1 d2 _ ?_ D1.out).mono ?_); (try go_split_ands); exact hgl.below (Inv.below (‹Aside0 (Inv w w.heap.size s scale A c l _)›).out); rintro e W1 ⟨rfl, hb⟩)
          | (go_at_call 25; (with_reducible refine (chapmanref02_ParseIn.calls dk s scale d1 d2 _ D2.out).mono ?_); rintro e W1 ⟨rfl, hb⟩)
          | (go_at_call 30; (with_reducible refine (chapmanlaw02_sum.calls A c l b1 b2 _ ?_ hc B1.out).mono ?_); (try go_split_ands); exact Inv.ls (‹Aside0 (Inv w w.heap.size s scale A c l _)›).out; rintro e W1 ⟨rfl, hb⟩)
          | (go_at_call 31; (with_reducible refine (chapmanref02_SumIn.calls bk A c l b1 b2 _ ?_ hc B2.out).mono ?_); (try go_split_ands); exact Inv.ls (‹Aside0 (Inv w w.heap.size s scale A c l _)›).out; rintro e W1 ⟨rfl, hb⟩))
      rename_i hH
      replace HI := hH.2.2.2
      clear hH hb h0 h1 h2
      go_wp2_with fail
      go_ret
      exact ⟨rfl, HI.out.below⟩
theorem match_law (a b : Int) (s : ByteArray) (scale : Int) (A : Option Addr) (len cap : Nat) (zs : List Int) (w : World) (hgl : Gl w) (wa : (Lit.int .i64 a).wf = true) (wb : (Lit.int .i64 b).wf = true) (ws : (Lit.int .i64 scale).wf = true)
    (hrow : (A = none ∧ len = 0 ∧ cap = 0 ∧ zs = []) ∨ ∃ x, A = some x ∧ len ≤ cap ∧ cap ≤ maxLen ∧ zs.length = cap ∧ (∀ i, i < zs.length → w.cell? (x.add i) = some (.int .i64 (zs.getD i 0))) ∧ ∀ n ∈ zs, (Lit.int .i64 n).wf = true) :
    Calls Tryz.prog 3 #[.int .i64 a, .int .i64 b, .agg #[.string s, .int .i64 scale, .slice A len cap]] w fun e w' => e = .returned (.bool true) ∧ Below w.heap.size w w' := by
  have ha : -9223372036854775808 ≤ a ∧ a ≤ 9223372036854775807 := by simpa [Lit.wf, IntKind.min, IntKind.max, IntKind.signed, IntKind.bits] using wa
  have hb : -9223372036854775808 ≤ b ∧ b ≤ 9223372036854775807 := by simpa [Lit.wf, IntKind.min, IntKind.max, IntKind.signed, IntKind.bits] using wb
  have hs : -9223372036854775808 ≤ scale ∧ scale ≤ 9223372036854775807 := by simpa [Lit.wf, IntKind.min, IntKind.max, IntKind.signed, IntKind.bits] using ws
  obtain ⟨l, rfl, hr, hm, hw, hc⟩ := ReadsInt.ofRowC hrow
  exact match_walk a b s scale A cap l w hgl ha hb hs (Kd.C_of_reads (d := (0 : Int)) (h1 := fun _ => rfl) hr) hc
end Go.Proofs.YtckonpphagkfeaaGreatDoor.H
