/- The walk of the law of sums. -/
import Derived.Test.YtckonpphagkfeaaGreatDoorHExam
import Derived.Test.YtckonpphagkfeaaGreatDoorPRound
import Derived.Test.YtckonpphagkfeaaGreatDoorPRows
import Derived.Deep.RegionHeld3
namespace Go.Proofs.YtckonpphagkfeaaGreatDoor.H
open Go.RowKit Go.Proofs.YtckonpphagkfeaaGreatDoor.Q Go.Proofs.YtckonpphagkfeaaGreatDoorW.PrintWords Go.Proofs.YtckonpphagkfeaaGreatDoorW.PrintLast Go.Proofs.YtckonpphagkfeaaGreatDoorW.PrintMore
set_option linter.unusedVariables false
set_option linter.unusedSimpArgs false

def addR (x y : Int) : Int × Int := if -1000000000000000 ≤ x + y ∧ x + y ≤ 1000000000000000 then (x + y, 0) else (0, 2)
theorem added_f {x y : Int} (hx : -1000000000000000 ≤ x ∧ x ≤ 1000000000000000) (hy : -1000000000000000 ≤ y ∧ y ≤ 1000000000000000) : chapmanlaw02_added.f x y = some (addR x y) := by
  have hm : addR x y = addR x y := rfl
  unfold chapmanlaw02_added.f decimal_Add.f decimal_checked.f decimal_Valid.f addR
  have e1 : wrap64 (x + y) = x + y := wrap64_id _ (by omega)
  simp only [e1]
  rw [if_pos hx.1, Option.bind_some, decide_eq_true hx.2, if_pos rfl, if_pos hy.1, Option.bind_some, decide_eq_true hy.2, if_pos rfl]
  by_cases h1 : x + y ≥ -1000000000000000
  · by_cases h2 : x + y ≤ 1000000000000000
    · rw [if_pos h1, if_pos ⟨h1, h2⟩]; simp [h2]
    · rw [if_pos h1, if_neg (by omega)]; simp [h2]
  · rw [if_neg h1, if_neg (by omega)]; simp
theorem less_f {x y : Int} (hx : -1000000000000000 ≤ x ∧ x ≤ 1000000000000000) (hy : -1000000000000000 ≤ y ∧ y ≤ 1000000000000000) : chapmanlaw02_less.f x y = some (addR x (-y)) := by
  unfold chapmanlaw02_less.f decimal_Sub.f decimal_checked.f decimal_Valid.f addR
  have e1 : wrap64 (x - y) = x - y := wrap64_id _ (by omega)
  have e2 : x + -y = x - y := by omega
  simp only [e1, e2]
  rw [if_pos hx.1, Option.bind_some, decide_eq_true hx.2, if_pos rfl, if_pos hy.1, Option.bind_some, decide_eq_true hy.2, if_pos rfl]
  by_cases h1 : x - y ≥ -1000000000000000
  · by_cases h2 : x - y ≤ 1000000000000000
    · rw [if_pos h1, if_pos ⟨h1, h2⟩]; simp [h2]
    · rw [if_pos h1, if_neg (by omega)]; simp [h2]
  · rw [if_neg h1, if_neg (by omega)]; simp
theorem cell_new (w : World) (cs : Array Value) (t : TypeId) (j : Nat) : (w.alloc (.cells cs t)).cell? ⟨w.heap.size, j, none⟩ = cs[j]? := by
  have ha : (w.alloc (.cells cs t)).heap[w.heap.size]? = some (.cells cs t) := by
    show (w.heap.push _)[w.heap.size]? = _
    exact Array.getElem?_push_size
  simp only [World.cell?, ha]
  simp
/-- What is known at each step: nothing that was there has turned, the list is read as it was. -/
structure InvL (w : World) (A : Option Addr) (l : List Int) (W : World) : Prop where
  below : Below w.heap.size w W
  ls : Kd.C (Kd.int .i64) W A l.length l
theorem InvL.of {w : World} {A : Option Addr} {l : List Int} {W : World} (hr : Kd.C (Kd.int .i64) w A l.length l) (hb : Below w.heap.size w W) : InvL w A l W := ⟨hb, Kd.C_below hr hb⟩
theorem info_int : (Tryz.prog.info? 3).map (fun i => (i.zero, i.size, i.bytes)) = some (some (.int .i64 0), 1, 8) := by kernel_rfl
theorem drop_rev (l : List Int) (n : Nat) (h : n < l.length) : (l.drop (n + 1)).reverse ++ [rd l (n : Int)] = (l.drop n).reverse := by
  rw [List.drop_eq_getElem_cons h, List.reverse_cons]
  simp [rd, h]
theorem InvL.step {w : World} {A : Option Addr} {l : List Int} {W W' : World} (h : InvL w A l W) (hb : Below W.heap.size W W') : InvL w A l W' :=
  ⟨below_step h.below hb, Kd.C_below h.ls hb⟩
theorem sum_f (l : List Int) (h : l.length ≤ 1000) : chapmanlaw02_sum.f l = some ((sumR l).1, (sumR l).2) := by
  unfold chapmanlaw02_sum.f decimal_Sum.f
  rw [if_pos (by omega)]
  rfl
theorem eqR (d : Nat) (w : World) (x0 y0 : Int) (x1 y1 : Int) :
    (Op.equalIn (d + 2) 30 (.agg #[.int .i64 x0, .int .i64 x1]) (.agg #[.int .i64 y0, .int .i64 y1])).run Tryz.prog w = .ok (x0 == y0 && (x1 == y1)) w := by
  refine eqA_of Tryz.underlying30 (by kernel_rfl) ?_
  refine eqf_cons (by rfl) (by go_simp; rfl) (by go_simp; rfl) (by go_simp) ?_
  exact eqf_last (by rfl) (by go_simp; rfl) (by go_simp; rfl) (by go_simp)
theorem sum_rev (l : List Int) : sumR l.reverse = sumR l := by
  have h2 : l.reverse.sum = l.sum := by
    induction l with
    | nil => rfl
    | cons x l ih =>
      rw [List.reverse_cons, List.sum_append, ih]
      simp
      omega
  unfold sumR
  rw [List.all_reverse, h2]
theorem sum_zero (l : List Int) : sumR (l ++ [0]) = sumR l := by
  unfold sumR
  rw [List.all_append, List.sum_append]
  have : [(0 : Int)].all okS = true := rfl
  rw [this, Bool.and_true]
  simp
theorem sum_parts (l : List Int) (k : Nat) (h1 : (sumR (l.take k)).2 = 0) (h2 : (sumR (l.drop k)).2 = 0) : sumR [(sumR (l.take k)).1, (sumR (l.drop k)).1] = sumR l := by
  have e : ∀ m : List Int, (sumR m).2 = 0 → m.all okS = true ∧ okS m.sum = true ∧ (sumR m).1 = m.sum := by
    intro m hm
    unfold sumR at hm ⊢
    split at hm
    · rename_i hc
      rw [Bool.and_eq_true] at hc
      rw [if_pos (by rw [hc.1, hc.2]; rfl)]
      exact ⟨hc.1, hc.2, rfl⟩
    · cases hm
  obtain ⟨a1, a2, a3⟩ := e _ h1
  obtain ⟨b1, b2, b3⟩ := e _ h2
  rw [a3, b3]
  have hl : l.all okS = true := by
    rw [← List.take_append_drop k l, List.all_append, a1, b1]
    rfl
  have hs : l.sum = (l.take k).sum + (l.drop k).sum := by
    conv => lhs; rw [← List.take_append_drop k l]
    rw [List.sum_append]
  unfold sumR
  rw [hl, hs]
  simp [a2, b2]
theorem sum_forms (l : List Int) : (sumR l).2 = 0 ∨ sumR l = (0, 2) := by
  unfold sumR
  split
  · exact .inl rfl
  · exact .inr rfl
def vs14 (vA vk vT vD rU rV rW : Value) : List Inv.VO := [⟨0, 110, vA⟩, ⟨1, 111, rU⟩, ⟨2, 112, vA⟩, ⟨3, 113, vk⟩, ⟨4, 114, vT⟩, ⟨5, 115, rV⟩, ⟨6, 116, vA⟩, ⟨7, 117, vk⟩, ⟨8, 118, vD⟩, ⟨9, 119, rW⟩]
def bs14 (cU cV cW : Array Value) : List Inv.BX := [⟨10, 14, 13, cU, #[.int .i64 0, .int .i64 0], 30⟩, ⟨11, 15, 14, cV, #[.int .i64 0, .int .i64 0], 30⟩, ⟨12, 16, 15, cW, #[.int .i64 0, .int .i64 0], 30⟩]
theorem ok14 (vA vk vT vD rU rV rW : Value) (cU cV cW : Array Value) : Inv.Ok (vs14 vA vk vT vD rU rV rW) (bs14 cU cV cW) :=
  ⟨by show List.Nodup [0, 1, 2, 3, 4, 5, 6, 7, 8, 9]; decide, by show List.Nodup [110, 111, 112, 113, 114, 115, 116, 117, 118, 119]; decide, by show List.Nodup [10, 11, 12]; decide, by show List.Nodup [14, 15, 16]; decide, by show List.Nodup [13, 14, 15]; decide,
    by show List.Nodup [0, 1, 2, 3, 4, 5, 6, 7, 8, 9, 10, 11, 12]; decide, by show List.Nodup [0, 1, 2, 3, 4, 5, 6, 7, 8, 9, 13, 14, 15]; decide, by show List.Nodup [10, 11, 12, 13, 14, 15]; decide, by show List.Nodup [110, 111, 112, 113, 114, 115, 116, 117, 118, 119, 14, 15, 16]; decide⟩
theorem off14 (vA vk vT vD rU rV rW : Value) (cU cV cW : Array Value) : ∀ n, n ∈ [2, 13] → n ∉ Inv.dsts (vs14 vA vk vT vD rU rV rW) (bs14 cU cV cW) := by
  intro n hn
  show n ∉ [110, 111, 112, 113, 114, 115, 116, 117, 118, 119, 14, 15, 16]
  revert n
  decide
attribute [local go_sem high] eqR fld0 fld1

set_option maxHeartbeats 32000000 in
set_option maxRecDepth 100000 in
theorem sums_walk (a b : Int) (A : Option Addr) (c : Nat) (l : List Int) (w : World) (hgl : Gl w) (ha0 : -9223372036854775808 ≤ a) (ha1 : a ≤ 9223372036854775807) (hb0 : -9223372036854775808 ≤ b) (hb1 : b ≤ 9223372036854775807)
    (hr : Kd.C (Kd.int .i64) w A l.length l) (hc : l.length ≤ c) :
    Calls Tryz.prog 5 #[.int .i64 a, .int .i64 b, .slice A l.length c] w fun e w' => e = .returned (.bool true) ∧ Below w.heap.size w w' := by
  have HI : Aside0 (InvL w A l w) := ⟨⟨Below.refl _ _, hr⟩⟩
  have HR := Aside0.mk hr
  clear hr
  go_enter Tryz.func5, Tryz.ntmps5
  go_wp2_with fail
  refine (chapmanlaw02_examples.calls true _ hgl rfl).mono ?_
  rintro e W0 ⟨rfl, hb⟩
  replace HI := Aside0.mk (HI.out.step hb)
  clear hb
  by_cases hl : 60 < l.length
  · have hl' : decide (60 < (l.length : Int)) = true := decide_eq_true (by omega)
    go_wp2_with fail
    go_ret
    exact ⟨rfl, HI.out.below⟩
  have hl' : decide (60 < (l.length : Int)) = false := decide_eq_false (by omega)
  have hx := tmod_in a 1000000000000001 (by decide)
  have hy := tmod_in b 1000000000000001 (by decide)
  obtain ⟨x, hxe⟩ : ∃ x, Int.tmod a 1000000000000001 = x := ⟨_, rfl⟩
  obtain ⟨y, hye⟩ : ∃ y, Int.tmod b 1000000000000001 = y := ⟨_, rfl⟩
  rw [hxe] at hx
  rw [hye] at hy
  have hz : ((1000000000000001 : Int) == 0) = false := rfl
  go_wp2_with fail
  have hx' : -1000000000000000 ≤ x ∧ x ≤ 1000000000000000 := by omega
  have hy' : -1000000000000000 ≤ y ∧ y ≤ 1000000000000000 := by omega
  clear hx hy hxe hye hz hl'
  refine (chapmanlaw02_added.calls x y (addR x y).1 (addR x y).2 _ (added_f hx' hy')).mono ?_
  rintro e W1 ⟨rfl, hb⟩
  replace HI := Aside0.mk (HI.out.step hb)
  clear hb
  go_upto_region 6 with (fail)
  have hp0 := cell_new W1 #[.int .i64 (addR x y).1, .int .i64 (addR x y).2] 30 0
  have hp1 := cell_new W1 #[.int .i64 (addR x y).1, .int .i64 (addR x y).2] 30 1
  replace HI := Aside0.mk (HI.out.step (below_alloc (Below.refl _ W1) (.cells #[.int .i64 (addR x y).1, .int .i64 (addR x y).2] 30)))
  generalize hg : W1.heap.size = g at *
  generalize W1.alloc (.cells #[.int .i64 (addR x y).1, .int .i64 (addR x y).2] 30) = W2 at *
  replace hp0 : W2.cell? ⟨g, 0, none⟩ = some (.int .i64 (addR x y).1) := hp0
  replace hp1 : W2.cell? ⟨g, 1, none⟩ = some (.int .i64 (addR x y).2) := hp1
  clear hg
  have HP0 := Aside0.mk hp0
  have HP1 := Aside0.mk hp1
  clear hp0 hp1
  go_cut [91] (fun v91 wc => v91 = .bool false ∧ Aside0 (InvL w A l wc))
  case first =>
    have P1 := added_f hx' hy'
    have P2 := added_f hy' hx'
    have P3 := less_f hx' hy'
    have P4 := added_f (x := x) (y := -y) hx' (by omega)
    have hwn : IntKind.i64.wrap (-y) = -y := by rw [i64_w]; exact wrap64_id _ (by omega)
    have hws : IntKind.i64.wrap (x + y) = x + y := by rw [i64_w]; exact wrap64_id _ (by omega)
    have hcomm : addR y x = addR x y := by unfold addR; rw [Int.add_comm]
    rw [hcomm] at P2
    clear hcomm P1
    obtain ⟨q1, q2, hq⟩ : ∃ q1 q2, addR x (-y) = (q1, q2) := ⟨_, _, rfl⟩
    rw [hq] at P3 P4
    clear hq
    replace P3 := Aside0.mk P3
    replace P4 := Aside0.mk P4
    have hu := Tryz.underlying30
    have hd := HP0.out
    have hd1 := HP1.out
    by_cases hin : -1000000000000000 ≤ x + y ∧ x + y ≤ 1000000000000000
    · have hp : addR x y = (x + y, 0) := if_pos hin
      rw [hp] at hd hd1 P2
      have P5 : chapmanlaw02_less.f (x + y) y = some (x, 0) := by
        rw [less_f ⟨hin.1, hin.2⟩ hy', addR, show x + y + -y = x by omega, if_pos hx']
      obtain ⟨z, hz⟩ : ∃ z, z = x + y := ⟨_, rfl⟩
      have hws' : IntKind.i64.wrap (x + y) = z := hws.trans hz.symm
      try rw [← hz] at hd
      try rw [← hz] at P2
      try rw [← hz] at hbig
      try rw [← hz] at P5
      replace P2 := Aside0.mk P2
      clear hp hin HP0 HP1 hws hz
      replace P5 := Aside0.mk P5
      refine Inv.wp_region_class (fun w' => w'.cell? ⟨g, 0, none⟩ = some (.int .i64 z) ∧ w'.cell? ⟨g, 1, none⟩ = some (.int .i64 0) ∧ InvL w A l w') (by kernel_rfl) (by kernel_rfl) ⟨hd, hd1, HI.out.step (below_drew1 (Below.refl _ _))⟩ ?_
      clear HI hd hd1
      repeat (first
        | (go_big_quiet_skip)
        | (go_big_quiet_want; (first | refine BigFrame.quiet_move _ rfl ?_ | refine BigFrame.quiet_assign _ rfl ?_); go_big_quiet_on; simp only [Act.put, Act.eval, List.setIfInBounds_toArray, List.set_cons_zero, List.set_cons_succ, List.getD_toArray, List.getD_cons_zero, List.getD_cons_succ])
        | (go_big_quiet_want; apply Exists.intro; refine ⟨fun W hW => ?_, ?_⟩; (obtain ⟨c0, c1, HI⟩ := hW; unfold Oper.quietAt; go_simp; first | exact ⟨rfl, rfl⟩ | exact rfl | ((with_reducible refine (chapmanlaw02_added.calls y x z 0 _ P2.out).mono ?_); rintro e w'' ⟨rfl, hb⟩; exact ⟨rfl, pw_cell_below hb c0, pw_cell_below hb c1, HI.step hb⟩) | ((with_reducible refine (chapmanlaw02_added.calls x (-y) q1 q2 _ P4.out).mono ?_); rintro e w'' ⟨rfl, hb⟩; exact ⟨rfl, pw_cell_below hb c0, pw_cell_below hb c1, HI.step hb⟩) | ((with_reducible refine (chapmanlaw02_less.calls z y x 0 _ P5.out).mono ?_); rintro e w'' ⟨rfl, hb⟩; exact ⟨rfl, pw_cell_below hb c0, pw_cell_below hb c1, HI.step hb⟩) | ((with_reducible refine (chapmanlaw02_less.calls x y q1 q2 _ P3.out).mono ?_); rintro e w'' ⟨rfl, hb⟩; exact ⟨rfl, pw_cell_below hb c0, pw_cell_below hb c1, HI.step hb⟩)); go_big_quiet_on; simp only [Act.put, List.setIfInBounds_toArray, List.set_cons_zero, List.set_cons_succ]))
      refine wpQuiet_nil ?_
      rintro w' ⟨c0, c1, HI⟩
      go_wp2_with fail
      go_meet
      exact ⟨by first | rfl | simp, ⟨HI⟩⟩
    · have hp : addR x y = (0, 2) := if_neg hin
      rw [hp] at hd hd1 P2
      have hbig : decide (x + y ≤ 1000000000000000) = true → decide (-1000000000000000 ≤ x + y) = false := by
        intro h
        have := of_decide_eq_true h
        exact decide_eq_false (by omega)
      obtain ⟨z, hz⟩ : ∃ z, z = x + y := ⟨_, rfl⟩
      have hws' : IntKind.i64.wrap (x + y) = z := hws.trans hz.symm
      try rw [← hz] at hd
      try rw [← hz] at P2
      try rw [← hz] at hbig
      try rw [← hz] at P5
      replace P2 := Aside0.mk P2
      clear hp hin HP0 HP1 hws hz
      refine Inv.wp_region_class (fun w' => w'.cell? ⟨g, 0, none⟩ = some (.int .i64 0) ∧ w'.cell? ⟨g, 1, none⟩ = some (.int .i64 2) ∧ InvL w A l w') (by kernel_rfl) (by kernel_rfl) ⟨hd, hd1, HI.out.step (below_drew1 (Below.refl _ _))⟩ ?_
      clear HI hd hd1
      cases hle : decide (z ≤ 1000000000000000)
      · clear hbig
        repeat (first
          | (go_big_quiet_skip)
          | (go_big_quiet_want; (first | refine BigFrame.quiet_move _ rfl ?_ | refine BigFrame.quiet_assign _ rfl ?_); go_big_quiet_on; simp only [Act.put, Act.eval, List.setIfInBounds_toArray, List.set_cons_zero, List.set_cons_succ, List.getD_toArray, List.getD_cons_zero, List.getD_cons_succ])
          | (go_big_quiet_want; apply Exists.intro; refine ⟨fun W hW => ?_, ?_⟩; (obtain ⟨c0, c1, HI⟩ := hW; unfold Oper.quietAt; go_simp; first | exact ⟨rfl, rfl⟩ | exact rfl | ((with_reducible refine (chapmanlaw02_added.calls y x 0 2 _ P2.out).mono ?_); rintro e w'' ⟨rfl, hb⟩; exact ⟨rfl, pw_cell_below hb c0, pw_cell_below hb c1, HI.step hb⟩) | ((with_reducible refine (chapmanlaw02_added.calls x (-y) q1 q2 _ P4.out).mono ?_); rintro e w'' ⟨rfl, hb⟩; exact ⟨rfl, pw_cell_below hb c0, pw_cell_below hb c1, HI.step hb⟩) | ((with_reducible refine (chapmanlaw02_less.calls x y q1 q2 _ P3.out).mono ?_); rintro e w'' ⟨rfl, hb⟩; exact ⟨rfl, pw_cell_below hb c0, pw_cell_below hb c1, HI.step hb⟩)); go_big_quiet_on; simp only [Act.put, List.setIfInBounds_toArray, List.set_cons_zero, List.set_cons_succ]))
        refine wpQuiet_nil ?_
        rintro w' ⟨c0, c1, HI⟩
        go_wp2_with fail
        go_meet
        exact ⟨by first | rfl | simp, ⟨HI⟩⟩
      · replace hbig := hbig hle
        repeat (first
          | (go_big_quiet_skip)
          | (go_big_quiet_want; (first | refine BigFrame.quiet_move _ rfl ?_ | refine BigFrame.quiet_assign _ rfl ?_); go_big_quiet_on; simp only [Act.put, Act.eval, List.setIfInBounds_toArray, List.set_cons_zero, List.set_cons_succ, List.getD_toArray, List.getD_cons_zero, List.getD_cons_succ])
          | (go_big_quiet_want; apply Exists.intro; refine ⟨fun W hW => ?_, ?_⟩; (obtain ⟨c0, c1, HI⟩ := hW; unfold Oper.quietAt; go_simp; first | exact ⟨rfl, rfl⟩ | exact rfl | ((with_reducible refine (chapmanlaw02_added.calls y x 0 2 _ P2.out).mono ?_); rintro e w'' ⟨rfl, hb⟩; exact ⟨rfl, pw_cell_below hb c0, pw_cell_below hb c1, HI.step hb⟩) | ((with_reducible refine (chapmanlaw02_added.calls x (-y) q1 q2 _ P4.out).mono ?_); rintro e w'' ⟨rfl, hb⟩; exact ⟨rfl, pw_cell_below hb c0, pw_cell_below hb c1, HI.step hb⟩) | ((with_reducible refine (chapmanlaw02_less.calls x y q1 q2 _ P3.out).mono ?_); rintro e w'' ⟨rfl, hb⟩; exact ⟨rfl, pw_cell_below hb c0, pw_cell_below hb c1, HI.step hb⟩)); go_big_quiet_on; simp only [Act.put, List.setIfInBounds_toArray, List.set_cons_zero, List.set_cons_succ]))
        refine wpQuiet_nil ?_
        rintro w' ⟨c0, c1, HI⟩
        go_wp2_with fail
        go_meet
        exact ⟨by first | rfl | simp, ⟨HI⟩⟩
  case rest =>
    obtain ⟨rfl, HI⟩ := hcut
    clear HP0 HP1
    go_wp2_with (first
      | ((with_reducible refine gate_dst (N := 92) rfl ?_); (try (refine gate_guard (by rfl) ?_; dsimp only)); refine Kd.R_lit (Kd.int .i64) _ 3 ?hg (N := 92) ?hd (xs := ([] : List Int)) (inner := []) (ok := fun _ => True) (okp := fun _ => True) ?hr ?hp (fun _ hk => hk) trivial (Below.refl _ _) (Nat.le_refl _) (by simp) ?_; (case hd => rfl); (case hg => rfl); (case hr => first | (go_simp; done) | (go_simp; rfl)); (case hp => exact (Reps.none _ _)); intro v92 w92 ho hb hg_ hnew_; clear hg_ hnew_; have HO := Aside0.mk (Kd.R_lower ho HI.out.below.size); replace HI := Aside0.mk (HI.out.step hb); clear hb ho))
    go_loopw [11, 12] (fun v11 v12 wr => ∃ i : Int, v12 = .int .i64 i ∧ -1 ≤ i ∧ i < (l.length : Int) ∧ Aside0 (Kd.R (Kd.int .i64) 3 wr w.heap.size (fun _ => True) v11 (l.drop (i + 1).toNat).reverse) ∧ Aside0 (InvL w A l wr)) (fun _ v12 _ => (intOf v12 + 1).toNat)
    case atStart => exact ⟨(l.length : Int) - 1, by first | rfl | simp, by omega, by omega, by rw [show ((l.length : Int) - 1 + 1).toNat = l.length by omega, List.drop_length]; exact HO, HI⟩
    case round =>
      clear HO HI
      obtain ⟨i, rfl, hi1, hi2, HO, HI⟩ := hrel
      by_cases hi : 0 ≤ i
      · obtain ⟨n, rfl⟩ : ∃ n : Nat, i = n := ⟨i.toNat, by omega⟩
        have hn : n < l.length := by omega
        rw [show ((n : Int) + 1).toNat = n + 1 by omega] at HO
        have hdr := Aside0.mk (drop_rev l n hn)
        obtain ⟨ad, had, hcell⟩ := Kd.at_int HI.out.ls (n : Int) (by omega) (by omega)
        subst had
        rw [Int.toNat_natCast] at hcell
        generalize hX : rd l (n : Int) = e at *
        have HX := Aside0.mk hX
        clear hX
        obtain ⟨ys, hys⟩ : ∃ ys, ys = (l.drop (n + 1)).reverse := ⟨_, rfl⟩
        rw [← hys] at HO hdr
        have hyl : ys.length ≤ 60 := by rw [hys]; simp; omega
        clear hys
        go_wp2_with (first
          | ((with_reducible refine gate_dst (N := 105) rfl ?_); (try (refine gate_guard (by rfl) ?_; dsimp only)); refine Kd.R_lit (Kd.int .i64) _ 3 ?hg (N := 105) ?hd (xs := [e]) (inner := [.int .i64 e]) (ok := fun _ => True) (okp := fun _ => True) ?hr ?hp (fun _ hk => hk) trivial (Below.refl _ _) (Nat.le_refl _) (by simp) ?_; (case hd => rfl); (case hg => rfl); (case hr => first | (go_simp; done) | (go_simp; rfl)); (case hp => exact (Reps.one (show Kd.M (Kd.int .i64) _ _ _ e [.int .i64 e] from rfl) (Reps.none _ _))); intro v105 w105 ho hb hg_ hnew_; clear hg_ hnew_; have HN := Aside0.mk (Kd.R_new' ho (Kd.R_lt HO.out)); have HO2 := Aside0.mk (Kd.R_elder' HO.out (Kd.R_base ho) hb); replace HI := Aside0.mk (HI.out.step hb); clear hb ho HO; obtain ⟨Ao, co, eo⟩ := Kd.R_slice HN.out; subst eo)
          | ((with_reducible refine gate_builtin (b := .append) (xs := #[.tmp 100, .tmp 105]) rfl ?_); (try (refine gate_guard (by rfl) ?_; dsimp only)); at_builtin; refine Kd.R_append_rows (Kd.int .i64) (w0 := w) w.heap.size rfl (.tmp 100) (.tmp 105) 22 3 (.int .i64 0) 8 rfl Tryz.underlying22 info_int rfl (by decide) (by omega) _ ys [e] _ _ _ (fun k_ => some k_ ≠ (.slice Ao [e].length co : Value).ownBlock) (fun _ => False) rfl rfl ?aO ?aR (fun _ _ h => h) (fun _ h => h.elim) ?aF ?aB ?aS ?aL ?_; (case aR => exact (Kd.R_reads' HN.out).2.2); (case aB => exact HI.out.below); (case aF => exact (fun k_ hk => Kd.fresh' (Kd.R_lt HN.out) k_ hk)); (case aO => exact Kd.R_mono HO2.out (fun _ hk => hk.2)); (case aS => exact HI.out.below.size); (case aL => simp; omega); intro v106 w106 ho hb hg hat; clear HI HN HO2 hg hat; have HI := Aside0.mk (InvL.of HR.out hb); have HO := Aside0.mk (Kd.R_mono ho (ok' := fun _ => True) (fun _ _ => trivial)); rw [hdr.out] at HO; clear hb ho))
        go_roundw
        case rel => exact ⟨(n : Int) - 1, by first | rfl | simp, by omega, by omega, by rw [show ((n : Int) - 1 + 1).toNat = n by omega]; exact HO, HI⟩
        case measure => first | (simp [intOf]; done) | (simp [intOf]; omega)
      · obtain rfl : i = -1 := by omega
        rw [show ((-1 : Int) + 1).toNat = 0 by omega, List.drop_zero] at HO
        go_upto_region 14 with (fail)
        obtain ⟨k, hk⟩ : ∃ k : Nat, (l.length : Int) / 2 = k := ⟨l.length / 2, by omega⟩
        have hkl : k ≤ l.length := by omega
        rw [hk]
        clear hk
        obtain ⟨u1, u2, hU⟩ : ∃ u1 u2, sumR l = (u1, u2) := ⟨_, _, rfl⟩
        obtain ⟨v1, v2, hV⟩ : ∃ u1 u2, sumR (l.take k) = (u1, u2) := ⟨_, _, rfl⟩
        obtain ⟨x1, x2, hX⟩ : ∃ u1 u2, sumR (l.drop k) = (u1, u2) := ⟨_, _, rfl⟩
        have FU := sum_f l (by omega)
        have FV := sum_f (l.take k) (by rw [List.length_take]; omega)
        have FW := sum_f (l.drop k) (by rw [List.length_drop]; omega)
        rw [hU] at FU
        rw [hV] at FV
        rw [hX] at FW
        have HU := Aside0.mk hU
        have HV := Aside0.mk hV
        have HX := Aside0.mk hX
        clear hU hV hX
        obtain ⟨A', hA'⟩ : ∃ A', A' = if c = k then A else A.map (·.add k) := ⟨_, rfl⟩
        have CV : ∀ w', Below wr.heap.size wr w' → Calls Tryz.prog 30 #[.slice A k c] w' fun e w'' => e = .returned (.agg #[.int .i64 v1, .int .i64 v2]) ∧ Below w'.heap.size w' w'' := by
          intro w' hb
          have hr1 : Kd.C (Kd.int .i64) w' A (l.take k).length (l.take k) := Kd.C_take (Kd.C_below HI.out.ls hb) hkl
          have := chapmanlaw02_sum.calls A c (l.take k) v1 v2 w' hr1 (by rw [List.length_take]; omega) FV
          rw [List.length_take, Nat.min_eq_left hkl] at this
          exact this
        have CW : ∀ w', Below wr.heap.size wr w' → Calls Tryz.prog 30 #[.slice A' (l.length - k) (c - k)] w' fun e w'' => e = .returned (.agg #[.int .i64 x1, .int .i64 x2]) ∧ Below w'.heap.size w' w'' := by
          intro w' hb
          have hr1 : Kd.C (Kd.int .i64) w' A' (l.drop k).length (l.drop k) := by
            have h1 := Kd.C_drop (c := c) (Kd.C_below HI.out.ls hb) hkl hc
            have hsz : (Kd.int .i64).sz = 1 := rfl
            rw [hsz, Nat.mul_one, ← hA'] at h1
            exact h1
          have := chapmanlaw02_sum.calls A' (c - k) (l.drop k) x1 x2 w' hr1 (by rw [List.length_drop]; omega) FW
          rw [List.length_drop] at this
          exact this
        have hkc : k ≤ c := Nat.le_trans hkl hc
        generalize hA0 : Act.mk _ _ = A0
        have hA2 : A0.eval (.tmp 2) = .slice A l.length c := by rw [← hA0]; rfl
        have hA13 : A0.eval (.tmp 13) = .int .i64 k := by rw [← hA0]; rfl
        have hAz : A0.tmps.size = 163 := by rw [← hA0]; rfl
        have hu := Tryz.underlying30
        have hok := ok14 (.slice A l.length c) (.int .i64 k) (.slice A k c) (.slice A' (l.length - k) (c - k)) (.agg #[.int .i64 u1, .int .i64 u2]) (.agg #[.int .i64 v1, .int .i64 v2]) (.agg #[.int .i64 x1, .int .i64 x2]) #[.int .i64 u1, .int .i64 u2] #[.int .i64 v1, .int .i64 v2] #[.int .i64 x1, .int .i64 x2]
        have hoff := off14 (.slice A l.length c) (.int .i64 k) (.slice A k c) (.slice A' (l.length - k) (c - k)) (.agg #[.int .i64 u1, .int .i64 u2]) (.agg #[.int .i64 v1, .int .i64 v2]) (.agg #[.int .i64 x1, .int .i64 x2]) #[.int .i64 u1, .int .i64 u2] #[.int .i64 v1, .int .i64 v2] #[.int .i64 x1, .int .i64 x2]
        generalize hvs : vs14 (.slice A l.length c) (.int .i64 k) (.slice A k c) (.slice A' (l.length - k) (c - k)) (.agg #[.int .i64 u1, .int .i64 u2]) (.agg #[.int .i64 v1, .int .i64 v2]) (.agg #[.int .i64 x1, .int .i64 x2]) = vs at *
        generalize hbs : bs14 #[.int .i64 u1, .int .i64 u2] #[.int .i64 v1, .int .i64 v2] #[.int .i64 x1, .int .i64 x2] = bs at *
        refine Inv.wp_region_inv (by kernel_rfl) (fun listed a' w' => listed.size = 16 ∧ ∃ f, a' = Inv.over A0 f ∧ Inv.St wr vs bs listed f w') ?start ?step ?done
        case start => exact ⟨by simp, fun _ => none, (Inv.over_none A0).symm, Inv.St.start wr vs bs 16⟩
        case step =>
          rintro listed a' w' i ⟨hz, f, rfl, hS⟩ hi
          obtain ⟨hl, o, ho, _⟩ := mem_ready.1 hi
          have h16 : i < 16 := (Array.getElem?_eq_some_iff.1 ho).1
          have hlt := (Inv.lt_of_open hl).1
          have e2 : (Inv.over A0 f).eval (.tmp 2) = .slice A l.length c := (Inv.over_eval_none (hS.off 2 (hoff 2 (by simp)))).trans hA2
          have e13 : (Inv.over A0 f).eval (.tmp 13) = .int .i64 k := (Inv.over_eval_none (hS.off 13 (hoff 13 (by simp)))).trans hA13
          have hv : ∀ i d v, (⟨i, d, v⟩ : Inv.VO) ∈ vs → listed.getD i false = true → d < 163 → (Inv.over A0 f).eval (.tmp d) = v := fun i d v ho hl hd => Inv.over_eval_some (hS.val _ ho hl) (by rw [hAz]; exact hd)
          have ef : (Inv.over A0 f).eval (.func 30) = .func (.func 30) #[] #[] := rfl
          have hi16 : i = 0 ∨ i = 1 ∨ i = 2 ∨ i = 3 ∨ i = 4 ∨ i = 5 ∨ i = 6 ∨ i = 7 ∨ i = 8 ∨ i = 9 ∨ i = 10 ∨ i = 11 ∨ i = 12 ∨ i = 13 ∨ i = 14 ∨ i = 15 := by omega
          clear ho h16
          rcases hi16 with rfl | rfl | rfl | rfl | rfl | rfl | rfl | rfl | rfl | rfl | rfl | rfl | rfl | rfl | rfl | rfl
          · refine Inv.step_value (v := .slice A l.length c) (w' := w') rfl rfl ?_ ?_
            · generalize (Inv.over A0 f).eval = ev at *
              go_simp
              first | done | (intro h; omega) | (rw [hA']; first | done | rfl | (simp; done) | (intro h; omega)) | trace_state
            · exact ⟨by simpa using hz, _, Inv.over_put A0 f 110 _, hS.value hok (o := ⟨0, 110, .slice A l.length c⟩) (by rw [← hvs]; simp [vs14]) hlt (Below.refl _ _)⟩
          · have h0 := hv 0 110 (.slice A l.length c) (by rw [← hvs]; simp [vs14]) (Inv.waits hi rfl (j := 0) (by rfl)) (by decide)
            refine Inv.step_enter (f := 30) (args := #[.slice A l.length c]) (w' := w') rfl rfl ?_ ?_
            · generalize (Inv.over A0 f).eval = ev at *
              go_simp
              try rfl
            · refine (chapmanlaw02_sum.calls A c l u1 u2 w' (Kd.C_below HI.out.ls hS.below) hc FU).mono ?_
              rintro e w'' ⟨rfl, hb⟩
              exact ⟨_, rfl, by simpa using hz, _, Inv.over_put A0 f 111 _, hS.value hok (o := ⟨1, 111, .agg #[.int .i64 u1, .int .i64 u2]⟩) (by rw [← hvs]; simp [vs14]) hlt hb⟩
          · refine Inv.step_value (v := .slice A l.length c) (w' := w') rfl rfl ?_ ?_
            · generalize (Inv.over A0 f).eval = ev at *
              go_simp
              first | done | (intro h; omega) | (rw [hA']; first | done | rfl | (simp; done) | (intro h; omega)) | trace_state
            · exact ⟨by simpa using hz, _, Inv.over_put A0 f 112 _, hS.value hok (o := ⟨2, 112, .slice A l.length c⟩) (by rw [← hvs]; simp [vs14]) hlt (Below.refl _ _)⟩
          · refine Inv.step_value (v := .int .i64 k) (w' := w') rfl rfl ?_ ?_
            · generalize (Inv.over A0 f).eval = ev at *
              go_simp
              first | done | (intro h; omega) | (rw [hA']; first | done | rfl | (simp; done) | (intro h; omega)) | trace_state
            · exact ⟨by simpa using hz, _, Inv.over_put A0 f 113 _, hS.value hok (o := ⟨3, 113, .int .i64 k⟩) (by rw [← hvs]; simp [vs14]) hlt (Below.refl _ _)⟩
          · have h2 := hv 2 112 (.slice A l.length c) (by rw [← hvs]; simp [vs14]) (Inv.waits hi rfl (j := 2) (by rfl)) (by decide)
            have h3 := hv 3 113 (.int .i64 k) (by rw [← hvs]; simp [vs14]) (Inv.waits hi rfl (j := 3) (by rfl)) (by decide)
            refine Inv.step_value (v := .slice A k c) (w' := w') rfl rfl ?_ ?_
            · generalize (Inv.over A0 f).eval = ev at *
              go_simp
              first | done | (intro h; omega) | (rw [hA']; first | done | rfl | (simp; done) | (intro h; omega)) | trace_state
            · exact ⟨by simpa using hz, _, Inv.over_put A0 f 114 _, hS.value hok (o := ⟨4, 114, .slice A k c⟩) (by rw [← hvs]; simp [vs14]) hlt (Below.refl _ _)⟩
          · have h4 := hv 4 114 (.slice A k c) (by rw [← hvs]; simp [vs14]) (Inv.waits hi rfl (j := 4) (by rfl)) (by decide)
            refine Inv.step_enter (f := 30) (args := #[.slice A k c]) (w' := w') rfl rfl ?_ ?_
            · generalize (Inv.over A0 f).eval = ev at *
              go_simp
              try rfl
            · refine (CV w' hS.below).mono ?_
              rintro e w'' ⟨rfl, hb⟩
              exact ⟨_, rfl, by simpa using hz, _, Inv.over_put A0 f 115 _, hS.value hok (o := ⟨5, 115, .agg #[.int .i64 v1, .int .i64 v2]⟩) (by rw [← hvs]; simp [vs14]) hlt hb⟩
          · refine Inv.step_value (v := .slice A l.length c) (w' := w') rfl rfl ?_ ?_
            · generalize (Inv.over A0 f).eval = ev at *
              go_simp
              first | done | (intro h; omega) | (rw [hA']; first | done | rfl | (simp; done) | (intro h; omega)) | trace_state
            · exact ⟨by simpa using hz, _, Inv.over_put A0 f 116 _, hS.value hok (o := ⟨6, 116, .slice A l.length c⟩) (by rw [← hvs]; simp [vs14]) hlt (Below.refl _ _)⟩
          · refine Inv.step_value (v := .int .i64 k) (w' := w') rfl rfl ?_ ?_
            · generalize (Inv.over A0 f).eval = ev at *
              go_simp
              first | done | (intro h; omega) | (rw [hA']; first | done | rfl | (simp; done) | (intro h; omega)) | trace_state
            · exact ⟨by simpa using hz, _, Inv.over_put A0 f 117 _, hS.value hok (o := ⟨7, 117, .int .i64 k⟩) (by rw [← hvs]; simp [vs14]) hlt (Below.refl _ _)⟩
          · have h6 := hv 6 116 (.slice A l.length c) (by rw [← hvs]; simp [vs14]) (Inv.waits hi rfl (j := 6) (by rfl)) (by decide)
            have h7 := hv 7 117 (.int .i64 k) (by rw [← hvs]; simp [vs14]) (Inv.waits hi rfl (j := 7) (by rfl)) (by decide)
            refine Inv.step_value (v := .slice A' (l.length - k) (c - k)) (w' := w') rfl rfl ?_ ?_
            · generalize (Inv.over A0 f).eval = ev at *
              go_simp
              first | done | (intro h; omega) | (rw [hA']; first | done | rfl | (simp; done) | (intro h; omega)) | trace_state
            · exact ⟨by simpa using hz, _, Inv.over_put A0 f 118 _, hS.value hok (o := ⟨8, 118, .slice A' (l.length - k) (c - k)⟩) (by rw [← hvs]; simp [vs14]) hlt (Below.refl _ _)⟩
          · have h8 := hv 8 118 (.slice A' (l.length - k) (c - k)) (by rw [← hvs]; simp [vs14]) (Inv.waits hi rfl (j := 8) (by rfl)) (by decide)
            refine Inv.step_enter (f := 30) (args := #[.slice A' (l.length - k) (c - k)]) (w' := w') rfl rfl ?_ ?_
            · generalize (Inv.over A0 f).eval = ev at *
              go_simp
              try rfl
            · refine (CW w' hS.below).mono ?_
              rintro e w'' ⟨rfl, hb⟩
              exact ⟨_, rfl, by simpa using hz, _, Inv.over_put A0 f 119 _, hS.value hok (o := ⟨9, 119, .agg #[.int .i64 x1, .int .i64 x2]⟩) (by rw [← hvs]; simp [vs14]) hlt hb⟩
          · refine Inv.step_value (v := Inv.ptr w'.heap.size) (w' := w'.alloc (.cells #[.int .i64 0, .int .i64 0] 30 (0, 0))) rfl rfl ?_ ?_
            · generalize (Inv.over A0 f).eval = ev at *
              unfold Inv.ptr
              go_simp
              try rfl
            · exact ⟨by simpa using hz, _, Inv.over_put A0 f 14 _, hS.alloc hok (b := ⟨10, 14, 13, #[.int .i64 u1, .int .i64 u2], #[.int .i64 0, .int .i64 0], 30⟩) (by rw [← hbs]; simp [bs14]) hl⟩
          · refine Inv.step_value (v := Inv.ptr w'.heap.size) (w' := w'.alloc (.cells #[.int .i64 0, .int .i64 0] 30 (0, 0))) rfl rfl ?_ ?_
            · generalize (Inv.over A0 f).eval = ev at *
              unfold Inv.ptr
              go_simp
              try rfl
            · exact ⟨by simpa using hz, _, Inv.over_put A0 f 15 _, hS.alloc hok (b := ⟨11, 15, 14, #[.int .i64 v1, .int .i64 v2], #[.int .i64 0, .int .i64 0], 30⟩) (by rw [← hbs]; simp [bs14]) hl⟩
          · refine Inv.step_value (v := Inv.ptr w'.heap.size) (w' := w'.alloc (.cells #[.int .i64 0, .int .i64 0] 30 (0, 0))) rfl rfl ?_ ?_
            · generalize (Inv.over A0 f).eval = ev at *
              unfold Inv.ptr
              go_simp
              try rfl
            · exact ⟨by simpa using hz, _, Inv.over_put A0 f 16 _, hS.alloc hok (b := ⟨12, 16, 15, #[.int .i64 x1, .int .i64 x2], #[.int .i64 0, .int .i64 0], 30⟩) (by rw [← hbs]; simp [bs14]) hl⟩
          · have h1 := hv 1 111 (.agg #[.int .i64 u1, .int .i64 u2]) (by rw [← hvs]; simp [vs14]) (Inv.waits hi rfl (j := 1) (by rfl)) (by decide)
            have ha := Inv.waits hi rfl (j := 10) (by rfl)
            have hb := show (⟨10, 14, 13, #[.int .i64 u1, .int .i64 u2], #[.int .i64 0, .int .i64 0], 30⟩ : Inv.BX) ∈ bs by rw [← hbs]; simp [bs14]
            obtain ⟨g', hf, hge, hblk⟩ := hS.box _ hb ha
            have hl0 := (Inv.lt_of_open hl).2
            dsimp only at hf hblk
            rw [hl0] at hblk
            replace hblk : w'.heap[g']? = some (.cells #[.int .i64 0, .int .i64 0] 30 (0, 0)) := hblk
            have h14 : (Inv.over A0 f).eval (.tmp 14) = .pointer (some ⟨g', 0, none⟩) := Inv.over_eval_some hf (by rw [hAz]; decide)
            have q0 := blk_frozen hblk 0
            have q1 := blk_frozen hblk 1
            have q2 : w'.cell? ⟨g', 0, none⟩ = some (.int .i64 0) := (blk_cell hblk 0).trans rfl
            have q3 : w'.cell? ⟨g', 1, none⟩ = some (.int .i64 0) := (blk_cell hblk 1).trans rfl
            clear hb
            refine Inv.step_skip (w' := (w'.setCell ⟨g', 0, none⟩ (.int .i64 u1)).setCell ⟨g', 1, none⟩ (.int .i64 u2)) rfl rfl ?_ ?_
            · generalize (Inv.over A0 f).eval = ev at *
              go_simp
              first | done | rfl | trace_state
            · refine ⟨by simpa using hz, _, rfl, hS.store hok (b := ⟨10, 14, 13, #[.int .i64 u1, .int .i64 u2], #[.int .i64 0, .int .i64 0], 30⟩) (by rw [← hbs]; simp [bs14]) hl ha hf (blk_put (blk_put hblk 0 _ rfl) 1 _ rfl) (fun g2 hne => ?_) (below_set (below_set hS.below hge) hge)⟩
              exact (Below.heap_setCell _ _ _ g2 hne).trans (Below.heap_setCell _ _ _ g2 hne)
          · have h5 := hv 5 115 (.agg #[.int .i64 v1, .int .i64 v2]) (by rw [← hvs]; simp [vs14]) (Inv.waits hi rfl (j := 5) (by rfl)) (by decide)
            have ha := Inv.waits hi rfl (j := 11) (by rfl)
            have hb := show (⟨11, 15, 14, #[.int .i64 v1, .int .i64 v2], #[.int .i64 0, .int .i64 0], 30⟩ : Inv.BX) ∈ bs by rw [← hbs]; simp [bs14]
            obtain ⟨g', hf, hge, hblk⟩ := hS.box _ hb ha
            have hl0 := (Inv.lt_of_open hl).2
            dsimp only at hf hblk
            rw [hl0] at hblk
            replace hblk : w'.heap[g']? = some (.cells #[.int .i64 0, .int .i64 0] 30 (0, 0)) := hblk
            have h14 : (Inv.over A0 f).eval (.tmp 15) = .pointer (some ⟨g', 0, none⟩) := Inv.over_eval_some hf (by rw [hAz]; decide)
            have q0 := blk_frozen hblk 0
            have q1 := blk_frozen hblk 1
            have q2 : w'.cell? ⟨g', 0, none⟩ = some (.int .i64 0) := (blk_cell hblk 0).trans rfl
            have q3 : w'.cell? ⟨g', 1, none⟩ = some (.int .i64 0) := (blk_cell hblk 1).trans rfl
            clear hb
            refine Inv.step_skip (w' := (w'.setCell ⟨g', 0, none⟩ (.int .i64 v1)).setCell ⟨g', 1, none⟩ (.int .i64 v2)) rfl rfl ?_ ?_
            · generalize (Inv.over A0 f).eval = ev at *
              go_simp
              first | done | rfl | trace_state
            · refine ⟨by simpa using hz, _, rfl, hS.store hok (b := ⟨11, 15, 14, #[.int .i64 v1, .int .i64 v2], #[.int .i64 0, .int .i64 0], 30⟩) (by rw [← hbs]; simp [bs14]) hl ha hf (blk_put (blk_put hblk 0 _ rfl) 1 _ rfl) (fun g2 hne => ?_) (below_set (below_set hS.below hge) hge)⟩
              exact (Below.heap_setCell _ _ _ g2 hne).trans (Below.heap_setCell _ _ _ g2 hne)
          · have h9 := hv 9 119 (.agg #[.int .i64 x1, .int .i64 x2]) (by rw [← hvs]; simp [vs14]) (Inv.waits hi rfl (j := 9) (by rfl)) (by decide)
            have ha := Inv.waits hi rfl (j := 12) (by rfl)
            have hb := show (⟨12, 16, 15, #[.int .i64 x1, .int .i64 x2], #[.int .i64 0, .int .i64 0], 30⟩ : Inv.BX) ∈ bs by rw [← hbs]; simp [bs14]
            obtain ⟨g', hf, hge, hblk⟩ := hS.box _ hb ha
            have hl0 := (Inv.lt_of_open hl).2
            dsimp only at hf hblk
            rw [hl0] at hblk
            replace hblk : w'.heap[g']? = some (.cells #[.int .i64 0, .int .i64 0] 30 (0, 0)) := hblk
            have h14 : (Inv.over A0 f).eval (.tmp 16) = .pointer (some ⟨g', 0, none⟩) := Inv.over_eval_some hf (by rw [hAz]; decide)
            have q0 := blk_frozen hblk 0
            have q1 := blk_frozen hblk 1
            have q2 : w'.cell? ⟨g', 0, none⟩ = some (.int .i64 0) := (blk_cell hblk 0).trans rfl
            have q3 : w'.cell? ⟨g', 1, none⟩ = some (.int .i64 0) := (blk_cell hblk 1).trans rfl
            clear hb
            refine Inv.step_skip (w' := (w'.setCell ⟨g', 0, none⟩ (.int .i64 x1)).setCell ⟨g', 1, none⟩ (.int .i64 x2)) rfl rfl ?_ ?_
            · generalize (Inv.over A0 f).eval = ev at *
              go_simp
              first | done | rfl | trace_state
            · refine ⟨by simpa using hz, _, rfl, hS.store hok (b := ⟨12, 16, 15, #[.int .i64 x1, .int .i64 x2], #[.int .i64 0, .int .i64 0], 30⟩) (by rw [← hbs]; simp [bs14]) hl ha hf (blk_put (blk_put hblk 0 _ rfl) 1 _ rfl) (fun g2 hne => ?_) (below_set (below_set hS.below hge) hge)⟩
              exact (Below.heap_setCell _ _ _ g2 hne).trans (Below.heap_setCell _ _ _ g2 hne)
        case done =>
          rintro listed a' wS ⟨hz, f, rfl, hS⟩ hrd
          have up := Inv.all_up hz hrd (by kernel_rfl) 16
          have w0 : f 110 = some (.slice A l.length c) := hS.val ⟨0, 110, .slice A l.length c⟩ (by rw [← hvs]; simp [vs14]) (up 0 (by decide) (by decide))
          have w1 : f 111 = some (.agg #[.int .i64 u1, .int .i64 u2]) := hS.val ⟨1, 111, .agg #[.int .i64 u1, .int .i64 u2]⟩ (by rw [← hvs]; simp [vs14]) (up 1 (by decide) (by decide))
          have w2 : f 112 = some (.slice A l.length c) := hS.val ⟨2, 112, .slice A l.length c⟩ (by rw [← hvs]; simp [vs14]) (up 2 (by decide) (by decide))
          have w3 : f 113 = some (.int .i64 k) := hS.val ⟨3, 113, .int .i64 k⟩ (by rw [← hvs]; simp [vs14]) (up 3 (by decide) (by decide))
          have w4 : f 114 = some (.slice A k c) := hS.val ⟨4, 114, .slice A k c⟩ (by rw [← hvs]; simp [vs14]) (up 4 (by decide) (by decide))
          have w5 : f 115 = some (.agg #[.int .i64 v1, .int .i64 v2]) := hS.val ⟨5, 115, .agg #[.int .i64 v1, .int .i64 v2]⟩ (by rw [← hvs]; simp [vs14]) (up 5 (by decide) (by decide))
          have w6 : f 116 = some (.slice A l.length c) := hS.val ⟨6, 116, .slice A l.length c⟩ (by rw [← hvs]; simp [vs14]) (up 6 (by decide) (by decide))
          have w7 : f 117 = some (.int .i64 k) := hS.val ⟨7, 117, .int .i64 k⟩ (by rw [← hvs]; simp [vs14]) (up 7 (by decide) (by decide))
          have w8 : f 118 = some (.slice A' (l.length - k) (c - k)) := hS.val ⟨8, 118, .slice A' (l.length - k) (c - k)⟩ (by rw [← hvs]; simp [vs14]) (up 8 (by decide) (by decide))
          have w9 : f 119 = some (.agg #[.int .i64 x1, .int .i64 x2]) := hS.val ⟨9, 119, .agg #[.int .i64 x1, .int .i64 x2]⟩ (by rw [← hvs]; simp [vs14]) (up 9 (by decide) (by decide))
          obtain ⟨g1, b1, ge1, B1⟩ := hS.box ⟨10, 14, 13, #[.int .i64 u1, .int .i64 u2], #[.int .i64 0, .int .i64 0], 30⟩ (by rw [← hbs]; simp [bs14]) (up 10 (by decide) (by decide))
          rw [if_pos (up 13 (by decide) (by decide))] at B1
          dsimp only at b1 B1
          obtain ⟨g2, b2, ge2, B2⟩ := hS.box ⟨11, 15, 14, #[.int .i64 v1, .int .i64 v2], #[.int .i64 0, .int .i64 0], 30⟩ (by rw [← hbs]; simp [bs14]) (up 11 (by decide) (by decide))
          rw [if_pos (up 14 (by decide) (by decide))] at B2
          dsimp only at b2 B2
          obtain ⟨g3, b3, ge3, B3⟩ := hS.box ⟨12, 16, 15, #[.int .i64 x1, .int .i64 x2], #[.int .i64 0, .int .i64 0], 30⟩ (by rw [← hbs]; simp [bs14]) (up 12 (by decide) (by decide))
          rw [if_pos (up 15 (by decide) (by decide))] at B3
          dsimp only at b3 B3
          have ea : Inv.over A0 f = (((((((((((((A0.put (some 110) (.slice A l.length c)).put (some 111) (.agg #[.int .i64 u1, .int .i64 u2])).put (some 112) (.slice A l.length c)).put (some 113) (.int .i64 k)).put (some 114) (.slice A k c)).put (some 115) (.agg #[.int .i64 v1, .int .i64 v2])).put (some 116) (.slice A l.length c)).put (some 117) (.int .i64 k)).put (some 118) (.slice A' (l.length - k) (c - k))).put (some 119) (.agg #[.int .i64 x1, .int .i64 x2])).put (some 14) (Inv.ptr g1)).put (some 15) (Inv.ptr g2)).put (some 16) (Inv.ptr g3)) := by
            conv => rhs; rw [← Inv.over_none A0]
            simp only [Inv.over_put]
            refine Inv.over_congr (fun i => ?_)
            by_cases e16 : i = 16
            · subst e16
              rw [b3]
              simp
            by_cases e15 : i = 15
            · subst e15
              rw [b2]
              simp
            by_cases e14 : i = 14
            · subst e14
              rw [b1]
              simp
            by_cases e119 : i = 119
            · subst e119
              rw [w9]
              simp
            by_cases e118 : i = 118
            · subst e118
              rw [w8]
              simp
            by_cases e117 : i = 117
            · subst e117
              rw [w7]
              simp
            by_cases e116 : i = 116
            · subst e116
              rw [w6]
              simp
            by_cases e115 : i = 115
            · subst e115
              rw [w5]
              simp
            by_cases e114 : i = 114
            · subst e114
              rw [w4]
              simp
            by_cases e113 : i = 113
            · subst e113
              rw [w3]
              simp
            by_cases e112 : i = 112
            · subst e112
              rw [w2]
              simp
            by_cases e111 : i = 111
            · subst e111
              rw [w1]
              simp
            by_cases e110 : i = 110
            · subst e110
              rw [w0]
              simp
            rw [hS.off i (by rw [← hvs, ← hbs]; show i ∉ [110, 111, 112, 113, 114, 115, 116, 117, 118, 119, 14, 15, 16]; simp [e110, e111, e112, e113, e114, e115, e116, e117, e118, e119, e14, e15, e16])]
            simp [e110, e111, e112, e113, e114, e115, e116, e117, e118, e119, e14, e15, e16]
          rw [ea]
          subst hA0
          simp only [Act.put, List.setIfInBounds_toArray, List.set_cons_zero, List.set_cons_succ, Inv.ptr]
          have HBS := Aside0.mk hS.below
          replace HI := Aside0.mk (HI.out.step hS.below)
          replace HO := Aside0.mk (Kd.R_below HO.out hS.below)
          clear ea w0 w1 w2 w3 w4 w5 w6 w7 w8 w9 b1 b2 b3 hA2 hA13 hAz hok hoff hvs hbs hS up hz hrd CV CW hA' FV FW FU
          have B1c := Aside0.mk B1
          have B2c := Aside0.mk B2
          have B3c := Aside0.mk B3
          clear B1 B2 B3
          obtain ⟨Ab, cb, hb11⟩ := Kd.R_slice HO.out
          subst hb11
          obtain ⟨_, hcb, hCb⟩ := Kd.R_reads' HO.out
          have FB := sum_f l.reverse (by rw [List.length_reverse]; omega)
          rw [sum_rev, HU.out] at FB
          have CBk : Aside0 (∀ W, Below wS.heap.size wS W → Calls Tryz.prog 30 #[.slice Ab l.length cb] W fun e w'' => e = .returned (.agg #[.int .i64 u1, .int .i64 u2]) ∧ Below W.heap.size W w'') := ⟨fun W hb => by
            have := chapmanlaw02_sum.calls Ab cb l.reverse u1 u2 W (Kd.C_below hCb hb) hcb FB
            rw [List.length_reverse] at this
            exact this⟩
          clear HO hcb hCb FB
          rw [List.length_reverse]
          have hforms := sum_forms l
          rw [HU.out] at hforms
          go_upto_region 15 with (fail)
          go_cut [133] (fun v133 wc => v133 = .bool false ∧ Aside0 (Below wS.heap.size wS wc))
          case first =>
            have q0 : wS.drew.cell? ⟨g1, 0, none⟩ = some (.int .i64 u1) := (blk_cell B1c.out 0).trans rfl
            have q1 : wS.drew.cell? ⟨g1, 1, none⟩ = some (.int .i64 u2) := (blk_cell B1c.out 1).trans rfl
            clear HBS HI B1c B2c B3c HU HV HX HR
            rcases hforms with h2 | h2
            · have h2' : u2 = 0 := h2
              subst h2'
              clear h2
              refine Inv.wp_region_class (fun w' => w'.cell? ⟨g1, 0, none⟩ = some (.int .i64 u1) ∧ w'.cell? ⟨g1, 1, none⟩ = some (.int .i64 0) ∧ Below wS.heap.size wS w') (by kernel_rfl) (by kernel_rfl) ⟨q0, q1, below_drew1 (Below.refl _ _)⟩ ?_
              clear q0 q1
              repeat (first
                | go_big_quiet_skip
                | (go_big_quiet_want; (first | refine BigFrame.quiet_move _ rfl ?_ | refine BigFrame.quiet_assign _ rfl ?_); go_big_quiet_on; simp only [Act.put, Act.eval, List.setIfInBounds_toArray, List.set_cons_zero, List.set_cons_succ, List.getD_toArray, List.getD_cons_zero, List.getD_cons_succ])
                | (go_big_quiet_want; apply Exists.intro; refine ⟨fun W hW => ?_, ?_⟩; (obtain ⟨c0, c1, HB⟩ := hW; unfold Oper.quietAt; go_simp; first | exact ⟨rfl, rfl⟩ | exact rfl | ((with_reducible refine (CBk.out W HB).mono ?_); rintro e w'' ⟨rfl, hb⟩; exact ⟨rfl, pw_cell_below hb c0, pw_cell_below hb c1, below_step HB hb⟩)); go_big_quiet_on; simp only [Act.put, List.setIfInBounds_toArray, List.set_cons_zero, List.set_cons_succ]))
              refine wpQuiet_nil ?_
              rintro w' ⟨c0, c1, HB⟩
              go_wp2_with fail
              go_meet
              exact ⟨by first | rfl | simp, ⟨HB⟩⟩
            · obtain ⟨rfl, rfl⟩ : u1 = 0 ∧ u2 = 2 := by simpa using h2
              clear h2
              refine Inv.wp_region_class (fun w' => w'.cell? ⟨g1, 0, none⟩ = some (.int .i64 0) ∧ w'.cell? ⟨g1, 1, none⟩ = some (.int .i64 2) ∧ Below wS.heap.size wS w') (by kernel_rfl) (by kernel_rfl) ⟨q0, q1, below_drew1 (Below.refl _ _)⟩ ?_
              clear q0 q1
              repeat (first
                | go_big_quiet_skip
                | (go_big_quiet_want; (first | refine BigFrame.quiet_move _ rfl ?_ | refine BigFrame.quiet_assign _ rfl ?_); go_big_quiet_on; simp only [Act.put, Act.eval, List.setIfInBounds_toArray, List.set_cons_zero, List.set_cons_succ, List.getD_toArray, List.getD_cons_zero, List.getD_cons_succ])
                | (go_big_quiet_want; apply Exists.intro; refine ⟨fun W hW => ?_, ?_⟩; (obtain ⟨c0, c1, HB⟩ := hW; unfold Oper.quietAt; go_simp; first | exact ⟨rfl, rfl⟩ | exact rfl | ((with_reducible refine (CBk.out W HB).mono ?_); rintro e w'' ⟨rfl, hb⟩; exact ⟨rfl, pw_cell_below hb c0, pw_cell_below hb c1, below_step HB hb⟩)); go_big_quiet_on; simp only [Act.put, List.setIfInBounds_toArray, List.set_cons_zero, List.set_cons_succ]))
              refine wpQuiet_nil ?_
              rintro w' ⟨c0, c1, HB⟩
              go_wp2_with fail
              go_meet
              exact ⟨by first | rfl | simp, ⟨HB⟩⟩
          case rest =>
            obtain ⟨rfl, HB⟩ := hcut
            clear CBk hforms
            replace HI := Aside0.mk (HI.out.step HB.out)
            have D1 := Aside0.mk (blk_below B1c.out HB.out)
            have D2 := Aside0.mk (blk_below B2c.out HB.out)
            have D3 := Aside0.mk (blk_below B3c.out HB.out)
            clear B1c B2c B3c HB HBS
            go_wp2_with fail
            go_upto_region 17 with (fail)
            go_cut [151] (fun v151 wd => v151 = .bool false ∧ Aside0 (Below wc.heap.size wc wd))
            case first =>
              have q0 : wc.drew.cell? ⟨g1, 0, none⟩ = some (.int .i64 u1) := (blk_cell D1.out 0).trans rfl
              have q1 : wc.drew.cell? ⟨g1, 1, none⟩ = some (.int .i64 u2) := (blk_cell D1.out 1).trans rfl
              have q2 : wc.drew.cell? ⟨g2, 0, none⟩ = some (.int .i64 v1) := (blk_cell D2.out 0).trans rfl
              have q3 : wc.drew.cell? ⟨g2, 1, none⟩ = some (.int .i64 v2) := (blk_cell D2.out 1).trans rfl
              have q4 : wc.drew.cell? ⟨g3, 0, none⟩ = some (.int .i64 x1) := (blk_cell D3.out 0).trans rfl
              have q5 : wc.drew.cell? ⟨g3, 1, none⟩ = some (.int .i64 x2) := (blk_cell D3.out 1).trans rfl
              have hp := sum_parts l k
              rw [HU.out, HV.out, HX.out] at hp
              dsimp only at hp
              clear HI D1 D2 D3 HU HV HX HR
              by_cases hv0 : v2 = 0
              · by_cases hx0 : x2 = 0
                · have FP := sum_f [v1, x1] (by simp)
                  rw [hp hv0 hx0] at FP
                  replace FP := Aside0.mk FP
                  subst hv0
                  subst hx0
                  clear hp
                  have HB := Aside0.mk (below_drew1 (Below.refl wc.heap.size wc))
                  go_region_held3 (fun w' => w'.cell? ⟨g1, 0, none⟩ = some (.int .i64 u1) ∧ w'.cell? ⟨g1, 1, none⟩ = some (.int .i64 u2) ∧ w'.cell? ⟨g2, 0, none⟩ = some (.int .i64 v1) ∧ w'.cell? ⟨g2, 1, none⟩ = some (.int .i64 0) ∧ w'.cell? ⟨g3, 0, none⟩ = some (.int .i64 x1) ∧ w'.cell? ⟨g3, 1, none⟩ = some (.int .i64 0) ∧ Aside0 (Below wc.heap.size wc w'))
                    (first
                      | exact ⟨q0, q1, q2, q3, q4, q5, HB⟩
                      | (go_split_ands; exact ⟨pw_cell_below hb ‹_›, pw_cell_below hb ‹_›, pw_cell_below hb ‹_›, pw_cell_below hb ‹_›, pw_cell_below hb ‹_›, pw_cell_below hb ‹_›, ⟨below_step (‹Aside0 (Below wc.heap.size wc _)›).out hb⟩⟩)
                      | (go_split_ands; exact ⟨pw_cell_below (below_alloc (Below.refl _ _) _) ‹_›, pw_cell_below (below_alloc (Below.refl _ _) _) ‹_›, pw_cell_below (below_alloc (Below.refl _ _) _) ‹_›, pw_cell_below (below_alloc (Below.refl _ _) _) ‹_›, pw_cell_below (below_alloc (Below.refl _ _) _) ‹_›, pw_cell_below (below_alloc (Below.refl _ _) _) ‹_›, ⟨below_drew1 (below_alloc (Below.refl _ _) _)⟩⟩))
                    (first
                      | (go_at_call 30; refine (chapmanlaw02_sum.calls _ 2 [v1, x1] u1 u2 _ (by first | exact kdC_new [v1, x1] _ _ rfl (by simp) | exact Kd.C_drew (kdC_new [v1, x1] _ _ rfl (by simp))) (by simp) FP.out).mono ?_; rintro e W1 ⟨rfl, hb⟩))
                  rename_i hH
                  replace HB := hH.2.2.2.2.2.2
                  go_wp2_with fail
                  go_meet
                  exact ⟨by first | rfl | simp, HB⟩
                · have n3 : ((x2 : Int) == 0) = false := by simpa using hx0
                  subst hv0
                  clear hp hx0
                  refine Inv.wp_region_class (fun w' => w'.cell? ⟨g2, 1, none⟩ = some (.int .i64 0) ∧ w'.cell? ⟨g3, 1, none⟩ = some (.int .i64 x2) ∧ Below wc.heap.size wc w') (by kernel_rfl) (by kernel_rfl) ⟨q3, q5, below_drew1 (Below.refl _ _)⟩ ?_
                  clear q0 q1 q2 q3 q4 q5
                  repeat (first
                    | go_big_quiet_skip
                    | (go_big_quiet_want; (first | refine BigFrame.quiet_move _ rfl ?_ | refine BigFrame.quiet_assign _ rfl ?_); go_big_quiet_on; simp only [Act.put, Act.eval, List.setIfInBounds_toArray, List.set_cons_zero, List.set_cons_succ, List.getD_toArray, List.getD_cons_zero, List.getD_cons_succ])
                    | (go_big_quiet_want; apply Exists.intro; refine ⟨fun W hW => ?_, ?_⟩; (obtain ⟨c0, c1, HB⟩ := hW; unfold Oper.quietAt; go_simp; first | exact ⟨rfl, rfl⟩ | exact rfl); go_big_quiet_on; simp only [Act.put, List.setIfInBounds_toArray, List.set_cons_zero, List.set_cons_succ]))
                  refine wpQuiet_nil ?_
                  rintro w' ⟨c0, c1, HB⟩
                  go_wp2_with fail
                  go_meet
                  exact ⟨by first | rfl | simp, ⟨HB⟩⟩
              · have n3 : ((v2 : Int) == 0) = false := by simpa using hv0
                clear hp hv0
                refine Inv.wp_region_class (fun w' => w'.cell? ⟨g2, 1, none⟩ = some (.int .i64 v2) ∧ w'.cell? ⟨g3, 1, none⟩ = some (.int .i64 x2) ∧ Below wc.heap.size wc w') (by kernel_rfl) (by kernel_rfl) ⟨q3, q5, below_drew1 (Below.refl _ _)⟩ ?_
                clear q0 q1 q2 q3 q4 q5
                repeat (first
                  | go_big_quiet_skip
                  | (go_big_quiet_want; (first | refine BigFrame.quiet_move _ rfl ?_ | refine BigFrame.quiet_assign _ rfl ?_); go_big_quiet_on; simp only [Act.put, Act.eval, List.setIfInBounds_toArray, List.set_cons_zero, List.set_cons_succ, List.getD_toArray, List.getD_cons_zero, List.getD_cons_succ])
                  | (go_big_quiet_want; apply Exists.intro; refine ⟨fun W hW => ?_, ?_⟩; (obtain ⟨c0, c1, HB⟩ := hW; unfold Oper.quietAt; go_simp; first | exact ⟨rfl, rfl⟩ | exact rfl); go_big_quiet_on; simp only [Act.put, List.setIfInBounds_toArray, List.set_cons_zero, List.set_cons_succ]))
                refine wpQuiet_nil ?_
                rintro w' ⟨c0, c1, HB⟩
                go_wp2_with fail
                go_meet
                exact ⟨by first | rfl | simp, ⟨HB⟩⟩
            case rest =>
              obtain ⟨rfl, HB⟩ := hcut
              replace HI := Aside0.mk (HI.out.step HB.out)
              have E1 := Aside0.mk (blk_below D1.out HB.out)
              clear D1 D2 D3 HB
              go_wp2_with fail
              go_upto_region 19 with (fail)
              clear HX HV
              have FB := sum_f (l ++ [0]) (by rw [List.length_append]; simp; omega)
              rw [sum_zero, HU.out] at FB
              have HLC := Aside0.mk HI.out.ls
              generalize hA0 : Act.mk _ _ = A0
              have hA2 : A0.eval (.tmp 2) = .slice A l.length c := by rw [← hA0]; rfl
              have hA7 : A0.eval (.tmp 7) = .bool true := by rw [← hA0]; rfl
              have hA14 : A0.eval (.tmp 14) = .pointer (some ⟨g1, 0, none⟩) := by rw [← hA0]; rfl
              have hAz : A0.tmps.size = 163 := by rw [← hA0]; rfl
              have hu := Tryz.underlying30
              refine Inv.wp_region_inv (by kernel_rfl) (fun listed a' w' => listed.size = 12 ∧ ∃ f, a' = Inv.over A0 f ∧ S19 wc (.slice A l.length c) (.agg #[.int .i64 u1, .int .i64 u2]) l listed f w') ?start ?step ?done
              case start => exact ⟨by simp, fun _ => none, (Inv.over_none A0).symm, S19.start wc _ _ l⟩
              case step =>
                rintro listed a' w' i ⟨hz, f, rfl, hS⟩ hi
                obtain ⟨hl, o, ho, _⟩ := mem_ready.1 hi
                have h16 : i < 12 := (Array.getElem?_eq_some_iff.1 ho).1
                have hlt := (Inv.lt_of_open hl).1
                have e2 : (Inv.over A0 f).eval (.tmp 2) = .slice A l.length c := (Inv.over_eval_none (hS.off 2 (by decide))).trans hA2
                have e7 : (Inv.over A0 f).eval (.tmp 7) = .bool true := (Inv.over_eval_none (hS.off 7 (by decide))).trans hA7
                have e14 : (Inv.over A0 f).eval (.tmp 14) = .pointer (some ⟨g1, 0, none⟩) := (Inv.over_eval_none (hS.off 14 (by decide))).trans hA14
                have ec : ∀ v, (Inv.over A0 f).eval (.const v) = v := fun _ => rfl
                have ef : (Inv.over A0 f).eval (.func 30) = .func (.func 30) #[] #[] := rfl
                have hv : ∀ i d v, (⟨i, d, v⟩ : Inv.VO) ∈ v19 (.slice A l.length c) (.agg #[.int .i64 u1, .int .i64 u2]) → listed.getD i false = true → d < 163 → (Inv.over A0 f).eval (.tmp d) = v := fun i d v ho hl hd => Inv.over_eval_some (hS.val _ ho hl) (by rw [hAz]; exact hd)
                have hbase := hS.below.size
                have hi16 : i = 0 ∨ i = 1 ∨ i = 2 ∨ i = 3 ∨ i = 4 ∨ i = 5 ∨ i = 6 ∨ i = 7 ∨ i = 8 ∨ i = 9 ∨ i = 10 ∨ i = 11 := by omega
                clear ho h16
                rcases hi16 with rfl | rfl | rfl | rfl | rfl | rfl | rfl | rfl | rfl | rfl | rfl | rfl
                · refine Inv.step_if rfl ?_
                  refine Kd.R_lit_step (Kd.int .i64) (w0 := wc) wc.heap.size 3 rfl (N := 152) rfl (xs := ([] : List Int)) (inner := []) (ok := fun _ => True) (okp := fun _ => True) ?hr (Reps.none _ _) (fun _ h => h) trivial hS.below hbase (by simp) ?_
                  case hr =>
                    generalize (Inv.over A0 f).eval = ev at *
                    go_simp
                    try rfl
                  intro v1 w1 hr hb hg hn
                  exact ⟨by simpa using hz, _, Inv.over_put A0 f 152 _, hS.lit0 hl hr hb hg hn⟩
                · refine Inv.step_value (v := .slice A l.length c) (w' := w') rfl rfl ?_ ?_
                  · generalize (Inv.over A0 f).eval = ev at *
                    go_simp
                  · exact ⟨by simpa using hz, _, Inv.over_put A0 f 153 _, hS.value (o := ⟨1, 153, .slice A l.length c⟩) (by simp [v19]) hlt (Below.refl _ _)⟩
                · have w0 := Inv.waits hi rfl (j := 0) (by rfl)
                  have h1 := hv 1 153 (.slice A l.length c) (by simp [v19]) (Inv.waits hi rfl (j := 1) (by rfl)) (by decide)
                  have hl2 := (Inv.lt_of_open hl).2
                  obtain ⟨vr, vz, r1, r2, r3, r4, r5, r6⟩ := hS.rows (hS.not4 (.inl hl2))
                  have h0 : (Inv.over A0 f).eval (.tmp 152) = vr := Inv.over_eval_some (r5 w0 hl2) (by rw [hAz]; decide)
                  rw [hl2, if_neg Bool.false_ne_true] at r1
                  refine Inv.step_if rfl ?_
                  refine Kd.R_append_rows_step (Kd.int .i64) (w0 := wc) wc.heap.size rfl (.tmp 152) (.tmp 153) 22 3 (.int .i64 0) 8 rfl Tryz.underlying22 info_int rfl (by decide) (by omega) vr [] l A l.length c (fun k => some k ≠ vz.ownBlock) (fun _ => False) h0 h1 (R_ok r1 (fun k hk e => r3 k hk e.symm)) (Kd.C_below HLC.out hS.below) (fun _ _ h => h) (fun _ h => h.elim) (fun k hk => Kd.fresh' (Kd.R_lt r2) k hk) hS.below hbase (by simp; omega) ?_
                  intro v1 w1 hr hb hg hat
                  exact ⟨by simpa using hz, _, Inv.over_put A0 f 154 _, hS.app2 hl w0 r2 r3 r6 hr hb hg⟩
                · refine Inv.step_if rfl ?_
                  refine Kd.R_lit_step (Kd.int .i64) (w0 := wc) wc.heap.size 3 rfl (N := 155) rfl (xs := [0]) (inner := [.int .i64 0]) (ok := fun _ => True) (okp := fun _ => True) ?hr2 (Reps.one (show Kd.M (Kd.int .i64) _ _ _ 0 [.int .i64 0] from rfl) (Reps.none _ _)) (fun _ h => h) trivial hS.below hbase (by simp) ?_
                  case hr2 =>
                    generalize (Inv.over A0 f).eval = ev at *
                    go_simp
                    try rfl
                  intro v1 w1 hr hb hg hn
                  exact ⟨by simpa using hz, _, Inv.over_put A0 f 155 _, hS.lit3 hl hr hb hg hn⟩
                · have w2 := Inv.waits hi rfl (j := 2) (by rfl)
                  have w3 := Inv.waits hi rfl (j := 3) (by rfl)
                  have hl4 := (Inv.lt_of_open hl).2
                  obtain ⟨vr, vz, r1, r2, r3, r4, r5, r6⟩ := hS.rows hl4
                  rw [if_pos w2] at r1
                  rw [if_pos w3] at r2
                  obtain ⟨Az, cz, ez⟩ := Kd.R_slice r2
                  subst ez
                  have h2 : (Inv.over A0 f).eval (.tmp 154) = vr := Inv.over_eval_some (r4 w2) (by rw [hAz]; decide)
                  have h3 : (Inv.over A0 f).eval (.tmp 155) = .slice Az [(0 : Int)].length cz := Inv.over_eval_some (r6 w3) (by rw [hAz]; decide)
                  refine Inv.step_if rfl ?_
                  refine Kd.R_append_rows_step (Kd.int .i64) (w0 := wc) wc.heap.size rfl (.tmp 154) (.tmp 155) 22 3 (.int .i64 0) 8 rfl Tryz.underlying22 info_int rfl (by decide) (by omega) vr l [0] Az [(0 : Int)].length cz (fun k => some k ≠ (Value.slice Az [(0 : Int)].length cz).ownBlock) (fun _ => False) h2 h3 (R_ok r1 (fun k hk e => r3 k hk e.symm)) (Kd.R_reads' r2).2.2 (fun _ _ h => h) (fun _ h => h.elim) (fun k hk => Kd.fresh' (Kd.R_lt r2) k hk) hS.below hbase (by simp; omega) ?_
                  intro v1 w1 hr hb hg hat
                  exact ⟨by simpa using hz, _, Inv.over_put A0 f 156 _, hS.app4 hl w2 w3 hr hb⟩
                · have w4 := Inv.waits hi rfl (j := 4) (by rfl)
                  obtain ⟨vs, s1, s2⟩ := hS.last w4
                  obtain ⟨As, cs, es⟩ := Kd.R_slice s2
                  subst es
                  obtain ⟨_, hcs, hCs⟩ := Kd.R_reads' s2
                  have h4 : (Inv.over A0 f).eval (.tmp 156) = .slice As (l ++ [0]).length cs := Inv.over_eval_some s1 (by rw [hAz]; decide)
                  refine Inv.step_enter (f := 30) (args := #[.slice As (l ++ [0]).length cs]) (w' := w') rfl rfl ?_ ?_
                  · generalize (Inv.over A0 f).eval = ev at *
                    go_simp
                    try rfl
                  · refine (chapmanlaw02_sum.calls As cs (l ++ [0]) u1 u2 w' hCs hcs FB).mono ?_
                    rintro e w'' ⟨rfl, hb⟩
                    exact ⟨_, rfl, by simpa using hz, _, Inv.over_put A0 f 157 _, hS.value (o := ⟨5, 157, .agg #[.int .i64 u1, .int .i64 u2]⟩) (by simp [v19]) hlt hb⟩
                · have hblk := blk_below E1.out hS.below
                  have q2 : w'.cell? ⟨g1, 0, none⟩ = some (.int .i64 u1) := (blk_cell hblk 0).trans rfl
                  have q3 : w'.cell? ⟨g1, 1, none⟩ = some (.int .i64 u2) := (blk_cell hblk 1).trans rfl
                  refine Inv.step_value (v := .agg #[.int .i64 u1, .int .i64 u2]) (w' := w') rfl rfl ?_ ?_
                  · generalize (Inv.over A0 f).eval = ev at *
                    go_simp
                    try rfl
                  · exact ⟨by simpa using hz, _, Inv.over_put A0 f 158 _, hS.value (o := ⟨6, 158, .agg #[.int .i64 u1, .int .i64 u2]⟩) (by simp [v19]) hlt (Below.refl _ _)⟩
                · have h5 := hv 5 157 (.agg #[.int .i64 u1, .int .i64 u2]) (by simp [v19]) (Inv.waits hi rfl (j := 5) (by rfl)) (by decide)
                  have h6 := hv 6 158 (.agg #[.int .i64 u1, .int .i64 u2]) (by simp [v19]) (Inv.waits hi rfl (j := 6) (by rfl)) (by decide)
                  refine Inv.step_value (v := .bool true) (w' := w') rfl rfl ?_ ?_
                  · generalize (Inv.over A0 f).eval = ev at *
                    go_simp
                    try rfl
                  · exact ⟨by simpa using hz, _, Inv.over_put A0 f 159 _, hS.value (o := ⟨7, 159, .bool true⟩) (by simp [v19]) hlt (Below.refl _ _)⟩
                · have h7 := hv 7 159 (.bool true) (by simp [v19]) (Inv.waits hi rfl (j := 7) (by rfl)) (by decide)
                  refine Inv.step_value (v := .bool true) (w' := w') rfl rfl ?_ ?_
                  · generalize (Inv.over A0 f).eval = ev at *
                    go_simp
                  · exact ⟨by simpa using hz, _, Inv.over_put A0 f 160 _, hS.value (o := ⟨8, 160, .bool true⟩) (by simp [v19]) hlt (Below.refl _ _)⟩
                · have f8 := hS.val ⟨8, 160, .bool true⟩ (by simp [v19]) (Inv.waits hi rfl (j := 8) (by rfl))
                  refine Inv.step_wanted (v := .bool true) (w' := w') rfl ?_ ?_ ?_
                  · exact Inv.wanted_of (d := 160) (by rfl) (by rfl) f8 (by rw [hAz]; decide)
                  · generalize (Inv.over A0 f).eval = ev at *
                    go_simp
                  · exact ⟨by simpa using hz, _, Inv.over_put A0 f 161 _, hS.value (o := ⟨9, 161, .bool true⟩) (by simp [v19]) hlt (Below.refl _ _)⟩
                · have h8 := hv 8 160 (.bool true) (by simp [v19]) (Inv.waits hi rfl (j := 8) (by rfl)) (by decide)
                  have h9 := hv 9 161 (.bool true) (by simp [v19]) (Inv.waits hi rfl (j := 9) (by rfl)) (by decide)
                  refine Inv.step_value (v := .bool true) (w' := w') rfl rfl ?_ ?_
                  · generalize (Inv.over A0 f).eval = ev at *
                    go_simp
                    try rfl
                  · exact ⟨by simpa using hz, _, Inv.over_put A0 f 162 _, hS.value (o := ⟨10, 162, .bool true⟩) (by simp [v19]) hlt (Below.refl _ _)⟩
                · have h10 := hv 10 162 (.bool true) (by simp [v19]) (Inv.waits hi rfl (j := 10) (by rfl)) (by decide)
                  refine Inv.step_value (v := .bool true) (w' := w') rfl rfl ?_ ?_
                  · generalize (Inv.over A0 f).eval = ev at *
                    go_simp
                    try rfl
                  · exact ⟨by simpa using hz, _, Inv.over_put A0 f 6 _, hS.value (o := ⟨11, 6, .bool true⟩) (by simp [v19]) hlt (Below.refl _ _)⟩
              case done =>
                rintro listed a' we ⟨hz, f, rfl, hS⟩ hrd
                have up := Inv.all_up hz hrd (by kernel_rfl) 12
                obtain ⟨y0, f0⟩ := hS.some0 (up 0 (by decide) (by decide))
                obtain ⟨y2, f2⟩ := hS.some2 (up 2 (by decide) (by decide))
                obtain ⟨y3, f3⟩ := hS.some3 (up 3 (by decide) (by decide))
                obtain ⟨y4, f4, _⟩ := hS.last (up 4 (by decide) (by decide))
                have f1 := hS.val ⟨1, 153, .slice A l.length c⟩ (by simp [v19]) (up 1 (by decide) (by decide))
                have f5 := hS.val ⟨5, 157, .agg #[.int .i64 u1, .int .i64 u2]⟩ (by simp [v19]) (up 5 (by decide) (by decide))
                have f6 := hS.val ⟨6, 158, .agg #[.int .i64 u1, .int .i64 u2]⟩ (by simp [v19]) (up 6 (by decide) (by decide))
                have f7 := hS.val ⟨7, 159, .bool true⟩ (by simp [v19]) (up 7 (by decide) (by decide))
                have f8 := hS.val ⟨8, 160, .bool true⟩ (by simp [v19]) (up 8 (by decide) (by decide))
                have f9 := hS.val ⟨9, 161, .bool true⟩ (by simp [v19]) (up 9 (by decide) (by decide))
                have f10 := hS.val ⟨10, 162, .bool true⟩ (by simp [v19]) (up 10 (by decide) (by decide))
                have f11 := hS.val ⟨11, 6, .bool true⟩ (by simp [v19]) (up 11 (by decide) (by decide))
                dsimp only at f1 f5 f6 f7 f8 f9 f10 f11
                have ea : Inv.over A0 f = ((((((((((((A0.put (some 152) (y0)).put (some 153) (.slice A l.length c)).put (some 154) (y2)).put (some 155) (y3)).put (some 156) (y4)).put (some 157) (.agg #[.int .i64 u1, .int .i64 u2])).put (some 158) (.agg #[.int .i64 u1, .int .i64 u2])).put (some 159) (.bool true)).put (some 160) (.bool true)).put (some 161) (.bool true)).put (some 162) (.bool true)).put (some 6) (.bool true)) := by
                  conv => rhs; rw [← Inv.over_none A0]
                  simp only [Inv.over_put]
                  refine Inv.over_congr (fun i => ?_)
                  by_cases e6 : i = 6
                  · subst e6
                    rw [f11]
                    simp
                  by_cases e162 : i = 162
                  · subst e162
                    rw [f10]
                    simp
                  by_cases e161 : i = 161
                  · subst e161
                    rw [f9]
                    simp
                  by_cases e160 : i = 160
                  · subst e160
                    rw [f8]
                    simp
                  by_cases e159 : i = 159
                  · subst e159
                    rw [f7]
                    simp
                  by_cases e158 : i = 158
                  · subst e158
                    rw [f6]
                    simp
                  by_cases e157 : i = 157
                  · subst e157
                    rw [f5]
                    simp
                  by_cases e156 : i = 156
                  · subst e156
                    rw [f4]
                    simp
                  by_cases e155 : i = 155
                  · subst e155
                    rw [f3]
                    simp
                  by_cases e154 : i = 154
                  · subst e154
                    rw [f2]
                    simp
                  by_cases e153 : i = 153
                  · subst e153
                    rw [f1]
                    simp
                  by_cases e152 : i = 152
                  · subst e152
                    rw [f0]
                    simp
                  rw [hS.off i (by show i ∉ [6, 152, 153, 154, 155, 156, 157, 158, 159, 160, 161, 162]; simp [e152, e153, e154, e155, e156, e157, e158, e159, e160, e161, e162, e6])]
                  simp [e152, e153, e154, e155, e156, e157, e158, e159, e160, e161, e162, e6]
                rw [ea]
                subst hA0
                simp only [Act.put, List.setIfInBounds_toArray, List.set_cons_zero, List.set_cons_succ]
                have HBE := below_step HI.out.below hS.below
                clear ea f0 f1 f2 f3 f4 f5 f6 f7 f8 f9 f10 f11 hS up hz hrd hA2 hA7 hA14 hAz
                go_wp2_with fail
                go_ret
                exact ⟨rfl, HBE⟩
theorem sums_law (a b : Int) (A : Option Addr) (len cap : Nat) (zs : List Int) (w : World) (hgl : Gl w) (wa : (Lit.int .i64 a).wf = true) (wb : (Lit.int .i64 b).wf = true)
    (hrow : (A = none ∧ len = 0 ∧ cap = 0 ∧ zs = []) ∨ ∃ x, A = some x ∧ len ≤ cap ∧ cap ≤ maxLen ∧ zs.length = cap ∧ (∀ i, i < zs.length → w.cell? (x.add i) = some (.int .i64 (zs.getD i 0))) ∧ ∀ n ∈ zs, (Lit.int .i64 n).wf = true) :
    Calls Tryz.prog 5 #[.int .i64 a, .int .i64 b, .slice A len cap] w fun e w' => e = .returned (.bool true) ∧ Below w.heap.size w w' := by
  have ha : -9223372036854775808 ≤ a ∧ a ≤ 9223372036854775807 := by simpa [Lit.wf, IntKind.min, IntKind.max, IntKind.signed, IntKind.bits] using wa
  have hb : -9223372036854775808 ≤ b ∧ b ≤ 9223372036854775807 := by simpa [Lit.wf, IntKind.min, IntKind.max, IntKind.signed, IntKind.bits] using wb
  obtain ⟨l, rfl, hr, hm, hw, hc⟩ := ReadsInt.ofRowC hrow
  exact sums_walk a b A cap l w hgl ha.1 ha.2 hb.1 hb.2 (Kd.C_of_reads (d := (0 : Int)) (h1 := fun _ => rfl) hr) hc
end Go.Proofs.YtckonpphagkfeaaGreatDoor.H
