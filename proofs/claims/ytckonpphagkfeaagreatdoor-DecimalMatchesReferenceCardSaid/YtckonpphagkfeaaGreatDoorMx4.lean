/- Printed by a program of this session (wip/pp.py): functions of the translation as Lean functions, each with the proof that the code comes to its answer. -/
import Derived.Test.YtckonpphagkfeaaGreatDoorMx0
import Derived.Test.YtckonpphagkfeaaGreatDoorMx1
import Derived.Test.YtckonpphagkfeaaGreatDoorMx2
import Derived.Test.YtckonpphagkfeaaGreatDoorMx3
namespace Go.Proofs.YtckonpphagkfeaaGreatDoor.M
open Go.RowKit Go.Proofs.YtckonpphagkfeaaGreatDoor.Q Go.Proofs.YtckonpphagkfeaaGreatDoor.H Go.Proofs.YtckonpphagkfeaaGreatDoorW.PrintWords Go.Proofs.YtckonpphagkfeaaGreatDoorW.PrintLast Go.Proofs.YtckonpphagkfeaaGreatDoorW.PrintMore
attribute [local go_sem] max2_int min2_int max_two min_two max_three min_three max_four min_four   -- for this text's walks alone
set_option linter.unusedVariables false
set_option linter.unusedSimpArgs false

/-! ### chapmanref02_ParseIn: function 25 -/
mutual
def chapmanref02_ParseIn.j0 : Nat → Int → Bool → Bool → Bool → ByteArray → ByteArray → Option (Int × Int)
  | 0, _, _, _, _, _, _ => none
  | k + 1, x1, x34, x149000, x149001, x149002, x149003 => if x34 = true then (some (0, 5)) else (if x149001 = true then ((chapmanref02_numeral.f k x149003).bind fun t150 => (if t150 = true then (if (x149003.size : Int) > x1 then (chapmanref02_ParseIn.j1 k true x149000 x149001 x149002 x149003) else (if 0 ≤ (wrap64 ((x149003.size : Int) - 1)) then (if (wrap64 ((x149003.size : Int) - 1)) < (x149003.size : Int) then (chapmanref02_ParseIn.j1 k ((bt x149003 (wrap64 ((x149003.size : Int) - 1))) == 48) x149000 x149001 x149002 x149003) else (none)) else (none))) else (chapmanref02_ParseIn.j1 k true x149000 x149001 x149002 x149003))) else (chapmanref02_ParseIn.j1 k false x149000 x149001 x149002 x149003))
def chapmanref02_ParseIn.j1 : Nat → Bool → Bool → Bool → ByteArray → ByteArray → Option (Int × Int)
  | 0, _, _, _, _, _ => none
  | k + 1, x60, x149000, x149001, x149002, x149003 => if x60 = true then (some (0, 5)) else (if (x149002.size : Int) > 10 then (some (0, 2)) else (if x149002.size + x149003.size ≤ 9223372036854775807 then (chapmanref02_ParseIn.l0 k 0 (x149002 ++ x149003) 0 x149000 x149001 x149002 x149003) else (none)))
def chapmanref02_ParseIn.l0 : Nat → Int → ByteArray → Int → Bool → Bool → ByteArray → ByteArray → Option (Int × Int)
  | 0, _, _, _, _, _, _, _ => none
  | k + 1, x6, x7, x8, x149000, x149001, x149002, x149003 => if x8 < (x7.size : Int) then (if 0 ≤ x8 then (chapmanref02_ParseIn.l0 k (wrap64 ((wrap64 (10 * x6)) + (((bt x7 x8) - 48) % 256))) x7 (wrap64 (x8 + 1)) x149000 x149001 x149002 x149003) else (none)) else ((chapmanref02_Step.f k (x149003.size : Int)).bind fun t151 => (if x149000 = true then ((chapmanref02_Valid.f (wrap64 (-(wrap64 (x6 * t151))))).bind fun t152 => (if t152 = true then (some (wrap64 (-(wrap64 (x6 * t151))), 0)) else (some (0, 2)))) else ((chapmanref02_Valid.f (wrap64 (x6 * t151))).bind fun t153 => (if t153 = true then (some (wrap64 (x6 * t151), 0)) else (some (0, 2))))))
end
def chapmanref02_ParseIn.f (k : Nat) (a0 : ByteArray) (a1 : Int) : Option (Int × Int) := (chapmanref02_Scaled.f a1).bind fun t143 => (if t143 = true then ((chapmanref02_split.f k a0).bind fun bt144 => ((chapmanref02_numeral.f k bt144.2.2.1).bind fun t149 => (if t149 = true then (if (bt144.2.2.1.size : Int) > 1 then (if 0 < (bt144.2.2.1.size : Int) then (if (bt bt144.2.2.1 0) = 48 then (chapmanref02_ParseIn.j0 k a1 true bt144.1 bt144.2.1 bt144.2.2.1 bt144.2.2.2) else (chapmanref02_ParseIn.j0 k a1 (a0.toList == ([45, 48] : List UInt8)) bt144.1 bt144.2.1 bt144.2.2.1 bt144.2.2.2)) else (none)) else (chapmanref02_ParseIn.j0 k a1 (a0.toList == ([45, 48] : List UInt8)) bt144.1 bt144.2.1 bt144.2.2.1 bt144.2.2.2)) else (chapmanref02_ParseIn.j0 k a1 true bt144.1 bt144.2.1 bt144.2.2.1 bt144.2.2.2)))) else (some (0, 1)))
theorem chapmanref02_ParseIn.mono_l : ∀ k, (∀ y0 y1 y2 y3 y4 y5, LeO (chapmanref02_ParseIn.j0 k y0 y1 y2 y3 y4 y5) (chapmanref02_ParseIn.j0 (k + 1) y0 y1 y2 y3 y4 y5)) ∧ (∀ y0 y1 y2 y3 y4, LeO (chapmanref02_ParseIn.j1 k y0 y1 y2 y3 y4) (chapmanref02_ParseIn.j1 (k + 1) y0 y1 y2 y3 y4)) ∧ (∀ y0 y1 y2 y3 y4 y5 y6, LeO (chapmanref02_ParseIn.l0 k y0 y1 y2 y3 y4 y5 y6) (chapmanref02_ParseIn.l0 (k + 1) y0 y1 y2 y3 y4 y5 y6))
  | 0 => ⟨fun _ _ _ _ _ _ r h => by simp [chapmanref02_ParseIn.j0] at h, fun _ _ _ _ _ r h => by simp [chapmanref02_ParseIn.j1] at h, fun _ _ _ _ _ _ _ r h => by simp [chapmanref02_ParseIn.l0] at h⟩
  | k + 1 => by
    obtain ⟨ih0, ih1, ih2⟩ := chapmanref02_ParseIn.mono_l k
    refine ⟨?_, ?_, ?_⟩
    · intro y0 y1 y2 y3 y4 y5
      unfold chapmanref02_ParseIn.j0
      repeat' first
      | (with_reducible exact ih0 _ _ _ _ _ _)
      | (with_reducible exact ih1 _ _ _ _ _)
      | (with_reducible exact ih2 _ _ _ _ _ _ _)
      | (with_reducible exact chapmanref02_Step.mono _ _)
      | (with_reducible exact chapmanref02_numeral.mono _ _)
      | (with_reducible exact chapmanref02_split.mono _ _)
      | (with_reducible exact LeO.refl _)
      | (with_reducible exact LeO.none _)
      | (with_reducible refine LeO.ite ?_ ?_)
      | (with_reducible refine LeO.bind ?_ (fun _ => ?_))
      | exact ih0 _ _ _ _ _ _
      | exact ih1 _ _ _ _ _
      | exact ih2 _ _ _ _ _ _ _
      | exact chapmanref02_Step.mono _ _
      | exact chapmanref02_numeral.mono _ _
      | exact chapmanref02_split.mono _ _
      | exact LeO.none _
      | refine LeO.ite ?_ ?_
      | refine LeO.bind ?_ (fun _ => ?_)
    · intro y0 y1 y2 y3 y4
      unfold chapmanref02_ParseIn.j1
      repeat' first
      | (with_reducible exact ih0 _ _ _ _ _ _)
      | (with_reducible exact ih1 _ _ _ _ _)
      | (with_reducible exact ih2 _ _ _ _ _ _ _)
      | (with_reducible exact chapmanref02_Step.mono _ _)
      | (with_reducible exact chapmanref02_numeral.mono _ _)
      | (with_reducible exact chapmanref02_split.mono _ _)
      | (with_reducible exact LeO.refl _)
      | (with_reducible exact LeO.none _)
      | (with_reducible refine LeO.ite ?_ ?_)
      | (with_reducible refine LeO.bind ?_ (fun _ => ?_))
      | exact ih0 _ _ _ _ _ _
      | exact ih1 _ _ _ _ _
      | exact ih2 _ _ _ _ _ _ _
      | exact chapmanref02_Step.mono _ _
      | exact chapmanref02_numeral.mono _ _
      | exact chapmanref02_split.mono _ _
      | exact LeO.none _
      | refine LeO.ite ?_ ?_
      | refine LeO.bind ?_ (fun _ => ?_)
    · intro y0 y1 y2 y3 y4 y5 y6
      unfold chapmanref02_ParseIn.l0
      repeat' first
      | (with_reducible exact ih0 _ _ _ _ _ _)
      | (with_reducible exact ih1 _ _ _ _ _)
      | (with_reducible exact ih2 _ _ _ _ _ _ _)
      | (with_reducible exact chapmanref02_Step.mono _ _)
      | (with_reducible exact chapmanref02_numeral.mono _ _)
      | (with_reducible exact chapmanref02_split.mono _ _)
      | (with_reducible exact LeO.refl _)
      | (with_reducible exact LeO.none _)
      | (with_reducible refine LeO.ite ?_ ?_)
      | (with_reducible refine LeO.bind ?_ (fun _ => ?_))
      | exact ih0 _ _ _ _ _ _
      | exact ih1 _ _ _ _ _
      | exact ih2 _ _ _ _ _ _ _
      | exact chapmanref02_Step.mono _ _
      | exact chapmanref02_numeral.mono _ _
      | exact chapmanref02_split.mono _ _
      | exact LeO.none _
      | refine LeO.ite ?_ ?_
      | refine LeO.bind ?_ (fun _ => ?_)
theorem chapmanref02_ParseIn.mono : ∀ a0 a1 k, LeO (chapmanref02_ParseIn.f k a0 a1) (chapmanref02_ParseIn.f (k + 1) a0 a1) := by
  intro a0 a1 k
  obtain ⟨ih0, ih1, ih2⟩ := chapmanref02_ParseIn.mono_l k
  unfold chapmanref02_ParseIn.f
  repeat' first
      | (with_reducible exact ih0 _ _ _ _ _ _)
      | (with_reducible exact ih1 _ _ _ _ _)
      | (with_reducible exact ih2 _ _ _ _ _ _ _)
      | (with_reducible exact chapmanref02_Step.mono _ _)
      | (with_reducible exact chapmanref02_numeral.mono _ _)
      | (with_reducible exact chapmanref02_split.mono _ _)
      | (with_reducible exact LeO.refl _)
      | (with_reducible exact LeO.none _)
      | (with_reducible refine LeO.ite ?_ ?_)
      | (with_reducible refine LeO.bind ?_ (fun _ => ?_))
      | exact ih0 _ _ _ _ _ _
      | exact ih1 _ _ _ _ _
      | exact ih2 _ _ _ _ _ _ _
      | exact chapmanref02_Step.mono _ _
      | exact chapmanref02_numeral.mono _ _
      | exact chapmanref02_split.mono _ _
      | exact LeO.none _
      | refine LeO.ite ?_ ?_
      | refine LeO.bind ?_ (fun _ => ?_)
set_option maxHeartbeats 8000000 in
set_option maxRecDepth 100000 in
theorem chapmanref02_ParseIn.calls (k : Nat) (a0 : ByteArray) (a1 : Int) (r1 : Int) (r2 : Int) (w : World) (h : chapmanref02_ParseIn.f k a0 a1 = some (r1, r2)) :
    Calls Tryz.prog 25 #[.string a0, .int .i64 a1] w fun e w' => e = .returned (.agg #[.int .i64 r1, .int .i64 r2]) ∧ Below w.heap.size w w' := by
  have hu30 := Tryz.underlying30
  have hu55 := Tryz.underlying55
  have HB := Aside0.mk (Below.refl w.heap.size w)
  have H : ((chapmanref02_Scaled.f a1).bind fun t143 => (if t143 = true then ((chapmanref02_split.f k a0).bind fun bt144 => ((chapmanref02_numeral.f k bt144.2.2.1).bind fun t149 => (if t149 = true then (if (bt144.2.2.1.size : Int) > 1 then (if 0 < (bt144.2.2.1.size : Int) then (if (bt bt144.2.2.1 0) = 48 then (chapmanref02_ParseIn.j0 k a1 true bt144.1 bt144.2.1 bt144.2.2.1 bt144.2.2.2) else (chapmanref02_ParseIn.j0 k a1 (a0.toList == ([45, 48] : List UInt8)) bt144.1 bt144.2.1 bt144.2.2.1 bt144.2.2.2)) else (none)) else (chapmanref02_ParseIn.j0 k a1 (a0.toList == ([45, 48] : List UInt8)) bt144.1 bt144.2.1 bt144.2.2.1 bt144.2.2.2)) else (chapmanref02_ParseIn.j0 k a1 true bt144.1 bt144.2.1 bt144.2.2.1 bt144.2.2.2)))) else (some (0, 1)))) = some (r1, r2) := h
  clear h
  replace H := Option.bind_eq_some_iff.mp H
  obtain ⟨t143, A30, H⟩ := H
  replace H : (if t143 = true then ((chapmanref02_split.f k a0).bind fun bt144 => ((chapmanref02_numeral.f k bt144.2.2.1).bind fun t149 => (if t149 = true then (if (bt144.2.2.1.size : Int) > 1 then (if 0 < (bt144.2.2.1.size : Int) then (if (bt bt144.2.2.1 0) = 48 then (chapmanref02_ParseIn.j0 k a1 true bt144.1 bt144.2.1 bt144.2.2.1 bt144.2.2.2) else (chapmanref02_ParseIn.j0 k a1 (a0.toList == ([45, 48] : List UInt8)) bt144.1 bt144.2.1 bt144.2.2.1 bt144.2.2.2)) else (none)) else (chapmanref02_ParseIn.j0 k a1 (a0.toList == ([45, 48] : List UInt8)) bt144.1 bt144.2.1 bt144.2.2.1 bt144.2.2.2)) else (chapmanref02_ParseIn.j0 k a1 true bt144.1 bt144.2.1 bt144.2.2.1 bt144.2.2.2)))) else (some (0, 1))) = some (r1, r2) := H
  have A3 := Aside0.mk A30
  clear A30
  by_cases c4 : t143 = true
  · subst c4
    have H1 : ((chapmanref02_split.f k a0).bind fun bt144 => ((chapmanref02_numeral.f k bt144.2.2.1).bind fun t149 => (if t149 = true then (if (bt144.2.2.1.size : Int) > 1 then (if 0 < (bt144.2.2.1.size : Int) then (if (bt bt144.2.2.1 0) = 48 then (chapmanref02_ParseIn.j0 k a1 true bt144.1 bt144.2.1 bt144.2.2.1 bt144.2.2.2) else (chapmanref02_ParseIn.j0 k a1 (a0.toList == ([45, 48] : List UInt8)) bt144.1 bt144.2.1 bt144.2.2.1 bt144.2.2.2)) else (none)) else (chapmanref02_ParseIn.j0 k a1 (a0.toList == ([45, 48] : List UInt8)) bt144.1 bt144.2.1 bt144.2.2.1 bt144.2.2.2)) else (chapmanref02_ParseIn.j0 k a1 true bt144.1 bt144.2.1 bt144.2.2.1 bt144.2.2.2)))) = some (r1, r2) := by rw [if_pos rfl] at H; exact H
    clear H
    have H := H1
    clear H1
    replace H := Option.bind_eq_some_iff.mp H
    obtain ⟨⟨t144, t145, t146, t147⟩, A50, H⟩ := H
    replace H : ((chapmanref02_numeral.f k t146).bind fun t149 => (if t149 = true then (if (t146.size : Int) > 1 then (if 0 < (t146.size : Int) then (if (bt t146 0) = 48 then (chapmanref02_ParseIn.j0 k a1 true t144 t145 t146 t147) else (chapmanref02_ParseIn.j0 k a1 (a0.toList == ([45, 48] : List UInt8)) t144 t145 t146 t147)) else (none)) else (chapmanref02_ParseIn.j0 k a1 (a0.toList == ([45, 48] : List UInt8)) t144 t145 t146 t147)) else (chapmanref02_ParseIn.j0 k a1 true t144 t145 t146 t147))) = some (r1, r2) := H
    have A5 := Aside0.mk A50
    clear A50
    have HC6 := Aside0.mk H
    clear H
    go_enter Tryz.func25, Tryz.ntmps25
    go_upto_region 4 with (first | ((with_reducible refine gate_dst (N := 4) rfl ?_); (try (refine gate_guard (by rfl) ?_; dsimp only)); refine box_event ?hg (N := 4) ?hd (cs := #[.int .i64 0, .int .i64 0]) (t := 30) ?hr ?_; (case hd => rfl); (case hg => rfl); (case hr => first | (go_simp; done) | (go_simp; rfl)); intro gb142 hg w7 hbox hb; have n0_ := Aside0.mk (below_step (by repeat (first | (with_reducible first | exact HB.out | apply below_alloc | apply pw_below_drewN | apply below_drew1) | exact HB.out)) hb); have n1_ := Aside0.mk (hbox); have n2_ := Aside0.mk ((by rw [hg]; exact (below_size (by repeat (first | (with_reducible first | exact HB.out | apply below_alloc | apply pw_below_drewN | apply below_drew1) | exact HB.out))) : w.heap.size ≤ gb142)); have n3_ := Aside0.mk ((by rw [hg]; exact (below_size (by repeat (first | (with_reducible first | exact HB.out | apply below_alloc | apply pw_below_drewN | apply below_drew1) | exact HB.out))) : w.heap.size ≤ gb142)); clear HB; have HB := n0_; have BK142 := n1_; have GW142 := n2_; have GE142 := n3_; clear n0_ n1_ n2_ n3_; clear hb hbox hg) | ((with_reducible refine gate_callee (f := 47) rfl ?_); refine goesL_ (some 10) rfl rfl Tryz.func47 (by kernel_rfl) rfl #[.int .i64 a1] rfl (by (try simp only [List.map_toArray, List.map_cons, List.map_nil]); first | done | rfl | (simp only [List.length_drop, List.length_take]; rfl)) ?_; (with_reducible refine (chapmanref02_Scaled.calls a1 true _ A3.out).mono ?_); rintro e w' ⟨rfl, ⟨nd, rfl⟩⟩; refine ⟨_, rfl, ?_⟩; (try (rw [drewN_self w7]; generalize hq_ : World.drewN w7 _ = w7; have n0_ : Aside0 (w7.heap[gb142]? = some (.cells #[.int .i64 0, .int .i64 0] 30 (0, 0))) := ⟨by rw [← hq_]; exact (by (with_reducible repeat (first | refine blk_drewN ?_ _ | refine blk_drew ?_ | refine blk_alloc ?_ _)); exact BK142.out)⟩; have n1_ : Aside0 (Below w.heap.size w w7) := ⟨by rw [← hq_]; exact (by repeat (first | (with_reducible first | exact HB.out | apply below_alloc | apply pw_below_drewN | apply below_drew1 | refine below_set ?_ GE142.out) | exact HB.out))⟩; clear BK142 HB hq_; have BK142 := n0_; have HB := n1_; clear n0_ n1_))) | ((with_reducible refine gate_callee (f := 48) rfl ?_); refine goesL_ (some 14) rfl rfl Tryz.func48 (by kernel_rfl) rfl #[.string a0] rfl (by (try simp only [List.map_toArray, List.map_cons, List.map_nil]); first | done | rfl | (simp only [List.length_drop, List.length_take]; rfl)) ?_; (with_reducible refine (chapmanref02_split.calls k a0 t144 t145 t146 t147 _ A5.out).mono ?_); rintro e w8 ⟨rfl, hb⟩; refine ⟨_, rfl, ?_⟩; have n0_ := Aside0.mk (blk_below (g := gb142) (o := .cells #[.int .i64 0, .int .i64 0] 30 (0, 0)) (by (with_reducible repeat (first | refine blk_drewN ?_ _ | refine blk_drew ?_ | refine blk_alloc ?_ _)); exact BK142.out) hb); have n1_ := Aside0.mk (below_step (by repeat (first | (with_reducible first | exact HB.out | apply below_alloc | apply pw_below_drewN | apply below_drew1 | refine below_set ?_ GE142.out) | exact HB.out)) hb); clear BK142; clear HB; have BK142 := n0_; have HB := n1_; clear n0_ n1_; (try clear hb); (try clear hb2); (try clear hk); (try clear hi)) | ((with_reducible refine gate_dst (N := 5) rfl ?_); (try (refine gate_guard (by rfl) ?_; dsimp only)); refine box_event ?hg (N := 5) ?hd (cs := #[.bool false, .bool false, .string (⟨#[]⟩ : ByteArray), .string (⟨#[]⟩ : ByteArray)]) (t := 55) ?hr ?_; (case hd => rfl); (case hg => rfl); (case hr => first | (go_simp; done) | (go_simp; rfl)); intro gb148 hg w9 hbox hb; have n0_ := Aside0.mk (blk_below (g := gb142) (o := .cells #[.int .i64 0, .int .i64 0] 30 (0, 0)) (by (with_reducible repeat (first | refine blk_drewN ?_ _ | refine blk_drew ?_ | refine blk_alloc ?_ _)); exact BK142.out) hb); have n1_ := Aside0.mk (below_step (by repeat (first | (with_reducible first | exact HB.out | apply below_alloc | apply pw_below_drewN | apply below_drew1 | refine below_set ?_ GE142.out) | exact HB.out)) hb); have n2_ := Aside0.mk (hbox); have n3_ := Aside0.mk ((by rw [hg]; exact (below_size (by repeat (first | (with_reducible first | exact HB.out | apply below_alloc | apply pw_below_drewN | apply below_drew1 | refine below_set ?_ GE142.out) | exact HB.out))) : w.heap.size ≤ gb148)); have n4_ := Aside0.mk ((by rw [hg]; exact (below_size (by repeat (first | (with_reducible first | exact HB.out | apply below_alloc | apply pw_below_drewN | apply below_drew1 | refine below_set ?_ GE142.out) | exact HB.out))) : w.heap.size ≤ gb148)); have n5_ := Aside0.mk ((by rw [hg]; exact Nat.ne_of_lt (blk_lt (g := gb142) (o := .cells #[.int .i64 0, .int .i64 0] 30 (0, 0)) (by (with_reducible repeat (first | refine blk_drewN ?_ _ | refine blk_drew ?_ | refine blk_alloc ?_ _)); exact BK142.out)) : gb142 ≠ gb148)); have n6_ := Aside0.mk ((by rw [hg]; exact Nat.ne_of_gt (blk_lt (g := gb142) (o := .cells #[.int .i64 0, .int .i64 0] 30 (0, 0)) (by (with_reducible repeat (first | refine blk_drewN ?_ _ | refine blk_drew ?_ | refine blk_alloc ?_ _)); exact BK142.out)) : gb148 ≠ gb142)); clear BK142; clear HB; have BK142 := n0_; have HB := n1_; have BK148 := n2_; have GW148 := n3_; have GE148 := n4_; have NB142_148 := n5_; have NB148_142 := n6_; clear n0_ n1_ n2_ n3_ n4_ n5_ n6_; clear hb hbox hg; have hnb10 := NB148_142.out; have hnc10 := NB142_148.out; have hcz11_0 : w9.cell? ⟨gb148, 0, none⟩ = some (.bool false) := (blk_cell BK148.out 0).trans rfl; have hcz11_1 : w9.cell? ⟨gb148, 1, none⟩ = some (.bool false) := (blk_cell BK148.out 1).trans rfl; have hcz11_2 : w9.cell? ⟨gb148, 2, none⟩ = some (.string (⟨#[]⟩ : ByteArray)) := (blk_cell BK148.out 2).trans rfl; have hcz11_3 : w9.cell? ⟨gb148, 3, none⟩ = some (.string (⟨#[]⟩ : ByteArray)) := (blk_cell BK148.out 3).trans rfl; have hfz11_0 := blk_frozen BK148.out 0; have hfz11_1 := blk_frozen BK148.out 1; have hfz11_2 := blk_frozen BK148.out 2; have hfz11_3 := blk_frozen BK148.out 3))
    (try simp only [Act.put, List.setIfInBounds_toArray, List.set_cons_zero, List.set_cons_succ])
    go_cut [34] (fun v34 wc => ∃ (kq : Nat) (x34_5 : Bool), v34 = .bool x34_5 ∧ Aside0 (chapmanref02_ParseIn.j0 kq a1 x34_5 t144 t145 t146 t147 = some (r1, r2)) ∧ Aside0 (kq ≤ k) ∧ Aside0 (wc.heap[gb142]? = some (.cells #[.int .i64 0, .int .i64 0] 30 (0, 0))) ∧ Aside0 (wc.heap[gb148]? = some (.cells #[.bool t144, .bool t145, .string t146, .string t147] 55 (0, 0))) ∧ Aside0 (Below w.heap.size w wc))
    case first =>
      have H := HC6.out
      clear HC6
      replace H := Option.bind_eq_some_iff.mp H
      obtain ⟨t149, A120, H⟩ := H
      replace H : (if t149 = true then (if (t146.size : Int) > 1 then (if 0 < (t146.size : Int) then (if (bt t146 0) = 48 then (chapmanref02_ParseIn.j0 k a1 true t144 t145 t146 t147) else (chapmanref02_ParseIn.j0 k a1 (a0.toList == ([45, 48] : List UInt8)) t144 t145 t146 t147)) else (none)) else (chapmanref02_ParseIn.j0 k a1 (a0.toList == ([45, 48] : List UInt8)) t144 t145 t146 t147)) else (chapmanref02_ParseIn.j0 k a1 true t144 t145 t146 t147)) = some (r1, r2) := H
      have A12 := Aside0.mk A120
      clear A120
      by_cases c13 : t149 = true
      · subst c13
        have H1 : (if (t146.size : Int) > 1 then (if 0 < (t146.size : Int) then (if (bt t146 0) = 48 then (chapmanref02_ParseIn.j0 k a1 true t144 t145 t146 t147) else (chapmanref02_ParseIn.j0 k a1 (a0.toList == ([45, 48] : List UInt8)) t144 t145 t146 t147)) else (none)) else (chapmanref02_ParseIn.j0 k a1 (a0.toList == ([45, 48] : List UInt8)) t144 t145 t146 t147)) = some (r1, r2) := by rw [if_pos rfl] at H; exact H
        clear H
        have H := H1
        clear H1
        by_cases c14 : (t146.size : Int) > 1
        · rw [if_pos c14] at H
          have c14b0 : decide (1 < (t146.size : Int)) = true := decide_eq_true c14
          have c14b1 : decide (1 < t146.size) = true := decide_eq_true (by omega)
          clear c14
          (first | rw [c14b0] | (simp only [i64_w, i32_w]; rw [c14b0]) | skip)
          by_cases c15 : 0 < (t146.size : Int)
          · rw [if_pos c15] at H
            have c15b0 : decide (0 < (t146.size : Int)) = true := decide_eq_true c15
            have c15b1 : decide (0 < t146.size) = true := decide_eq_true (by omega)
            clear c15
            by_cases c17 : (bt t146 0) = 48
            · rw [if_pos c17] at H
              have c17b0 : ((bt t146 0) == 48) = true := beq_iff_eq.mpr c17
              have c17b1 : ((bt t146 0) != 48) = false := bne_eq_false_iff_eq.mpr c17
              clear c17
              have H' := Aside0.mk H
              clear H
              have hnb18 := NB148_142.out
              have hnc18 := NB142_148.out
              have hcz19_0 : w9.cell? ⟨gb148, 0, none⟩ = some (.bool false) := (blk_cell BK148.out 0).trans rfl
              have hcz19_1 : w9.cell? ⟨gb148, 1, none⟩ = some (.bool false) := (blk_cell BK148.out 1).trans rfl
              have hcz19_2 : w9.cell? ⟨gb148, 2, none⟩ = some (.string (⟨#[]⟩ : ByteArray)) := (blk_cell BK148.out 2).trans rfl
              have hcz19_3 : w9.cell? ⟨gb148, 3, none⟩ = some (.string (⟨#[]⟩ : ByteArray)) := (blk_cell BK148.out 3).trans rfl
              have hfz19_0 := blk_frozen BK148.out 0
              have hfz19_1 := blk_frozen BK148.out 1
              have hfz19_2 := blk_frozen BK148.out 2
              have hfz19_3 := blk_frozen BK148.out 3
              go_wp2_with (first | ((with_reducible refine gate_callee (f := 49) rfl ?_); refine goesL_ (some 17) rfl rfl Tryz.func49 (by kernel_rfl) rfl #[.string t146] rfl (by (try simp only [List.map_toArray, List.map_cons, List.map_nil]); first | done | rfl | (simp only [List.length_drop, List.length_take]; rfl)) ?_; (with_reducible refine (chapmanref02_numeral.calls k t146 true _ A12.out).mono ?_); rintro e w' ⟨rfl, ⟨nd, rfl⟩⟩; refine ⟨_, rfl, ?_⟩; have p16 : 0 ≤ (0 : Int) := (by omega); have q16 : 0 < t146.size := (by have : (0 : Int) < (t146.size : Int) := of_decide_eq_true (by first | (with_reducible assumption) | assumption); omega); have hx16 : ∀ h : 0 < t146.size, ((t146[0]'h).toNat : Int) = bt t146 0 := bt_at t146 0; clear p16; have qi16 : (0 < (t146.size : Int)) = True := eq_true (of_decide_eq_true (by first | (with_reducible assumption) | assumption)); replace q16 := eq_true q16))
              go_meet
              case rel => exact ⟨_, (true), (by first | rfl | (simp; done) | (simp [*]; done)), H', ⟨by first | omega | exact Nat.le_refl _⟩, ⟨by (with_reducible repeat (first | refine blk_drewN ?_ _ | refine blk_drew ?_ | refine blk_alloc ?_ _)); refine blk_far ?_ NB142_148.out _; (with_reducible repeat (first | refine blk_drewN ?_ _ | refine blk_drew ?_ | refine blk_alloc ?_ _)); refine blk_far ?_ NB142_148.out _; (with_reducible repeat (first | refine blk_drewN ?_ _ | refine blk_drew ?_ | refine blk_alloc ?_ _)); refine blk_far ?_ NB142_148.out _; (with_reducible repeat (first | refine blk_drewN ?_ _ | refine blk_drew ?_ | refine blk_alloc ?_ _)); refine blk_far ?_ NB142_148.out _; (with_reducible repeat (first | refine blk_drewN ?_ _ | refine blk_drew ?_ | refine blk_alloc ?_ _)); exact BK142.out⟩, ⟨by (with_reducible repeat (first | refine blk_drewN ?_ _ | refine blk_drew ?_ | refine blk_alloc ?_ _)); refine blk_put (cs := #[.bool t144, .bool t145, .string t146, .string (⟨#[]⟩ : ByteArray)]) ?_ 3 _ rfl; (with_reducible repeat (first | refine blk_drewN ?_ _ | refine blk_drew ?_ | refine blk_alloc ?_ _)); refine blk_put (cs := #[.bool t144, .bool t145, .string (⟨#[]⟩ : ByteArray), .string (⟨#[]⟩ : ByteArray)]) ?_ 2 _ rfl; (with_reducible repeat (first | refine blk_drewN ?_ _ | refine blk_drew ?_ | refine blk_alloc ?_ _)); refine blk_put (cs := #[.bool t144, .bool false, .string (⟨#[]⟩ : ByteArray), .string (⟨#[]⟩ : ByteArray)]) ?_ 1 _ rfl; (with_reducible repeat (first | refine blk_drewN ?_ _ | refine blk_drew ?_ | refine blk_alloc ?_ _)); refine blk_put (cs := #[.bool false, .bool false, .string (⟨#[]⟩ : ByteArray), .string (⟨#[]⟩ : ByteArray)]) ?_ 0 _ rfl; (with_reducible repeat (first | refine blk_drewN ?_ _ | refine blk_drew ?_ | refine blk_alloc ?_ _)); exact BK148.out⟩, ⟨by repeat (first | (with_reducible first | exact HB.out | apply below_alloc | apply pw_below_drewN | apply below_drew1 | refine below_set ?_ GE142.out | refine below_set ?_ GE148.out) | exact HB.out)⟩⟩
            · rw [if_neg c17] at H
              have c17b0 : ((bt t146 0) == 48) = false := beq_eq_false_iff_ne.mpr c17
              have c17b1 : ((bt t146 0) != 48) = true := bne_iff_ne.mpr c17
              have H' := Aside0.mk H
              clear H
              have hnb20 := NB148_142.out
              have hnc20 := NB142_148.out
              have hcz21_0 : w9.cell? ⟨gb148, 0, none⟩ = some (.bool false) := (blk_cell BK148.out 0).trans rfl
              have hcz21_1 : w9.cell? ⟨gb148, 1, none⟩ = some (.bool false) := (blk_cell BK148.out 1).trans rfl
              have hcz21_2 : w9.cell? ⟨gb148, 2, none⟩ = some (.string (⟨#[]⟩ : ByteArray)) := (blk_cell BK148.out 2).trans rfl
              have hcz21_3 : w9.cell? ⟨gb148, 3, none⟩ = some (.string (⟨#[]⟩ : ByteArray)) := (blk_cell BK148.out 3).trans rfl
              have hfz21_0 := blk_frozen BK148.out 0
              have hfz21_1 := blk_frozen BK148.out 1
              have hfz21_2 := blk_frozen BK148.out 2
              have hfz21_3 := blk_frozen BK148.out 3
              go_wp2_with (first | ((with_reducible refine gate_callee (f := 49) rfl ?_); refine goesL_ (some 17) rfl rfl Tryz.func49 (by kernel_rfl) rfl #[.string t146] rfl (by (try simp only [List.map_toArray, List.map_cons, List.map_nil]); first | done | rfl | (simp only [List.length_drop, List.length_take]; rfl)) ?_; (with_reducible refine (chapmanref02_numeral.calls k t146 true _ A12.out).mono ?_); rintro e w' ⟨rfl, ⟨nd, rfl⟩⟩; refine ⟨_, rfl, ?_⟩; have p16 : 0 ≤ (0 : Int) := (by omega); have q16 : 0 < t146.size := (by have : (0 : Int) < (t146.size : Int) := of_decide_eq_true (by first | (with_reducible assumption) | assumption); omega); have hx16 : ∀ h : 0 < t146.size, ((t146[0]'h).toNat : Int) = bt t146 0 := bt_at t146 0; clear p16; have qi16 : (0 < (t146.size : Int)) = True := eq_true (of_decide_eq_true (by first | (with_reducible assumption) | assumption)); replace q16 := eq_true q16))
              go_meet
              case rel => exact ⟨_, ((a0.toList == ([45, 48] : List UInt8))), (by first | rfl | (simp; done) | (simp [*]; done)), H', ⟨by first | omega | exact Nat.le_refl _⟩, ⟨by (with_reducible repeat (first | refine blk_drewN ?_ _ | refine blk_drew ?_ | refine blk_alloc ?_ _)); refine blk_far ?_ NB142_148.out _; (with_reducible repeat (first | refine blk_drewN ?_ _ | refine blk_drew ?_ | refine blk_alloc ?_ _)); refine blk_far ?_ NB142_148.out _; (with_reducible repeat (first | refine blk_drewN ?_ _ | refine blk_drew ?_ | refine blk_alloc ?_ _)); refine blk_far ?_ NB142_148.out _; (with_reducible repeat (first | refine blk_drewN ?_ _ | refine blk_drew ?_ | refine blk_alloc ?_ _)); refine blk_far ?_ NB142_148.out _; (with_reducible repeat (first | refine blk_drewN ?_ _ | refine blk_drew ?_ | refine blk_alloc ?_ _)); exact BK142.out⟩, ⟨by (with_reducible repeat (first | refine blk_drewN ?_ _ | refine blk_drew ?_ | refine blk_alloc ?_ _)); refine blk_put (cs := #[.bool t144, .bool t145, .string t146, .string (⟨#[]⟩ : ByteArray)]) ?_ 3 _ rfl; (with_reducible repeat (first | refine blk_drewN ?_ _ | refine blk_drew ?_ | refine blk_alloc ?_ _)); refine blk_put (cs := #[.bool t144, .bool t145, .string (⟨#[]⟩ : ByteArray), .string (⟨#[]⟩ : ByteArray)]) ?_ 2 _ rfl; (with_reducible repeat (first | refine blk_drewN ?_ _ | refine blk_drew ?_ | refine blk_alloc ?_ _)); refine blk_put (cs := #[.bool t144, .bool false, .string (⟨#[]⟩ : ByteArray), .string (⟨#[]⟩ : ByteArray)]) ?_ 1 _ rfl; (with_reducible repeat (first | refine blk_drewN ?_ _ | refine blk_drew ?_ | refine blk_alloc ?_ _)); refine blk_put (cs := #[.bool false, .bool false, .string (⟨#[]⟩ : ByteArray), .string (⟨#[]⟩ : ByteArray)]) ?_ 0 _ rfl; (with_reducible repeat (first | refine blk_drewN ?_ _ | refine blk_drew ?_ | refine blk_alloc ?_ _)); exact BK148.out⟩, ⟨by repeat (first | (with_reducible first | exact HB.out | apply below_alloc | apply pw_below_drewN | apply below_drew1 | refine below_set ?_ GE142.out | refine below_set ?_ GE148.out) | exact HB.out)⟩⟩
          · rw [if_neg c15] at H
            exact absurd H (by simp)
        · rw [if_neg c14] at H
          have c14b0 : decide (1 < (t146.size : Int)) = false := decide_eq_false c14
          have c14b1 : decide (1 < t146.size) = false := decide_eq_false (by omega)
          clear c14
          (first | rw [c14b0] | (simp only [i64_w, i32_w]; rw [c14b0]) | skip)
          have H' := Aside0.mk H
          clear H
          have hnb22 := NB148_142.out
          have hnc22 := NB142_148.out
          have hcz23_0 : w9.cell? ⟨gb148, 0, none⟩ = some (.bool false) := (blk_cell BK148.out 0).trans rfl
          have hcz23_1 : w9.cell? ⟨gb148, 1, none⟩ = some (.bool false) := (blk_cell BK148.out 1).trans rfl
          have hcz23_2 : w9.cell? ⟨gb148, 2, none⟩ = some (.string (⟨#[]⟩ : ByteArray)) := (blk_cell BK148.out 2).trans rfl
          have hcz23_3 : w9.cell? ⟨gb148, 3, none⟩ = some (.string (⟨#[]⟩ : ByteArray)) := (blk_cell BK148.out 3).trans rfl
          have hfz23_0 := blk_frozen BK148.out 0
          have hfz23_1 := blk_frozen BK148.out 1
          have hfz23_2 := blk_frozen BK148.out 2
          have hfz23_3 := blk_frozen BK148.out 3
          go_wp2_with (first | ((with_reducible refine gate_callee (f := 49) rfl ?_); refine goesL_ (some 17) rfl rfl Tryz.func49 (by kernel_rfl) rfl #[.string t146] rfl (by (try simp only [List.map_toArray, List.map_cons, List.map_nil]); first | done | rfl | (simp only [List.length_drop, List.length_take]; rfl)) ?_; (with_reducible refine (chapmanref02_numeral.calls k t146 true _ A12.out).mono ?_); rintro e w' ⟨rfl, ⟨nd, rfl⟩⟩; refine ⟨_, rfl, ?_⟩))
          go_meet
          case rel => exact ⟨_, ((a0.toList == ([45, 48] : List UInt8))), (by first | rfl | (simp; done) | (simp [*]; done)), H', ⟨by first | omega | exact Nat.le_refl _⟩, ⟨by (with_reducible repeat (first | refine blk_drewN ?_ _ | refine blk_drew ?_ | refine blk_alloc ?_ _)); refine blk_far ?_ NB142_148.out _; (with_reducible repeat (first | refine blk_drewN ?_ _ | refine blk_drew ?_ | refine blk_alloc ?_ _)); refine blk_far ?_ NB142_148.out _; (with_reducible repeat (first | refine blk_drewN ?_ _ | refine blk_drew ?_ | refine blk_alloc ?_ _)); refine blk_far ?_ NB142_148.out _; (with_reducible repeat (first | refine blk_drewN ?_ _ | refine blk_drew ?_ | refine blk_alloc ?_ _)); refine blk_far ?_ NB142_148.out _; (with_reducible repeat (first | refine blk_drewN ?_ _ | refine blk_drew ?_ | refine blk_alloc ?_ _)); exact BK142.out⟩, ⟨by (with_reducible repeat (first | refine blk_drewN ?_ _ | refine blk_drew ?_ | refine blk_alloc ?_ _)); refine blk_put (cs := #[.bool t144, .bool t145, .string t146, .string (⟨#[]⟩ : ByteArray)]) ?_ 3 _ rfl; (with_reducible repeat (first | refine blk_drewN ?_ _ | refine blk_drew ?_ | refine blk_alloc ?_ _)); refine blk_put (cs := #[.bool t144, .bool t145, .string (⟨#[]⟩ : ByteArray), .string (⟨#[]⟩ : ByteArray)]) ?_ 2 _ rfl; (with_reducible repeat (first | refine blk_drewN ?_ _ | refine blk_drew ?_ | refine blk_alloc ?_ _)); refine blk_put (cs := #[.bool t144, .bool false, .string (⟨#[]⟩ : ByteArray), .string (⟨#[]⟩ : ByteArray)]) ?_ 1 _ rfl; (with_reducible repeat (first | refine blk_drewN ?_ _ | refine blk_drew ?_ | refine blk_alloc ?_ _)); refine blk_put (cs := #[.bool false, .bool false, .string (⟨#[]⟩ : ByteArray), .string (⟨#[]⟩ : ByteArray)]) ?_ 0 _ rfl; (with_reducible repeat (first | refine blk_drewN ?_ _ | refine blk_drew ?_ | refine blk_alloc ?_ _)); exact BK148.out⟩, ⟨by repeat (first | (with_reducible first | exact HB.out | apply below_alloc | apply pw_below_drewN | apply below_drew1 | refine below_set ?_ GE142.out | refine below_set ?_ GE148.out) | exact HB.out)⟩⟩
      · replace c13 := Bool.eq_false_iff.mpr c13
        subst c13
        have H1 : (chapmanref02_ParseIn.j0 k a1 true t144 t145 t146 t147) = some (r1, r2) := by rw [if_neg (show ¬ (false = true) by decide)] at H; exact H
        clear H
        have H := H1
        clear H1
        have H' := Aside0.mk H
        clear H
        have hnb24 := NB148_142.out
        have hnc24 := NB142_148.out
        have hcz25_0 : w9.cell? ⟨gb148, 0, none⟩ = some (.bool false) := (blk_cell BK148.out 0).trans rfl
        have hcz25_1 : w9.cell? ⟨gb148, 1, none⟩ = some (.bool false) := (blk_cell BK148.out 1).trans rfl
        have hcz25_2 : w9.cell? ⟨gb148, 2, none⟩ = some (.string (⟨#[]⟩ : ByteArray)) := (blk_cell BK148.out 2).trans rfl
        have hcz25_3 : w9.cell? ⟨gb148, 3, none⟩ = some (.string (⟨#[]⟩ : ByteArray)) := (blk_cell BK148.out 3).trans rfl
        have hfz25_0 := blk_frozen BK148.out 0
        have hfz25_1 := blk_frozen BK148.out 1
        have hfz25_2 := blk_frozen BK148.out 2
        have hfz25_3 := blk_frozen BK148.out 3
        go_wp2_with (first | ((with_reducible refine gate_callee (f := 49) rfl ?_); refine goesL_ (some 17) rfl rfl Tryz.func49 (by kernel_rfl) rfl #[.string t146] rfl (by (try simp only [List.map_toArray, List.map_cons, List.map_nil]); first | done | rfl | (simp only [List.length_drop, List.length_take]; rfl)) ?_; (with_reducible refine (chapmanref02_numeral.calls k t146 false _ A12.out).mono ?_); rintro e w' ⟨rfl, ⟨nd, rfl⟩⟩; refine ⟨_, rfl, ?_⟩))
        go_meet
        case rel => exact ⟨_, (true), (by first | rfl | (simp; done) | (simp [*]; done)), H', ⟨by first | omega | exact Nat.le_refl _⟩, ⟨by (with_reducible repeat (first | refine blk_drewN ?_ _ | refine blk_drew ?_ | refine blk_alloc ?_ _)); refine blk_far ?_ NB142_148.out _; (with_reducible repeat (first | refine blk_drewN ?_ _ | refine blk_drew ?_ | refine blk_alloc ?_ _)); refine blk_far ?_ NB142_148.out _; (with_reducible repeat (first | refine blk_drewN ?_ _ | refine blk_drew ?_ | refine blk_alloc ?_ _)); refine blk_far ?_ NB142_148.out _; (with_reducible repeat (first | refine blk_drewN ?_ _ | refine blk_drew ?_ | refine blk_alloc ?_ _)); refine blk_far ?_ NB142_148.out _; (with_reducible repeat (first | refine blk_drewN ?_ _ | refine blk_drew ?_ | refine blk_alloc ?_ _)); exact BK142.out⟩, ⟨by (with_reducible repeat (first | refine blk_drewN ?_ _ | refine blk_drew ?_ | refine blk_alloc ?_ _)); refine blk_put (cs := #[.bool t144, .bool t145, .string t146, .string (⟨#[]⟩ : ByteArray)]) ?_ 3 _ rfl; (with_reducible repeat (first | refine blk_drewN ?_ _ | refine blk_drew ?_ | refine blk_alloc ?_ _)); refine blk_put (cs := #[.bool t144, .bool t145, .string (⟨#[]⟩ : ByteArray), .string (⟨#[]⟩ : ByteArray)]) ?_ 2 _ rfl; (with_reducible repeat (first | refine blk_drewN ?_ _ | refine blk_drew ?_ | refine blk_alloc ?_ _)); refine blk_put (cs := #[.bool t144, .bool false, .string (⟨#[]⟩ : ByteArray), .string (⟨#[]⟩ : ByteArray)]) ?_ 1 _ rfl; (with_reducible repeat (first | refine blk_drewN ?_ _ | refine blk_drew ?_ | refine blk_alloc ?_ _)); refine blk_put (cs := #[.bool false, .bool false, .string (⟨#[]⟩ : ByteArray), .string (⟨#[]⟩ : ByteArray)]) ?_ 0 _ rfl; (with_reducible repeat (first | refine blk_drewN ?_ _ | refine blk_drew ?_ | refine blk_alloc ?_ _)); exact BK148.out⟩, ⟨by repeat (first | (with_reducible first | exact HB.out | apply below_alloc | apply pw_below_drewN | apply below_drew1 | refine below_set ?_ GE142.out | refine below_set ?_ GE148.out) | exact HB.out)⟩⟩
    case rest =>
      clear HC6
      try clear c1
      try clear p1
      try clear q1
      try clear hx1
      try clear qi1
      try clear c2
      try clear p2
      try clear c4
      try clear c10
      try clear c13
      try clear c14
      try clear c14b0
      try clear c14b1
      try clear c15
      try clear c15b0
      try clear c15b1
      try clear p16
      try clear q16
      try clear hx16
      try clear qi16
      try clear c17
      try clear c17b0
      try clear c17b1
      try clear c18
      try clear c20
      try clear c22
      try clear c24
      try clear c25
      try clear hcz11_0
      try clear hcz11_1
      try clear hcz11_2
      try clear hcz11_3
      try clear hcz19_0
      try clear hcz19_1
      try clear hcz19_2
      try clear hcz19_3
      try clear hcz21_0
      try clear hcz21_1
      try clear hcz21_2
      try clear hcz21_3
      try clear hcz23_0
      try clear hcz23_1
      try clear hcz23_2
      try clear hcz23_3
      try clear hcz25_0
      try clear hcz25_1
      try clear hcz25_2
      try clear hcz25_3
      try clear hfz11_0
      try clear hfz11_1
      try clear hfz11_2
      try clear hfz11_3
      try clear hfz19_0
      try clear hfz19_1
      try clear hfz19_2
      try clear hfz19_3
      try clear hfz21_0
      try clear hfz21_1
      try clear hfz21_2
      try clear hfz21_3
      try clear hfz23_0
      try clear hfz23_1
      try clear hfz23_2
      try clear hfz23_3
      try clear hfz25_0
      try clear hfz25_1
      try clear hfz25_2
      try clear hfz25_3
      try clear p16
      try clear q16
      obtain ⟨kq, x34_5, rfl, HA, HJ5, BK142, BK148, HB⟩ := hcut
      cases kq with
      | zero => exact absurd HA.out (by simp [chapmanref02_ParseIn.j0])
      | succ kj5 =>
        have H := HA.out
        clear HA
        simp only [chapmanref02_ParseIn.j0] at H
        by_cases c26 : x34_5 = true
        · subst c26
          have H1 : (some (0, 5)) = some (r1, r2) := by rw [if_pos rfl] at H; exact H
          clear H
          have H := H1
          clear H1
          simp only [Option.some.injEq, Prod.mk.injEq] at H
          obtain ⟨rfl, rfl⟩ := H
          have hnb27 := NB142_148.out
          have hnc27 := NB148_142.out
          have hcz28_0 : wc.cell? ⟨gb142, 0, none⟩ = some (.int .i64 0) := (blk_cell BK142.out 0).trans rfl
          have hcz28_1 : wc.cell? ⟨gb142, 1, none⟩ = some (.int .i64 0) := (blk_cell BK142.out 1).trans rfl
          have hfz28_0 := blk_frozen BK142.out 0
          have hfz28_1 := blk_frozen BK142.out 1
          go_wp2
          refine bodyPost_ret (results_cell_row rfl _ _ gb142 30 #[.int .i64 0, .int .i64 5] (0, 0) _ rfl (by (with_reducible repeat (first | refine blk_drewN ?_ _ | refine blk_drew ?_ | refine blk_alloc ?_ _)); refine blk_put (cs := #[.int .i64 0, .int .i64 0]) ?_ 1 _ rfl; (with_reducible repeat (first | refine blk_drewN ?_ _ | refine blk_drew ?_ | refine blk_alloc ?_ _)); refine blk_put (cs := #[.int .i64 0, .int .i64 0]) ?_ 0 _ rfl; (with_reducible repeat (first | refine blk_drewN ?_ _ | refine blk_drew ?_ | refine blk_alloc ?_ _)); exact BK142.out) Tryz.underlying30 rfl (by kernel_rfl)) rfl ?_
          exact ⟨by first | rfl | (simp [errW_none, errW_some] <;> rfl) | (simp [*, errW_none, errW_some] <;> rfl), by repeat (first | (with_reducible first | exact HB.out | apply below_alloc | apply pw_below_drewN | apply below_drew1 | refine below_set ?_ GE142.out | refine below_set ?_ GE148.out) | exact HB.out)⟩
        · replace c26 := Bool.eq_false_iff.mpr c26
          subst c26
          have H1 : (if t145 = true then ((chapmanref02_numeral.f kj5 t147).bind fun t150 => (if t150 = true then (if (t147.size : Int) > a1 then (chapmanref02_ParseIn.j1 kj5 true t144 t145 t146 t147) else (if 0 ≤ (wrap64 ((t147.size : Int) - 1)) then (if (wrap64 ((t147.size : Int) - 1)) < (t147.size : Int) then (chapmanref02_ParseIn.j1 kj5 ((bt t147 (wrap64 ((t147.size : Int) - 1))) == 48) t144 t145 t146 t147) else (none)) else (none))) else (chapmanref02_ParseIn.j1 kj5 true t144 t145 t146 t147))) else (chapmanref02_ParseIn.j1 kj5 false t144 t145 t146 t147)) = some (r1, r2) := by rw [if_neg (show ¬ (false = true) by decide)] at H; exact H
          clear H
          have H := H1
          clear H1
          have HC29 := Aside0.mk H
          clear H
          go_upto_region 6 with (fail)
          go_cut [60] (fun v60 wc => ∃ (kq : Nat) (x60_28 : Bool), v60 = .bool x60_28 ∧ Aside0 (chapmanref02_ParseIn.j1 kq x60_28 t144 t145 t146 t147 = some (r1, r2)) ∧ Aside0 (kq ≤ kj5) ∧ Aside0 (wc.heap[gb142]? = some (.cells #[.int .i64 0, .int .i64 0] 30 (0, 0))) ∧ Aside0 (wc.heap[gb148]? = some (.cells #[.bool t144, .bool t145, .string t146, .string t147] 55 (0, 0))) ∧ Aside0 (Below w.heap.size w wc))
          case first =>
            have H := HC29.out
            clear HC29
            by_cases c30 : t145 = true
            · subst c30
              have H1 : ((chapmanref02_numeral.f kj5 t147).bind fun t150 => (if t150 = true then (if (t147.size : Int) > a1 then (chapmanref02_ParseIn.j1 kj5 true t144 true t146 t147) else (if 0 ≤ (wrap64 ((t147.size : Int) - 1)) then (if (wrap64 ((t147.size : Int) - 1)) < (t147.size : Int) then (chapmanref02_ParseIn.j1 kj5 ((bt t147 (wrap64 ((t147.size : Int) - 1))) == 48) t144 true t146 t147) else (none)) else (none))) else (chapmanref02_ParseIn.j1 kj5 true t144 true t146 t147))) = some (r1, r2) := by rw [if_pos rfl] at H; exact H
              clear H
              have H := H1
              clear H1
              replace H := Option.bind_eq_some_iff.mp H
              obtain ⟨t150, A310, H⟩ := H
              replace H : (if t150 = true then (if (t147.size : Int) > a1 then (chapmanref02_ParseIn.j1 kj5 true t144 true t146 t147) else (if 0 ≤ (wrap64 ((t147.size : Int) - 1)) then (if (wrap64 ((t147.size : Int) - 1)) < (t147.size : Int) then (chapmanref02_ParseIn.j1 kj5 ((bt t147 (wrap64 ((t147.size : Int) - 1))) == 48) t144 true t146 t147) else (none)) else (none))) else (chapmanref02_ParseIn.j1 kj5 true t144 true t146 t147)) = some (r1, r2) := H
              have A31 := Aside0.mk A310
              clear A310
              by_cases c32 : t150 = true
              · subst c32
                have H1 : (if (t147.size : Int) > a1 then (chapmanref02_ParseIn.j1 kj5 true t144 true t146 t147) else (if 0 ≤ (wrap64 ((t147.size : Int) - 1)) then (if (wrap64 ((t147.size : Int) - 1)) < (t147.size : Int) then (chapmanref02_ParseIn.j1 kj5 ((bt t147 (wrap64 ((t147.size : Int) - 1))) == 48) t144 true t146 t147) else (none)) else (none))) = some (r1, r2) := by rw [if_pos rfl] at H; exact H
                clear H
                have H := H1
                clear H1
                by_cases c33 : (t147.size : Int) > a1
                · rw [if_pos c33] at H
                  have c33b0 : decide (a1 < (t147.size : Int)) = true := decide_eq_true c33
                  clear c33
                  (first | rw [c33b0] | (simp only [i64_w, i32_w]; rw [c33b0]) | skip)
                  have H' := Aside0.mk H
                  clear H
                  have hnb34 := NB148_142.out
                  have hnc34 := NB142_148.out
                  have hcz35_0 : wc.cell? ⟨gb148, 0, none⟩ = some (.bool t144) := (blk_cell BK148.out 0).trans rfl
                  have hcz35_1 : wc.cell? ⟨gb148, 1, none⟩ = some (.bool true) := (blk_cell BK148.out 1).trans rfl
                  have hcz35_2 : wc.cell? ⟨gb148, 2, none⟩ = some (.string t146) := (blk_cell BK148.out 2).trans rfl
                  have hcz35_3 : wc.cell? ⟨gb148, 3, none⟩ = some (.string t147) := (blk_cell BK148.out 3).trans rfl
                  have hfz35_0 := blk_frozen BK148.out 0
                  have hfz35_1 := blk_frozen BK148.out 1
                  have hfz35_2 := blk_frozen BK148.out 2
                  have hfz35_3 := blk_frozen BK148.out 3
                  go_wp2_with (first | (go_at_call 49; (with_reducible refine (chapmanref02_numeral.calls kj5 t147 true _ A31.out).mono ?_); rintro e w' ⟨rfl, ⟨nd, rfl⟩⟩))
                  go_meet
                  case rel => exact ⟨_, (true), (by first | rfl | (simp; done) | (simp [*]; done)), H', ⟨by have := HJ5.out; first | omega | exact Nat.le_refl _⟩, ⟨by (with_reducible repeat (first | refine blk_drewN ?_ _ | refine blk_drew ?_ | refine blk_alloc ?_ _)); exact BK142.out⟩, ⟨by (with_reducible repeat (first | refine blk_drewN ?_ _ | refine blk_drew ?_ | refine blk_alloc ?_ _)); exact BK148.out⟩, ⟨by repeat (first | (with_reducible first | exact HB.out | apply below_alloc | apply pw_below_drewN | apply below_drew1 | refine below_set ?_ GE142.out | refine below_set ?_ GE148.out) | exact HB.out)⟩⟩
                · rw [if_neg c33] at H
                  have c33b0 : decide (a1 < (t147.size : Int)) = false := decide_eq_false c33
                  clear c33
                  (first | rw [c33b0] | (simp only [i64_w, i32_w]; rw [c33b0]) | skip)
                  obtain ⟨ji36, hji36⟩ : ∃ j_ : Int, (wrap64 ((t147.size : Int) - 1)) = j_ := ⟨_, rfl⟩
                  replace H : (if 0 ≤ (ji36) then (if (ji36) < (t147.size : Int) then (chapmanref02_ParseIn.j1 kj5 ((bt t147 (ji36)) == 48) t144 true t146 t147) else (none)) else (none)) = some (r1, r2) := by first | (rw [hji36] at H; exact H) | (simp only [hji36] at H ⊢; exact H)
                  (try rw [hji36] at A31)
                  have hji36w : (IntKind.i64.wrap ((t147.size : Int) - 1)) = ji36 := (i64_w _).trans hji36
                  by_cases c37 : 0 ≤ (ji36)
                  · rw [if_pos c37] at H
                    have c37b0 : decide (0 ≤ (ji36)) = true := decide_eq_true c37
                    clear c37
                    by_cases c38 : (ji36) < (t147.size : Int)
                    · rw [if_pos c38] at H
                      have c38b0 : decide ((ji36) < (t147.size : Int)) = true := decide_eq_true c38
                      clear c38
                      have H' := Aside0.mk H
                      clear H
                      have hnb40 := NB148_142.out
                      have hnc40 := NB142_148.out
                      have hcz41_0 : wc.cell? ⟨gb148, 0, none⟩ = some (.bool t144) := (blk_cell BK148.out 0).trans rfl
                      have hcz41_1 : wc.cell? ⟨gb148, 1, none⟩ = some (.bool true) := (blk_cell BK148.out 1).trans rfl
                      have hcz41_2 : wc.cell? ⟨gb148, 2, none⟩ = some (.string t146) := (blk_cell BK148.out 2).trans rfl
                      have hcz41_3 : wc.cell? ⟨gb148, 3, none⟩ = some (.string t147) := (blk_cell BK148.out 3).trans rfl
                      have hfz41_0 := blk_frozen BK148.out 0
                      have hfz41_1 := blk_frozen BK148.out 1
                      have hfz41_2 := blk_frozen BK148.out 2
                      have hfz41_3 := blk_frozen BK148.out 3
                      go_wp2_with (first | (go_at_call 49; (with_reducible refine (chapmanref02_numeral.calls kj5 t147 true _ A31.out).mono ?_); rintro e w' ⟨rfl, ⟨nd, rfl⟩⟩; have p39 : 0 ≤ ((ji36) : Int) := of_decide_eq_true (by first | (with_reducible assumption) | assumption); have q39 : (ji36) < (t147.size : Int) := of_decide_eq_true (by first | (with_reducible assumption) | assumption); have hx39 := bt_at t147 (ji36); replace p39 := eq_true p39; replace q39 := eq_true q39))
                      go_meet
                      case rel => exact ⟨_, (((bt t147 (ji36)) == 48)), (by first | rfl | (simp; done) | (simp only [← hji36] <;> (first | rfl | simp)) | (simp [*]; done)), H', ⟨by have := HJ5.out; first | omega | exact Nat.le_refl _⟩, ⟨by (with_reducible repeat (first | refine blk_drewN ?_ _ | refine blk_drew ?_ | refine blk_alloc ?_ _)); exact BK142.out⟩, ⟨by (with_reducible repeat (first | refine blk_drewN ?_ _ | refine blk_drew ?_ | refine blk_alloc ?_ _)); exact BK148.out⟩, ⟨by repeat (first | (with_reducible first | exact HB.out | apply below_alloc | apply pw_below_drewN | apply below_drew1 | refine below_set ?_ GE142.out | refine below_set ?_ GE148.out) | exact HB.out)⟩⟩
                    · rw [if_neg c38] at H
                      exact absurd H (by simp)
                  · rw [if_neg c37] at H
                    exact absurd H (by simp)
              · replace c32 := Bool.eq_false_iff.mpr c32
                subst c32
                have H1 : (chapmanref02_ParseIn.j1 kj5 true t144 true t146 t147) = some (r1, r2) := by rw [if_neg (show ¬ (false = true) by decide)] at H; exact H
                clear H
                have H := H1
                clear H1
                have H' := Aside0.mk H
                clear H
                have hnb42 := NB148_142.out
                have hnc42 := NB142_148.out
                have hcz43_0 : wc.cell? ⟨gb148, 0, none⟩ = some (.bool t144) := (blk_cell BK148.out 0).trans rfl
                have hcz43_1 : wc.cell? ⟨gb148, 1, none⟩ = some (.bool true) := (blk_cell BK148.out 1).trans rfl
                have hcz43_2 : wc.cell? ⟨gb148, 2, none⟩ = some (.string t146) := (blk_cell BK148.out 2).trans rfl
                have hcz43_3 : wc.cell? ⟨gb148, 3, none⟩ = some (.string t147) := (blk_cell BK148.out 3).trans rfl
                have hfz43_0 := blk_frozen BK148.out 0
                have hfz43_1 := blk_frozen BK148.out 1
                have hfz43_2 := blk_frozen BK148.out 2
                have hfz43_3 := blk_frozen BK148.out 3
                go_wp2_with (first | (go_at_call 49; (with_reducible refine (chapmanref02_numeral.calls kj5 t147 false _ A31.out).mono ?_); rintro e w' ⟨rfl, ⟨nd, rfl⟩⟩))
                go_meet
                case rel => exact ⟨_, (true), (by first | rfl | (simp; done) | (simp [*]; done)), H', ⟨by have := HJ5.out; first | omega | exact Nat.le_refl _⟩, ⟨by (with_reducible repeat (first | refine blk_drewN ?_ _ | refine blk_drew ?_ | refine blk_alloc ?_ _)); exact BK142.out⟩, ⟨by (with_reducible repeat (first | refine blk_drewN ?_ _ | refine blk_drew ?_ | refine blk_alloc ?_ _)); exact BK148.out⟩, ⟨by repeat (first | (with_reducible first | exact HB.out | apply below_alloc | apply pw_below_drewN | apply below_drew1 | refine below_set ?_ GE142.out | refine below_set ?_ GE148.out) | exact HB.out)⟩⟩
            · replace c30 := Bool.eq_false_iff.mpr c30
              subst c30
              have H1 : (chapmanref02_ParseIn.j1 kj5 false t144 false t146 t147) = some (r1, r2) := by rw [if_neg (show ¬ (false = true) by decide)] at H; exact H
              clear H
              have H := H1
              clear H1
              have H' := Aside0.mk H
              clear H
              have hnb44 := NB148_142.out
              have hnc44 := NB142_148.out
              have hcz45_0 : wc.cell? ⟨gb148, 0, none⟩ = some (.bool t144) := (blk_cell BK148.out 0).trans rfl
              have hcz45_1 : wc.cell? ⟨gb148, 1, none⟩ = some (.bool false) := (blk_cell BK148.out 1).trans rfl
              have hcz45_2 : wc.cell? ⟨gb148, 2, none⟩ = some (.string t146) := (blk_cell BK148.out 2).trans rfl
              have hcz45_3 : wc.cell? ⟨gb148, 3, none⟩ = some (.string t147) := (blk_cell BK148.out 3).trans rfl
              have hfz45_0 := blk_frozen BK148.out 0
              have hfz45_1 := blk_frozen BK148.out 1
              have hfz45_2 := blk_frozen BK148.out 2
              have hfz45_3 := blk_frozen BK148.out 3
              go_wp2
              go_meet
              case rel => exact ⟨_, (false), (by first | rfl | (simp; done) | (simp [*]; done)), H', ⟨by have := HJ5.out; first | omega | exact Nat.le_refl _⟩, ⟨by (with_reducible repeat (first | refine blk_drewN ?_ _ | refine blk_drew ?_ | refine blk_alloc ?_ _)); exact BK142.out⟩, ⟨by (with_reducible repeat (first | refine blk_drewN ?_ _ | refine blk_drew ?_ | refine blk_alloc ?_ _)); exact BK148.out⟩, ⟨by repeat (first | (with_reducible first | exact HB.out | apply below_alloc | apply pw_below_drewN | apply below_drew1 | refine below_set ?_ GE142.out | refine below_set ?_ GE148.out) | exact HB.out)⟩⟩
          case rest =>
            clear HC29
            try clear c1
            try clear p1
            try clear q1
            try clear hx1
            try clear qi1
            try clear c2
            try clear p2
            try clear c3
            try clear p3
            try clear q3
            try clear hx3
            try clear c4
            try clear p6
            try clear c10
            try clear c13
            try clear c14
            try clear c14b0
            try clear c14b1
            try clear c15
            try clear c15b0
            try clear c15b1
            try clear p16
            try clear q16
            try clear hx16
            try clear qi16
            try clear c17
            try clear c17b0
            try clear c17b1
            try clear c18
            try clear c20
            try clear c22
            try clear c24
            try clear c25
            try clear c26
            try clear c27
            try clear c30
            try clear c32
            try clear c33
            try clear c33b0
            try clear c34
            try clear c37
            try clear c37b0
            try clear c38
            try clear c38b0
            try clear p39
            try clear q39
            try clear hx39
            try clear c40
            try clear c42
            try clear c44
            try clear hcz11_0
            try clear hcz11_1
            try clear hcz11_2
            try clear hcz11_3
            try clear hcz19_0
            try clear hcz19_1
            try clear hcz19_2
            try clear hcz19_3
            try clear hcz21_0
            try clear hcz21_1
            try clear hcz21_2
            try clear hcz21_3
            try clear hcz23_0
            try clear hcz23_1
            try clear hcz23_2
            try clear hcz23_3
            try clear hcz25_0
            try clear hcz25_1
            try clear hcz25_2
            try clear hcz25_3
            try clear hcz28_0
            try clear hcz28_1
            try clear hcz35_0
            try clear hcz35_1
            try clear hcz35_2
            try clear hcz35_3
            try clear hcz41_0
            try clear hcz41_1
            try clear hcz41_2
            try clear hcz41_3
            try clear hcz43_0
            try clear hcz43_1
            try clear hcz43_2
            try clear hcz43_3
            try clear hcz45_0
            try clear hcz45_1
            try clear hcz45_2
            try clear hcz45_3
            try clear hfz11_0
            try clear hfz11_1
            try clear hfz11_2
            try clear hfz11_3
            try clear hfz19_0
            try clear hfz19_1
            try clear hfz19_2
            try clear hfz19_3
            try clear hfz21_0
            try clear hfz21_1
            try clear hfz21_2
            try clear hfz21_3
            try clear hfz23_0
            try clear hfz23_1
            try clear hfz23_2
            try clear hfz23_3
            try clear hfz25_0
            try clear hfz25_1
            try clear hfz25_2
            try clear hfz25_3
            try clear hfz28_0
            try clear hfz28_1
            try clear hfz35_0
            try clear hfz35_1
            try clear hfz35_2
            try clear hfz35_3
            try clear hfz41_0
            try clear hfz41_1
            try clear hfz41_2
            try clear hfz41_3
            try clear hfz43_0
            try clear hfz43_1
            try clear hfz43_2
            try clear hfz43_3
            try clear hfz45_0
            try clear hfz45_1
            try clear hfz45_2
            try clear hfz45_3
            try clear p1
            try clear p16
            try clear p2
            try clear p39
            try clear q1
            try clear q16
            try clear q39
            obtain ⟨kq, x60_28, rfl, HA, HJ28, BK142, BK148, HB⟩ := hcut
            cases kq with
            | zero => exact absurd HA.out (by simp [chapmanref02_ParseIn.j1])
            | succ kj28 =>
              have H := HA.out
              clear HA
              simp only [chapmanref02_ParseIn.j1] at H
              by_cases c46 : x60_28 = true
              · subst c46
                have H1 : (some (0, 5)) = some (r1, r2) := by rw [if_pos rfl] at H; exact H
                clear H
                have H := H1
                clear H1
                simp only [Option.some.injEq, Prod.mk.injEq] at H
                obtain ⟨rfl, rfl⟩ := H
                have hnb47 := NB142_148.out
                have hnc47 := NB148_142.out
                have hcz48_0 : wc.cell? ⟨gb142, 0, none⟩ = some (.int .i64 0) := (blk_cell BK142.out 0).trans rfl
                have hcz48_1 : wc.cell? ⟨gb142, 1, none⟩ = some (.int .i64 0) := (blk_cell BK142.out 1).trans rfl
                have hfz48_0 := blk_frozen BK142.out 0
                have hfz48_1 := blk_frozen BK142.out 1
                go_wp2
                refine bodyPost_ret (results_cell_row rfl _ _ gb142 30 #[.int .i64 0, .int .i64 5] (0, 0) _ rfl (by (with_reducible repeat (first | refine blk_drewN ?_ _ | refine blk_drew ?_ | refine blk_alloc ?_ _)); refine blk_put (cs := #[.int .i64 0, .int .i64 0]) ?_ 1 _ rfl; (with_reducible repeat (first | refine blk_drewN ?_ _ | refine blk_drew ?_ | refine blk_alloc ?_ _)); refine blk_put (cs := #[.int .i64 0, .int .i64 0]) ?_ 0 _ rfl; (with_reducible repeat (first | refine blk_drewN ?_ _ | refine blk_drew ?_ | refine blk_alloc ?_ _)); exact BK142.out) Tryz.underlying30 rfl (by kernel_rfl)) rfl ?_
                exact ⟨by first | rfl | (simp [errW_none, errW_some] <;> rfl) | (simp [*, errW_none, errW_some] <;> rfl), by repeat (first | (with_reducible first | exact HB.out | apply below_alloc | apply pw_below_drewN | apply below_drew1 | refine below_set ?_ GE142.out | refine below_set ?_ GE148.out) | exact HB.out)⟩
              · replace c46 := Bool.eq_false_iff.mpr c46
                subst c46
                have H1 : (if (t146.size : Int) > 10 then (some (0, 2)) else (if t146.size + t147.size ≤ 9223372036854775807 then (chapmanref02_ParseIn.l0 kj28 0 (t146 ++ t147) 0 t144 t145 t146 t147) else (none))) = some (r1, r2) := by rw [if_neg (show ¬ (false = true) by decide)] at H; exact H
                clear H
                have H := H1
                clear H1
                by_cases c49 : (t146.size : Int) > 10
                · rw [if_pos c49] at H
                  have c49b0 : decide (10 < (t146.size : Int)) = true := decide_eq_true c49
                  have c49b1 : decide (10 < t146.size) = true := decide_eq_true (by omega)
                  clear c49
                  simp only [Option.some.injEq, Prod.mk.injEq] at H
                  obtain ⟨rfl, rfl⟩ := H
                  have hnb50 := NB148_142.out
                  have hnc50 := NB142_148.out
                  have hcz51_0 : wc.cell? ⟨gb148, 0, none⟩ = some (.bool t144) := (blk_cell BK148.out 0).trans rfl
                  have hcz51_1 : wc.cell? ⟨gb148, 1, none⟩ = some (.bool t145) := (blk_cell BK148.out 1).trans rfl
                  have hcz51_2 : wc.cell? ⟨gb148, 2, none⟩ = some (.string t146) := (blk_cell BK148.out 2).trans rfl
                  have hcz51_3 : wc.cell? ⟨gb148, 3, none⟩ = some (.string t147) := (blk_cell BK148.out 3).trans rfl
                  have hfz51_0 := blk_frozen BK148.out 0
                  have hfz51_1 := blk_frozen BK148.out 1
                  have hfz51_2 := blk_frozen BK148.out 2
                  have hfz51_3 := blk_frozen BK148.out 3
                  have hcz52_0 : wc.cell? ⟨gb142, 0, none⟩ = some (.int .i64 0) := (blk_cell BK142.out 0).trans rfl
                  have hcz52_1 : wc.cell? ⟨gb142, 1, none⟩ = some (.int .i64 0) := (blk_cell BK142.out 1).trans rfl
                  have hfz52_0 := blk_frozen BK142.out 0
                  have hfz52_1 := blk_frozen BK142.out 1
                  go_wp2
                  refine bodyPost_ret (results_cell_row rfl _ _ gb142 30 #[.int .i64 0, .int .i64 2] (0, 0) _ rfl (by (with_reducible repeat (first | refine blk_drewN ?_ _ | refine blk_drew ?_ | refine blk_alloc ?_ _)); refine blk_put (cs := #[.int .i64 0, .int .i64 0]) ?_ 1 _ rfl; (with_reducible repeat (first | refine blk_drewN ?_ _ | refine blk_drew ?_ | refine blk_alloc ?_ _)); refine blk_put (cs := #[.int .i64 0, .int .i64 0]) ?_ 0 _ rfl; (with_reducible repeat (first | refine blk_drewN ?_ _ | refine blk_drew ?_ | refine blk_alloc ?_ _)); exact BK142.out) Tryz.underlying30 rfl (by kernel_rfl)) rfl ?_
                  exact ⟨by first | rfl | (simp [errW_none, errW_some] <;> rfl) | (simp [*, errW_none, errW_some] <;> rfl), by repeat (first | (with_reducible first | exact HB.out | apply below_alloc | apply pw_below_drewN | apply below_drew1 | refine below_set ?_ GE142.out | refine below_set ?_ GE148.out) | exact HB.out)⟩
                · rw [if_neg c49] at H
                  have c49b0 : decide (10 < (t146.size : Int)) = false := decide_eq_false c49
                  have c49b1 : decide (10 < t146.size) = false := decide_eq_false (by omega)
                  clear c49
                  by_cases c53 : t146.size + t147.size ≤ 9223372036854775807
                  · rw [if_pos c53] at H
                    have c53b0 := eq_true c53
                    have c53b1 : decide (t146.size + t147.size ≤ 9223372036854775807) = true := decide_eq_true c53
                    try have c53b2 : (9223372036854775807 < t146.size + t147.size) = False := eq_false (Nat.not_lt.2 c53)
                    have H' := Aside0.mk H
                    clear H
                    have hnb54 := NB148_142.out
                    have hnc54 := NB142_148.out
                    have hcz55_0 : wc.cell? ⟨gb148, 0, none⟩ = some (.bool t144) := (blk_cell BK148.out 0).trans rfl
                    have hcz55_1 : wc.cell? ⟨gb148, 1, none⟩ = some (.bool t145) := (blk_cell BK148.out 1).trans rfl
                    have hcz55_2 : wc.cell? ⟨gb148, 2, none⟩ = some (.string t146) := (blk_cell BK148.out 2).trans rfl
                    have hcz55_3 : wc.cell? ⟨gb148, 3, none⟩ = some (.string t147) := (blk_cell BK148.out 3).trans rfl
                    have hfz55_0 := blk_frozen BK148.out 0
                    have hfz55_1 := blk_frozen BK148.out 1
                    have hfz55_2 := blk_frozen BK148.out 2
                    have hfz55_3 := blk_frozen BK148.out 3
                    go_wp2
                    generalize t146 ++ t147 = s7 at *
                    go_loopg [6, 8] kj28 (fun kq v6 v8 w' => ∃ (x6_3 : Int) (x8_3 : Int), v6 = .int .i64 x6_3 ∧ v8 = .int .i64 x8_3 ∧ Aside0 (chapmanref02_ParseIn.l0 kq x6_3 s7 x8_3 t144 t145 t146 t147 = some (r1, r2)) ∧ Aside0 (kq ≤ kj28) ∧ Aside0 (w'.heap[gb142]? = some (.cells #[.int .i64 0, .int .i64 0] 30 (0, 0))) ∧ Aside0 (w'.heap[gb148]? = some (.cells #[.bool t144, .bool t145, .string t146, .string t147] 55 (0, 0))) ∧ Aside0 (Below w.heap.size w w'))
                    case atStart => exact ⟨(0), (0), (by first | rfl | (simp; done) | (simp [*]; done)), (by first | rfl | (simp; done) | (simp [*]; done)), H', ⟨Nat.le_refl _⟩, ⟨by (with_reducible repeat (first | refine blk_drewN ?_ _ | refine blk_drew ?_ | refine blk_alloc ?_ _)); exact BK142.out⟩, ⟨by (with_reducible repeat (first | refine blk_drewN ?_ _ | refine blk_drew ?_ | refine blk_alloc ?_ _)); exact BK148.out⟩, ⟨by repeat (first | (with_reducible first | exact HB.out | apply below_alloc | apply pw_below_drewN | apply below_drew1 | refine below_set ?_ GE142.out | refine below_set ?_ GE148.out) | exact HB.out)⟩⟩
                    case round =>
                      clear H'
                      try clear c1
                      try clear p1
                      try clear q1
                      try clear hx1
                      try clear qi1
                      try clear c2
                      try clear p2
                      try clear c3
                      try clear p3
                      try clear q3
                      try clear hx3
                      try clear c4
                      try clear c5
                      try clear p6
                      try clear c10
                      try clear c13
                      try clear c14
                      try clear c14b0
                      try clear c14b1
                      try clear c15
                      try clear c15b0
                      try clear c15b1
                      try clear p16
                      try clear q16
                      try clear hx16
                      try clear qi16
                      try clear c17
                      try clear c17b0
                      try clear c17b1
                      try clear c18
                      try clear c20
                      try clear c22
                      try clear c24
                      try clear c25
                      try clear c26
                      try clear c27
                      try clear c30
                      try clear c32
                      try clear c33
                      try clear c33b0
                      try clear c34
                      try clear c37
                      try clear c37b0
                      try clear c38
                      try clear c38b0
                      try clear p39
                      try clear q39
                      try clear hx39
                      try clear c40
                      try clear c42
                      try clear c44
                      try clear c46
                      try clear c47
                      try clear c48
                      try clear c49
                      try clear c49b0
                      try clear c49b1
                      try clear c50
                      try clear c53
                      try clear c53b0
                      try clear c53b1
                      try clear c53b2
                      try clear c54
                      try clear hcz11_0
                      try clear hcz11_1
                      try clear hcz11_2
                      try clear hcz11_3
                      try clear hcz19_0
                      try clear hcz19_1
                      try clear hcz19_2
                      try clear hcz19_3
                      try clear hcz21_0
                      try clear hcz21_1
                      try clear hcz21_2
                      try clear hcz21_3
                      try clear hcz23_0
                      try clear hcz23_1
                      try clear hcz23_2
                      try clear hcz23_3
                      try clear hcz25_0
                      try clear hcz25_1
                      try clear hcz25_2
                      try clear hcz25_3
                      try clear hcz28_0
                      try clear hcz28_1
                      try clear hcz35_0
                      try clear hcz35_1
                      try clear hcz35_2
                      try clear hcz35_3
                      try clear hcz41_0
                      try clear hcz41_1
                      try clear hcz41_2
                      try clear hcz41_3
                      try clear hcz43_0
                      try clear hcz43_1
                      try clear hcz43_2
                      try clear hcz43_3
                      try clear hcz45_0
                      try clear hcz45_1
                      try clear hcz45_2
                      try clear hcz45_3
                      try clear hcz48_0
                      try clear hcz48_1
                      try clear hcz51_0
                      try clear hcz51_1
                      try clear hcz51_2
                      try clear hcz51_3
                      try clear hcz52_0
                      try clear hcz52_1
                      try clear hcz55_0
                      try clear hcz55_1
                      try clear hcz55_2
                      try clear hcz55_3
                      try clear hfz11_0
                      try clear hfz11_1
                      try clear hfz11_2
                      try clear hfz11_3
                      try clear hfz19_0
                      try clear hfz19_1
                      try clear hfz19_2
                      try clear hfz19_3
                      try clear hfz21_0
                      try clear hfz21_1
                      try clear hfz21_2
                      try clear hfz21_3
                      try clear hfz23_0
                      try clear hfz23_1
                      try clear hfz23_2
                      try clear hfz23_3
                      try clear hfz25_0
                      try clear hfz25_1
                      try clear hfz25_2
                      try clear hfz25_3
                      try clear hfz28_0
                      try clear hfz28_1
                      try clear hfz35_0
                      try clear hfz35_1
                      try clear hfz35_2
                      try clear hfz35_3
                      try clear hfz41_0
                      try clear hfz41_1
                      try clear hfz41_2
                      try clear hfz41_3
                      try clear hfz43_0
                      try clear hfz43_1
                      try clear hfz43_2
                      try clear hfz43_3
                      try clear hfz45_0
                      try clear hfz45_1
                      try clear hfz45_2
                      try clear hfz45_3
                      try clear hfz48_0
                      try clear hfz48_1
                      try clear hfz51_0
                      try clear hfz51_1
                      try clear hfz51_2
                      try clear hfz51_3
                      try clear hfz52_0
                      try clear hfz52_1
                      try clear hfz55_0
                      try clear hfz55_1
                      try clear hfz55_2
                      try clear hfz55_3
                      try clear p1
                      try clear p16
                      try clear p2
                      try clear p3
                      try clear p39
                      try clear p6
                      try clear q1
                      try clear q16
                      try clear q3
                      try clear q39
                      obtain ⟨x6_3, x8_3, rfl, rfl, HA, HK3, BK142, BK148, HB⟩ := hrel
                      cases gk with
                      | zero => exact absurd HA.out (by simp [chapmanref02_ParseIn.l0])
                      | succ k3 =>
                        have H := HA.out
                        clear HA
                        simp only [chapmanref02_ParseIn.l0] at H
                        by_cases c56 : x8_3 < (s7.size : Int)
                        · rw [if_pos c56] at H
                          have c56b0 : decide (x8_3 < (s7.size : Int)) = true := decide_eq_true c56
                          clear c56
                          by_cases c57 : 0 ≤ x8_3
                          · rw [if_pos c57] at H
                            have c57b0 : decide (0 ≤ x8_3) = true := decide_eq_true c57
                            clear c57
                            have H' := Aside0.mk H
                            clear H
                            have p58 : 0 ≤ (x8_3 : Int) := of_decide_eq_true (by first | (with_reducible assumption) | assumption)
                            have q58 : x8_3 < (s7.size : Int) := of_decide_eq_true (by first | (with_reducible assumption) | assumption)
                            have hx58 := bt_at s7 x8_3
                            replace p58 := eq_true p58
                            replace q58 := eq_true q58
                            go_wp2
                            go_roundg k3
                            case measure => have := HJ5.out; have := HJ28.out; have := HK3.out; omega
                            case rel => exact ⟨(wrap64 ((wrap64 (10 * x6_3)) + (((bt s7 x8_3) - 48) % 256))), (wrap64 (x8_3 + 1)), (by first | rfl | (simp; done) | (simp [*]; done)), (by first | rfl | (simp; done) | (simp [*]; done)), H', ⟨by have := HJ5.out; have := HJ28.out; have := HK3.out; omega⟩, ⟨by (with_reducible repeat (first | refine blk_drewN ?_ _ | refine blk_drew ?_ | refine blk_alloc ?_ _)); exact BK142.out⟩, ⟨by (with_reducible repeat (first | refine blk_drewN ?_ _ | refine blk_drew ?_ | refine blk_alloc ?_ _)); exact BK148.out⟩, ⟨by repeat (first | (with_reducible first | exact HB.out | apply below_alloc | apply pw_below_drewN | apply below_drew1 | refine below_set ?_ GE142.out | refine below_set ?_ GE148.out) | exact HB.out)⟩⟩
                          · rw [if_neg c57] at H
                            exact absurd H (by simp)
                        · rw [if_neg c56] at H
                          have c56b0 : decide (x8_3 < (s7.size : Int)) = false := decide_eq_false c56
                          clear c56
                          replace H := Option.bind_eq_some_iff.mp H
                          obtain ⟨t151, A590, H⟩ := H
                          replace H : (if t144 = true then ((chapmanref02_Valid.f (wrap64 (-(wrap64 (x6_3 * t151))))).bind fun t152 => (if t152 = true then (some (wrap64 (-(wrap64 (x6_3 * t151))), 0)) else (some (0, 2)))) else ((chapmanref02_Valid.f (wrap64 (x6_3 * t151))).bind fun t153 => (if t153 = true then (some (wrap64 (x6_3 * t151), 0)) else (some (0, 2))))) = some (r1, r2) := H
                          have A59 := Aside0.mk A590
                          clear A590
                          by_cases c60 : t144 = true
                          · subst c60
                            have H1 : ((chapmanref02_Valid.f (wrap64 (-(wrap64 (x6_3 * t151))))).bind fun t152 => (if t152 = true then (some (wrap64 (-(wrap64 (x6_3 * t151))), 0)) else (some (0, 2)))) = some (r1, r2) := by rw [if_pos rfl] at H; exact H
                            clear H
                            have H := H1
                            clear H1
                            replace H := Option.bind_eq_some_iff.mp H
                            obtain ⟨t152, A610, H⟩ := H
                            replace H : (if t152 = true then (some (wrap64 (-(wrap64 (x6_3 * t151))), 0)) else (some (0, 2))) = some (r1, r2) := H
                            have A61 := Aside0.mk A610
                            clear A610
                            by_cases c62 : t152 = true
                            · subst c62
                              have H1 : (some (wrap64 (-(wrap64 (x6_3 * t151))), 0)) = some (r1, r2) := by rw [if_pos rfl] at H; exact H
                              clear H
                              have H := H1
                              clear H1
                              simp only [Option.some.injEq, Prod.mk.injEq] at H
                              obtain ⟨rfl, rfl⟩ := H
                              have hnb63 := NB148_142.out
                              have hnc63 := NB142_148.out
                              have hcz64_0 : wr.cell? ⟨gb148, 0, none⟩ = some (.bool true) := (blk_cell BK148.out 0).trans rfl
                              have hcz64_1 : wr.cell? ⟨gb148, 1, none⟩ = some (.bool t145) := (blk_cell BK148.out 1).trans rfl
                              have hcz64_2 : wr.cell? ⟨gb148, 2, none⟩ = some (.string t146) := (blk_cell BK148.out 2).trans rfl
                              have hcz64_3 : wr.cell? ⟨gb148, 3, none⟩ = some (.string t147) := (blk_cell BK148.out 3).trans rfl
                              have hfz64_0 := blk_frozen BK148.out 0
                              have hfz64_1 := blk_frozen BK148.out 1
                              have hfz64_2 := blk_frozen BK148.out 2
                              have hfz64_3 := blk_frozen BK148.out 3
                              go_wp2_with (first | ((with_reducible refine gate_callee (f := 50) rfl ?_); refine goesL_ (some 90) rfl rfl Tryz.func50 (by kernel_rfl) rfl #[.int .i64 (t147.size : Int)] rfl (by (try simp only [List.map_toArray, List.map_cons, List.map_nil]); first | done | rfl | (simp only [List.length_drop, List.length_take]; rfl)) ?_; (with_reducible refine (chapmanref02_Step.calls k3 (t147.size : Int) t151 _ A59.out).mono ?_); rintro e w' ⟨rfl, ⟨nd, rfl⟩⟩; refine ⟨_, rfl, ?_⟩; (try (rw [drewN_self wr]; generalize hq_ : World.drewN wr _ = wr; have n0_ : Aside0 (wr.heap[gb142]? = some (.cells #[.int .i64 0, .int .i64 0] 30 (0, 0))) := ⟨by rw [← hq_]; exact (by (with_reducible repeat (first | refine blk_drewN ?_ _ | refine blk_drew ?_ | refine blk_alloc ?_ _)); exact BK142.out)⟩; have n1_ : Aside0 (wr.heap[gb148]? = some (.cells #[.bool true, .bool t145, .string t146, .string t147] 55 (0, 0))) := ⟨by rw [← hq_]; exact (by (with_reducible repeat (first | refine blk_drewN ?_ _ | refine blk_drew ?_ | refine blk_alloc ?_ _)); exact BK148.out)⟩; have n2_ : Aside0 (Below w.heap.size w wr) := ⟨by rw [← hq_]; exact (by repeat (first | (with_reducible first | exact HB.out | apply below_alloc | apply pw_below_drewN | apply below_drew1 | refine below_set ?_ GE142.out | refine below_set ?_ GE148.out) | exact HB.out))⟩; clear BK142 BK148 HB hq_; have BK142 := n0_; have BK148 := n1_; have HB := n2_; clear n0_ n1_ n2_)); have hcz64_0b : wr.cell? ⟨gb148, 0, none⟩ = some (.bool true) := (blk_cell BK148.out 0).trans rfl; have hcz64_1b : wr.cell? ⟨gb148, 1, none⟩ = some (.bool t145) := (blk_cell BK148.out 1).trans rfl; have hcz64_2b : wr.cell? ⟨gb148, 2, none⟩ = some (.string t146) := (blk_cell BK148.out 2).trans rfl; have hcz64_3b : wr.cell? ⟨gb148, 3, none⟩ = some (.string t147) := (blk_cell BK148.out 3).trans rfl) | ((with_reducible refine gate_callee (f := 21) rfl ?_); refine goesL_ (some 97) rfl rfl Tryz.func21 (by kernel_rfl) rfl #[.int .i64 (wrap64 (-(wrap64 (x6_3 * t151))))] rfl (by (try simp only [List.map_toArray, List.map_cons, List.map_nil]); first | done | rfl | (simp only [List.length_drop, List.length_take]; rfl)) ?_; (with_reducible refine (chapmanref02_Valid.calls (wrap64 (-(wrap64 (x6_3 * t151)))) true _ A61.out).mono ?_); rintro e w' ⟨rfl, ⟨nd, rfl⟩⟩; refine ⟨_, rfl, ?_⟩; (try (rw [drewN_self wr]; generalize hq_ : World.drewN wr _ = wr; have n0_ : Aside0 (wr.heap[gb142]? = some (.cells #[.int .i64 0, .int .i64 0] 30 (0, 0))) := ⟨by rw [← hq_]; exact (by (with_reducible repeat (first | refine blk_drewN ?_ _ | refine blk_drew ?_ | refine blk_alloc ?_ _)); exact BK142.out)⟩; have n1_ : Aside0 (wr.heap[gb148]? = some (.cells #[.bool true, .bool t145, .string t146, .string t147] 55 (0, 0))) := ⟨by rw [← hq_]; exact (by (with_reducible repeat (first | refine blk_drewN ?_ _ | refine blk_drew ?_ | refine blk_alloc ?_ _)); exact BK148.out)⟩; have n2_ : Aside0 (Below w.heap.size w wr) := ⟨by rw [← hq_]; exact (by repeat (first | (with_reducible first | exact HB.out | apply below_alloc | apply pw_below_drewN | apply below_drew1 | refine below_set ?_ GE142.out | refine below_set ?_ GE148.out) | exact HB.out))⟩; clear BK142 BK148 HB hq_; have BK142 := n0_; have BK148 := n1_; have HB := n2_; clear n0_ n1_ n2_)); have hcz65_0 : wr.cell? ⟨gb142, 0, none⟩ = some (.int .i64 0) := (blk_cell BK142.out 0).trans rfl; have hcz65_1 : wr.cell? ⟨gb142, 1, none⟩ = some (.int .i64 0) := (blk_cell BK142.out 1).trans rfl; have hfz65_0 := blk_frozen BK142.out 0; have hfz65_1 := blk_frozen BK142.out 1))
                              refine bodyPost_ret (results_cell_row rfl _ _ gb142 30 #[.int .i64 (wrap64 (-(wrap64 (x6_3 * t151)))), .int .i64 0] (0, 0) _ rfl (by (with_reducible repeat (first | refine blk_drewN ?_ _ | refine blk_drew ?_ | refine blk_alloc ?_ _)); refine blk_put (cs := #[.int .i64 (wrap64 (-(wrap64 (x6_3 * t151)))), .int .i64 0]) ?_ 1 _ rfl; (with_reducible repeat (first | refine blk_drewN ?_ _ | refine blk_drew ?_ | refine blk_alloc ?_ _)); refine blk_put (cs := #[.int .i64 0, .int .i64 0]) ?_ 0 _ rfl; (with_reducible repeat (first | refine blk_drewN ?_ _ | refine blk_drew ?_ | refine blk_alloc ?_ _)); exact BK142.out) Tryz.underlying30 rfl (by kernel_rfl)) rfl ?_
                              exact ⟨by first | rfl | (simp [errW_none, errW_some] <;> rfl) | (simp [*, errW_none, errW_some] <;> rfl), by repeat (first | (with_reducible first | exact HB.out | apply below_alloc | apply pw_below_drewN | apply below_drew1 | refine below_set ?_ GE142.out | refine below_set ?_ GE148.out) | exact HB.out)⟩
                            · replace c62 := Bool.eq_false_iff.mpr c62
                              subst c62
                              have H1 : (some (0, 2)) = some (r1, r2) := by rw [if_neg (show ¬ (false = true) by decide)] at H; exact H
                              clear H
                              have H := H1
                              clear H1
                              simp only [Option.some.injEq, Prod.mk.injEq] at H
                              obtain ⟨rfl, rfl⟩ := H
                              have hnb66 := NB148_142.out
                              have hnc66 := NB142_148.out
                              have hcz67_0 : wr.cell? ⟨gb148, 0, none⟩ = some (.bool true) := (blk_cell BK148.out 0).trans rfl
                              have hcz67_1 : wr.cell? ⟨gb148, 1, none⟩ = some (.bool t145) := (blk_cell BK148.out 1).trans rfl
                              have hcz67_2 : wr.cell? ⟨gb148, 2, none⟩ = some (.string t146) := (blk_cell BK148.out 2).trans rfl
                              have hcz67_3 : wr.cell? ⟨gb148, 3, none⟩ = some (.string t147) := (blk_cell BK148.out 3).trans rfl
                              have hfz67_0 := blk_frozen BK148.out 0
                              have hfz67_1 := blk_frozen BK148.out 1
                              have hfz67_2 := blk_frozen BK148.out 2
                              have hfz67_3 := blk_frozen BK148.out 3
                              go_wp2_with (first | ((with_reducible refine gate_callee (f := 50) rfl ?_); refine goesL_ (some 90) rfl rfl Tryz.func50 (by kernel_rfl) rfl #[.int .i64 (t147.size : Int)] rfl (by (try simp only [List.map_toArray, List.map_cons, List.map_nil]); first | done | rfl | (simp only [List.length_drop, List.length_take]; rfl)) ?_; (with_reducible refine (chapmanref02_Step.calls k3 (t147.size : Int) t151 _ A59.out).mono ?_); rintro e w' ⟨rfl, ⟨nd, rfl⟩⟩; refine ⟨_, rfl, ?_⟩; (try (rw [drewN_self wr]; generalize hq_ : World.drewN wr _ = wr; have n0_ : Aside0 (wr.heap[gb142]? = some (.cells #[.int .i64 0, .int .i64 0] 30 (0, 0))) := ⟨by rw [← hq_]; exact (by (with_reducible repeat (first | refine blk_drewN ?_ _ | refine blk_drew ?_ | refine blk_alloc ?_ _)); exact BK142.out)⟩; have n1_ : Aside0 (wr.heap[gb148]? = some (.cells #[.bool true, .bool t145, .string t146, .string t147] 55 (0, 0))) := ⟨by rw [← hq_]; exact (by (with_reducible repeat (first | refine blk_drewN ?_ _ | refine blk_drew ?_ | refine blk_alloc ?_ _)); exact BK148.out)⟩; have n2_ : Aside0 (Below w.heap.size w wr) := ⟨by rw [← hq_]; exact (by repeat (first | (with_reducible first | exact HB.out | apply below_alloc | apply pw_below_drewN | apply below_drew1 | refine below_set ?_ GE142.out | refine below_set ?_ GE148.out) | exact HB.out))⟩; clear BK142 BK148 HB hq_; have BK142 := n0_; have BK148 := n1_; have HB := n2_; clear n0_ n1_ n2_)); have hcz67_0b : wr.cell? ⟨gb148, 0, none⟩ = some (.bool true) := (blk_cell BK148.out 0).trans rfl; have hcz67_1b : wr.cell? ⟨gb148, 1, none⟩ = some (.bool t145) := (blk_cell BK148.out 1).trans rfl; have hcz67_2b : wr.cell? ⟨gb148, 2, none⟩ = some (.string t146) := (blk_cell BK148.out 2).trans rfl; have hcz67_3b : wr.cell? ⟨gb148, 3, none⟩ = some (.string t147) := (blk_cell BK148.out 3).trans rfl) | ((with_reducible refine gate_callee (f := 21) rfl ?_); refine goesL_ (some 97) rfl rfl Tryz.func21 (by kernel_rfl) rfl #[.int .i64 (wrap64 (-(wrap64 (x6_3 * t151))))] rfl (by (try simp only [List.map_toArray, List.map_cons, List.map_nil]); first | done | rfl | (simp only [List.length_drop, List.length_take]; rfl)) ?_; (with_reducible refine (chapmanref02_Valid.calls (wrap64 (-(wrap64 (x6_3 * t151)))) false _ A61.out).mono ?_); rintro e w' ⟨rfl, ⟨nd, rfl⟩⟩; refine ⟨_, rfl, ?_⟩; (try (rw [drewN_self wr]; generalize hq_ : World.drewN wr _ = wr; have n0_ : Aside0 (wr.heap[gb142]? = some (.cells #[.int .i64 0, .int .i64 0] 30 (0, 0))) := ⟨by rw [← hq_]; exact (by (with_reducible repeat (first | refine blk_drewN ?_ _ | refine blk_drew ?_ | refine blk_alloc ?_ _)); exact BK142.out)⟩; have n1_ : Aside0 (wr.heap[gb148]? = some (.cells #[.bool true, .bool t145, .string t146, .string t147] 55 (0, 0))) := ⟨by rw [← hq_]; exact (by (with_reducible repeat (first | refine blk_drewN ?_ _ | refine blk_drew ?_ | refine blk_alloc ?_ _)); exact BK148.out)⟩; have n2_ : Aside0 (Below w.heap.size w wr) := ⟨by rw [← hq_]; exact (by repeat (first | (with_reducible first | exact HB.out | apply below_alloc | apply pw_below_drewN | apply below_drew1 | refine below_set ?_ GE142.out | refine below_set ?_ GE148.out) | exact HB.out))⟩; clear BK142 BK148 HB hq_; have BK142 := n0_; have BK148 := n1_; have HB := n2_; clear n0_ n1_ n2_)); have hcz68_0 : wr.cell? ⟨gb142, 0, none⟩ = some (.int .i64 0) := (blk_cell BK142.out 0).trans rfl; have hcz68_1 : wr.cell? ⟨gb142, 1, none⟩ = some (.int .i64 0) := (blk_cell BK142.out 1).trans rfl; have hfz68_0 := blk_frozen BK142.out 0; have hfz68_1 := blk_frozen BK142.out 1))
                              refine bodyPost_ret (results_cell_row rfl _ _ gb142 30 #[.int .i64 0, .int .i64 2] (0, 0) _ rfl (by (with_reducible repeat (first | refine blk_drewN ?_ _ | refine blk_drew ?_ | refine blk_alloc ?_ _)); refine blk_put (cs := #[.int .i64 0, .int .i64 0]) ?_ 1 _ rfl; (with_reducible repeat (first | refine blk_drewN ?_ _ | refine blk_drew ?_ | refine blk_alloc ?_ _)); refine blk_put (cs := #[.int .i64 0, .int .i64 0]) ?_ 0 _ rfl; (with_reducible repeat (first | refine blk_drewN ?_ _ | refine blk_drew ?_ | refine blk_alloc ?_ _)); exact BK142.out) Tryz.underlying30 rfl (by kernel_rfl)) rfl ?_
                              exact ⟨by first | rfl | (simp [errW_none, errW_some] <;> rfl) | (simp [*, errW_none, errW_some] <;> rfl), by repeat (first | (with_reducible first | exact HB.out | apply below_alloc | apply pw_below_drewN | apply below_drew1 | refine below_set ?_ GE142.out | refine below_set ?_ GE148.out) | exact HB.out)⟩
                          · replace c60 := Bool.eq_false_iff.mpr c60
                            subst c60
                            have H1 : ((chapmanref02_Valid.f (wrap64 (x6_3 * t151))).bind fun t153 => (if t153 = true then (some (wrap64 (x6_3 * t151), 0)) else (some (0, 2)))) = some (r1, r2) := by rw [if_neg (show ¬ (false = true) by decide)] at H; exact H
                            clear H
                            have H := H1
                            clear H1
                            replace H := Option.bind_eq_some_iff.mp H
                            obtain ⟨t153, A690, H⟩ := H
                            replace H : (if t153 = true then (some (wrap64 (x6_3 * t151), 0)) else (some (0, 2))) = some (r1, r2) := H
                            have A69 := Aside0.mk A690
                            clear A690
                            by_cases c70 : t153 = true
                            · subst c70
                              have H1 : (some (wrap64 (x6_3 * t151), 0)) = some (r1, r2) := by rw [if_pos rfl] at H; exact H
                              clear H
                              have H := H1
                              clear H1
                              simp only [Option.some.injEq, Prod.mk.injEq] at H
                              obtain ⟨rfl, rfl⟩ := H
                              have hnb71 := NB148_142.out
                              have hnc71 := NB142_148.out
                              have hcz72_0 : wr.cell? ⟨gb148, 0, none⟩ = some (.bool false) := (blk_cell BK148.out 0).trans rfl
                              have hcz72_1 : wr.cell? ⟨gb148, 1, none⟩ = some (.bool t145) := (blk_cell BK148.out 1).trans rfl
                              have hcz72_2 : wr.cell? ⟨gb148, 2, none⟩ = some (.string t146) := (blk_cell BK148.out 2).trans rfl
                              have hcz72_3 : wr.cell? ⟨gb148, 3, none⟩ = some (.string t147) := (blk_cell BK148.out 3).trans rfl
                              have hfz72_0 := blk_frozen BK148.out 0
                              have hfz72_1 := blk_frozen BK148.out 1
                              have hfz72_2 := blk_frozen BK148.out 2
                              have hfz72_3 := blk_frozen BK148.out 3
                              go_wp2_with (first | ((with_reducible refine gate_callee (f := 50) rfl ?_); refine goesL_ (some 90) rfl rfl Tryz.func50 (by kernel_rfl) rfl #[.int .i64 (t147.size : Int)] rfl (by (try simp only [List.map_toArray, List.map_cons, List.map_nil]); first | done | rfl | (simp only [List.length_drop, List.length_take]; rfl)) ?_; (with_reducible refine (chapmanref02_Step.calls k3 (t147.size : Int) t151 _ A59.out).mono ?_); rintro e w' ⟨rfl, ⟨nd, rfl⟩⟩; refine ⟨_, rfl, ?_⟩; (try (rw [drewN_self wr]; generalize hq_ : World.drewN wr _ = wr; have n0_ : Aside0 (wr.heap[gb142]? = some (.cells #[.int .i64 0, .int .i64 0] 30 (0, 0))) := ⟨by rw [← hq_]; exact (by (with_reducible repeat (first | refine blk_drewN ?_ _ | refine blk_drew ?_ | refine blk_alloc ?_ _)); exact BK142.out)⟩; have n1_ : Aside0 (wr.heap[gb148]? = some (.cells #[.bool false, .bool t145, .string t146, .string t147] 55 (0, 0))) := ⟨by rw [← hq_]; exact (by (with_reducible repeat (first | refine blk_drewN ?_ _ | refine blk_drew ?_ | refine blk_alloc ?_ _)); exact BK148.out)⟩; have n2_ : Aside0 (Below w.heap.size w wr) := ⟨by rw [← hq_]; exact (by repeat (first | (with_reducible first | exact HB.out | apply below_alloc | apply pw_below_drewN | apply below_drew1 | refine below_set ?_ GE142.out | refine below_set ?_ GE148.out) | exact HB.out))⟩; clear BK142 BK148 HB hq_; have BK142 := n0_; have BK148 := n1_; have HB := n2_; clear n0_ n1_ n2_)); have hcz72_0b : wr.cell? ⟨gb148, 0, none⟩ = some (.bool false) := (blk_cell BK148.out 0).trans rfl; have hcz72_1b : wr.cell? ⟨gb148, 1, none⟩ = some (.bool t145) := (blk_cell BK148.out 1).trans rfl; have hcz72_2b : wr.cell? ⟨gb148, 2, none⟩ = some (.string t146) := (blk_cell BK148.out 2).trans rfl; have hcz72_3b : wr.cell? ⟨gb148, 3, none⟩ = some (.string t147) := (blk_cell BK148.out 3).trans rfl) | ((with_reducible refine gate_callee (f := 21) rfl ?_); refine goesL_ (some 97) rfl rfl Tryz.func21 (by kernel_rfl) rfl #[.int .i64 (wrap64 (x6_3 * t151))] rfl (by (try simp only [List.map_toArray, List.map_cons, List.map_nil]); first | done | rfl | (simp only [List.length_drop, List.length_take]; rfl)) ?_; (with_reducible refine (chapmanref02_Valid.calls (wrap64 (x6_3 * t151)) true _ A69.out).mono ?_); rintro e w' ⟨rfl, ⟨nd, rfl⟩⟩; refine ⟨_, rfl, ?_⟩; (try (rw [drewN_self wr]; generalize hq_ : World.drewN wr _ = wr; have n0_ : Aside0 (wr.heap[gb142]? = some (.cells #[.int .i64 0, .int .i64 0] 30 (0, 0))) := ⟨by rw [← hq_]; exact (by (with_reducible repeat (first | refine blk_drewN ?_ _ | refine blk_drew ?_ | refine blk_alloc ?_ _)); exact BK142.out)⟩; have n1_ : Aside0 (wr.heap[gb148]? = some (.cells #[.bool false, .bool t145, .string t146, .string t147] 55 (0, 0))) := ⟨by rw [← hq_]; exact (by (with_reducible repeat (first | refine blk_drewN ?_ _ | refine blk_drew ?_ | refine blk_alloc ?_ _)); exact BK148.out)⟩; have n2_ : Aside0 (Below w.heap.size w wr) := ⟨by rw [← hq_]; exact (by repeat (first | (with_reducible first | exact HB.out | apply below_alloc | apply pw_below_drewN | apply below_drew1 | refine below_set ?_ GE142.out | refine below_set ?_ GE148.out) | exact HB.out))⟩; clear BK142 BK148 HB hq_; have BK142 := n0_; have BK148 := n1_; have HB := n2_; clear n0_ n1_ n2_)); have hcz73_0 : wr.cell? ⟨gb142, 0, none⟩ = some (.int .i64 0) := (blk_cell BK142.out 0).trans rfl; have hcz73_1 : wr.cell? ⟨gb142, 1, none⟩ = some (.int .i64 0) := (blk_cell BK142.out 1).trans rfl; have hfz73_0 := blk_frozen BK142.out 0; have hfz73_1 := blk_frozen BK142.out 1))
                              refine bodyPost_ret (results_cell_row rfl _ _ gb142 30 #[.int .i64 (wrap64 (x6_3 * t151)), .int .i64 0] (0, 0) _ rfl (by (with_reducible repeat (first | refine blk_drewN ?_ _ | refine blk_drew ?_ | refine blk_alloc ?_ _)); refine blk_put (cs := #[.int .i64 (wrap64 (x6_3 * t151)), .int .i64 0]) ?_ 1 _ rfl; (with_reducible repeat (first | refine blk_drewN ?_ _ | refine blk_drew ?_ | refine blk_alloc ?_ _)); refine blk_put (cs := #[.int .i64 0, .int .i64 0]) ?_ 0 _ rfl; (with_reducible repeat (first | refine blk_drewN ?_ _ | refine blk_drew ?_ | refine blk_alloc ?_ _)); exact BK142.out) Tryz.underlying30 rfl (by kernel_rfl)) rfl ?_
                              exact ⟨by first | rfl | (simp [errW_none, errW_some] <;> rfl) | (simp [*, errW_none, errW_some] <;> rfl), by repeat (first | (with_reducible first | exact HB.out | apply below_alloc | apply pw_below_drewN | apply below_drew1 | refine below_set ?_ GE142.out | refine below_set ?_ GE148.out) | exact HB.out)⟩
                            · replace c70 := Bool.eq_false_iff.mpr c70
                              subst c70
                              have H1 : (some (0, 2)) = some (r1, r2) := by rw [if_neg (show ¬ (false = true) by decide)] at H; exact H
                              clear H
                              have H := H1
                              clear H1
                              simp only [Option.some.injEq, Prod.mk.injEq] at H
                              obtain ⟨rfl, rfl⟩ := H
                              have hnb74 := NB148_142.out
                              have hnc74 := NB142_148.out
                              have hcz75_0 : wr.cell? ⟨gb148, 0, none⟩ = some (.bool false) := (blk_cell BK148.out 0).trans rfl
                              have hcz75_1 : wr.cell? ⟨gb148, 1, none⟩ = some (.bool t145) := (blk_cell BK148.out 1).trans rfl
                              have hcz75_2 : wr.cell? ⟨gb148, 2, none⟩ = some (.string t146) := (blk_cell BK148.out 2).trans rfl
                              have hcz75_3 : wr.cell? ⟨gb148, 3, none⟩ = some (.string t147) := (blk_cell BK148.out 3).trans rfl
                              have hfz75_0 := blk_frozen BK148.out 0
                              have hfz75_1 := blk_frozen BK148.out 1
                              have hfz75_2 := blk_frozen BK148.out 2
                              have hfz75_3 := blk_frozen BK148.out 3
                              go_wp2_with (first | ((with_reducible refine gate_callee (f := 50) rfl ?_); refine goesL_ (some 90) rfl rfl Tryz.func50 (by kernel_rfl) rfl #[.int .i64 (t147.size : Int)] rfl (by (try simp only [List.map_toArray, List.map_cons, List.map_nil]); first | done | rfl | (simp only [List.length_drop, List.length_take]; rfl)) ?_; (with_reducible refine (chapmanref02_Step.calls k3 (t147.size : Int) t151 _ A59.out).mono ?_); rintro e w' ⟨rfl, ⟨nd, rfl⟩⟩; refine ⟨_, rfl, ?_⟩; (try (rw [drewN_self wr]; generalize hq_ : World.drewN wr _ = wr; have n0_ : Aside0 (wr.heap[gb142]? = some (.cells #[.int .i64 0, .int .i64 0] 30 (0, 0))) := ⟨by rw [← hq_]; exact (by (with_reducible repeat (first | refine blk_drewN ?_ _ | refine blk_drew ?_ | refine blk_alloc ?_ _)); exact BK142.out)⟩; have n1_ : Aside0 (wr.heap[gb148]? = some (.cells #[.bool false, .bool t145, .string t146, .string t147] 55 (0, 0))) := ⟨by rw [← hq_]; exact (by (with_reducible repeat (first | refine blk_drewN ?_ _ | refine blk_drew ?_ | refine blk_alloc ?_ _)); exact BK148.out)⟩; have n2_ : Aside0 (Below w.heap.size w wr) := ⟨by rw [← hq_]; exact (by repeat (first | (with_reducible first | exact HB.out | apply below_alloc | apply pw_below_drewN | apply below_drew1 | refine below_set ?_ GE142.out | refine below_set ?_ GE148.out) | exact HB.out))⟩; clear BK142 BK148 HB hq_; have BK142 := n0_; have BK148 := n1_; have HB := n2_; clear n0_ n1_ n2_)); have hcz75_0b : wr.cell? ⟨gb148, 0, none⟩ = some (.bool false) := (blk_cell BK148.out 0).trans rfl; have hcz75_1b : wr.cell? ⟨gb148, 1, none⟩ = some (.bool t145) := (blk_cell BK148.out 1).trans rfl; have hcz75_2b : wr.cell? ⟨gb148, 2, none⟩ = some (.string t146) := (blk_cell BK148.out 2).trans rfl; have hcz75_3b : wr.cell? ⟨gb148, 3, none⟩ = some (.string t147) := (blk_cell BK148.out 3).trans rfl) | ((with_reducible refine gate_callee (f := 21) rfl ?_); refine goesL_ (some 97) rfl rfl Tryz.func21 (by kernel_rfl) rfl #[.int .i64 (wrap64 (x6_3 * t151))] rfl (by (try simp only [List.map_toArray, List.map_cons, List.map_nil]); first | done | rfl | (simp only [List.length_drop, List.length_take]; rfl)) ?_; (with_reducible refine (chapmanref02_Valid.calls (wrap64 (x6_3 * t151)) false _ A69.out).mono ?_); rintro e w' ⟨rfl, ⟨nd, rfl⟩⟩; refine ⟨_, rfl, ?_⟩; (try (rw [drewN_self wr]; generalize hq_ : World.drewN wr _ = wr; have n0_ : Aside0 (wr.heap[gb142]? = some (.cells #[.int .i64 0, .int .i64 0] 30 (0, 0))) := ⟨by rw [← hq_]; exact (by (with_reducible repeat (first | refine blk_drewN ?_ _ | refine blk_drew ?_ | refine blk_alloc ?_ _)); exact BK142.out)⟩; have n1_ : Aside0 (wr.heap[gb148]? = some (.cells #[.bool false, .bool t145, .string t146, .string t147] 55 (0, 0))) := ⟨by rw [← hq_]; exact (by (with_reducible repeat (first | refine blk_drewN ?_ _ | refine blk_drew ?_ | refine blk_alloc ?_ _)); exact BK148.out)⟩; have n2_ : Aside0 (Below w.heap.size w wr) := ⟨by rw [← hq_]; exact (by repeat (first | (with_reducible first | exact HB.out | apply below_alloc | apply pw_below_drewN | apply below_drew1 | refine below_set ?_ GE142.out | refine below_set ?_ GE148.out) | exact HB.out))⟩; clear BK142 BK148 HB hq_; have BK142 := n0_; have BK148 := n1_; have HB := n2_; clear n0_ n1_ n2_)); have hcz76_0 : wr.cell? ⟨gb142, 0, none⟩ = some (.int .i64 0) := (blk_cell BK142.out 0).trans rfl; have hcz76_1 : wr.cell? ⟨gb142, 1, none⟩ = some (.int .i64 0) := (blk_cell BK142.out 1).trans rfl; have hfz76_0 := blk_frozen BK142.out 0; have hfz76_1 := blk_frozen BK142.out 1))
                              refine bodyPost_ret (results_cell_row rfl _ _ gb142 30 #[.int .i64 0, .int .i64 2] (0, 0) _ rfl (by (with_reducible repeat (first | refine blk_drewN ?_ _ | refine blk_drew ?_ | refine blk_alloc ?_ _)); refine blk_put (cs := #[.int .i64 0, .int .i64 0]) ?_ 1 _ rfl; (with_reducible repeat (first | refine blk_drewN ?_ _ | refine blk_drew ?_ | refine blk_alloc ?_ _)); refine blk_put (cs := #[.int .i64 0, .int .i64 0]) ?_ 0 _ rfl; (with_reducible repeat (first | refine blk_drewN ?_ _ | refine blk_drew ?_ | refine blk_alloc ?_ _)); exact BK142.out) Tryz.underlying30 rfl (by kernel_rfl)) rfl ?_
                              exact ⟨by first | rfl | (simp [errW_none, errW_some] <;> rfl) | (simp [*, errW_none, errW_some] <;> rfl), by repeat (first | (with_reducible first | exact HB.out | apply below_alloc | apply pw_below_drewN | apply below_drew1 | refine below_set ?_ GE142.out | refine below_set ?_ GE148.out) | exact HB.out)⟩
                  · rw [if_neg c53] at H
                    exact absurd H (by simp)
  · replace c4 := Bool.eq_false_iff.mpr c4
    subst c4
    have H1 : (some (0, 1)) = some (r1, r2) := by rw [if_neg (show ¬ (false = true) by decide)] at H; exact H
    clear H
    have H := H1
    clear H1
    simp only [Option.some.injEq, Prod.mk.injEq] at H
    obtain ⟨rfl, rfl⟩ := H
    go_enter Tryz.func25, Tryz.ntmps25
    go_wp2_with (first | ((with_reducible refine gate_dst (N := 4) rfl ?_); (try (refine gate_guard (by rfl) ?_; dsimp only)); refine box_event ?hg (N := 4) ?hd (cs := #[.int .i64 0, .int .i64 0]) (t := 30) ?hr ?_; (case hd => rfl); (case hg => rfl); (case hr => first | (go_simp; done) | (go_simp; rfl)); intro gb142 hg w77 hbox hb; have n0_ := Aside0.mk (below_step (by repeat (first | (with_reducible first | exact HB.out | apply below_alloc | apply pw_below_drewN | apply below_drew1) | exact HB.out)) hb); have n1_ := Aside0.mk (hbox); have n2_ := Aside0.mk ((by rw [hg]; exact (below_size (by repeat (first | (with_reducible first | exact HB.out | apply below_alloc | apply pw_below_drewN | apply below_drew1) | exact HB.out))) : w.heap.size ≤ gb142)); have n3_ := Aside0.mk ((by rw [hg]; exact (below_size (by repeat (first | (with_reducible first | exact HB.out | apply below_alloc | apply pw_below_drewN | apply below_drew1) | exact HB.out))) : w.heap.size ≤ gb142)); clear HB; have HB := n0_; have BK142 := n1_; have GW142 := n2_; have GE142 := n3_; clear n0_ n1_ n2_ n3_; clear hb hbox hg) | ((with_reducible refine gate_callee (f := 47) rfl ?_); refine goesL_ (some 10) rfl rfl Tryz.func47 (by kernel_rfl) rfl #[.int .i64 a1] rfl (by (try simp only [List.map_toArray, List.map_cons, List.map_nil]); first | done | rfl | (simp only [List.length_drop, List.length_take]; rfl)) ?_; (with_reducible refine (chapmanref02_Scaled.calls a1 false _ A3.out).mono ?_); rintro e w' ⟨rfl, ⟨nd, rfl⟩⟩; refine ⟨_, rfl, ?_⟩; (try (rw [drewN_self w77]; generalize hq_ : World.drewN w77 _ = w77; have n0_ : Aside0 (w77.heap[gb142]? = some (.cells #[.int .i64 0, .int .i64 0] 30 (0, 0))) := ⟨by rw [← hq_]; exact (by (with_reducible repeat (first | refine blk_drewN ?_ _ | refine blk_drew ?_ | refine blk_alloc ?_ _)); exact BK142.out)⟩; have n1_ : Aside0 (Below w.heap.size w w77) := ⟨by rw [← hq_]; exact (by repeat (first | (with_reducible first | exact HB.out | apply below_alloc | apply pw_below_drewN | apply below_drew1 | refine below_set ?_ GE142.out) | exact HB.out))⟩; clear BK142 HB hq_; have BK142 := n0_; have HB := n1_; clear n0_ n1_)); have hcz78_0 : w77.cell? ⟨gb142, 0, none⟩ = some (.int .i64 0) := (blk_cell BK142.out 0).trans rfl; have hcz78_1 : w77.cell? ⟨gb142, 1, none⟩ = some (.int .i64 0) := (blk_cell BK142.out 1).trans rfl; have hfz78_0 := blk_frozen BK142.out 0; have hfz78_1 := blk_frozen BK142.out 1))
    refine bodyPost_ret (results_cell_row rfl _ _ gb142 30 #[.int .i64 0, .int .i64 1] (0, 0) _ rfl (by (with_reducible repeat (first | refine blk_drewN ?_ _ | refine blk_drew ?_ | refine blk_alloc ?_ _)); refine blk_put (cs := #[.int .i64 0, .int .i64 0]) ?_ 1 _ rfl; (with_reducible repeat (first | refine blk_drewN ?_ _ | refine blk_drew ?_ | refine blk_alloc ?_ _)); refine blk_put (cs := #[.int .i64 0, .int .i64 0]) ?_ 0 _ rfl; (with_reducible repeat (first | refine blk_drewN ?_ _ | refine blk_drew ?_ | refine blk_alloc ?_ _)); exact BK142.out) Tryz.underlying30 rfl (by kernel_rfl)) rfl ?_
    exact ⟨by first | rfl | (simp [errW_none, errW_some] <;> rfl) | (simp [*, errW_none, errW_some] <;> rfl), by repeat (first | (with_reducible first | exact HB.out | apply below_alloc | apply pw_below_drewN | apply below_drew1 | refine below_set ?_ GE142.out) | exact HB.out)⟩

end Go.Proofs.YtckonpphagkfeaaGreatDoor.M
