/- The walk of the examples of chapmanlaw02: every call has fixed arguments, and the answer is true. -/
import Derived.Test.YtckonpphagkfeaaGreatDoorQx2
namespace Go.Proofs.YtckonpphagkfeaaGreatDoor.H
open Go.RowKit Go.Proofs.YtckonpphagkfeaaGreatDoor.Q Go.Proofs.YtckonpphagkfeaaGreatDoorW.PrintWords Go.Proofs.YtckonpphagkfeaaGreatDoorW.PrintLast Go.Proofs.YtckonpphagkfeaaGreatDoorW.PrintMore
set_option linter.unusedVariables false
set_option linter.unusedSimpArgs false

theorem fld0 (a b : Int) (w : World) : Sem.run Tryz.prog (Instr.field 30 (.agg #[.int .i64 a, .int .i64 b]) 0) w = .ok (.int .i64 a) w := by kernel_rfl
theorem fld1 (a b : Int) (w : World) : Sem.run Tryz.prog (Instr.field 30 (.agg #[.int .i64 a, .int .i64 b]) 1) w = .ok (.int .i64 b) w := by kernel_rfl
attribute [local go_sem high] fld0 fld1

/-- A fresh block of integers is read as they are. -/
theorem kdC_new {e : Nat} (xs : List Int) (w : World) (cs : Array Value) (hcs : cs = (xs.map (Value.int .i64)).toArray) (h : xs.length ≤ 9223372036854775807) :
    Kd.C (Kd.int .i64) (w.alloc (.cells cs e)) (some ⟨w.heap.size, 0, none⟩) xs.length xs := by
  refine ⟨rfl, h, fun _ => ⟨_, rfl, fun j p hj => ⟨[.int .i64 p], rfl, rfl, fun i u hu => ?_⟩⟩⟩
  have hi : i = 0 := by
    rcases i with _ | i
    · rfl
    · simp at hu
  subst hi
  have hu' : Value.int .i64 p = u := by simpa using hu
  subst hu'
  have hs : (Kd.int .i64).sz = 1 := rfl
  subst hcs
  rw [hs, Nat.mul_one, Nat.add_zero]
  have ha : (w.alloc (.cells (xs.map (Value.int .i64)).toArray e)).heap[w.heap.size]? = some (.cells (xs.map (Value.int .i64)).toArray e) := by
    show (w.heap.push _)[w.heap.size]? = _
    exact Array.getElem?_push_size
  have hb : (⟨w.heap.size, 0, none⟩ : Addr).add j = ⟨w.heap.size, j, none⟩ := by
    unfold Addr.add; split <;> simp_all
  rw [hb]
  simp only [World.cell?, ha]
  simp [hj]

def chapmanlaw02_examples.f : Option Bool := some true

set_option maxHeartbeats 4000000 in
set_option maxRecDepth 100000 in
theorem chapmanlaw02_examples.calls (r : Bool) (w : World) (hgl : Gl w) (h : chapmanlaw02_examples.f = some r) :
    Calls Tryz.prog 9 #[] w fun e w' => e = .returned (.bool r) ∧ Below w.heap.size w w' := by
  obtain rfl : true = r := Option.some.inj h
  clear h
  have hu30 := Tryz.underlying30
  have HB := Aside0.mk (Below.refl w.heap.size w)
  go_enter Tryz.func9, Tryz.ntmps9
  go_wp2_with fail
  refine (decimal_Text.calls (-500000) ⟨#[45, 48, 46, 53]⟩ _ (by first | exact hgl.below (by repeat (first | (with_reducible first | exact HB.out | apply below_alloc | apply pw_below_drewN | apply below_drew1) | exact HB.out))) (by decide +kernel)).mono ?_
  rintro e wx ⟨rfl, hb⟩
  replace HB := Aside0.mk (below_step (by repeat (first | (with_reducible first | exact HB.out | apply below_alloc | apply pw_below_drewN | apply below_drew1) | exact HB.out)) hb)
  clear hb
  go_wp2_with fail
  refine (decimal_Text.calls (12000000) ⟨#[49, 50]⟩ _ (by first | exact hgl.below (by repeat (first | (with_reducible first | exact HB.out | apply below_alloc | apply pw_below_drewN | apply below_drew1) | exact HB.out))) (by decide +kernel)).mono ?_
  rintro e wx ⟨rfl, hb⟩
  replace HB := Aside0.mk (below_step (by repeat (first | (with_reducible first | exact HB.out | apply below_alloc | apply pw_below_drewN | apply below_drew1) | exact HB.out)) hb)
  clear hb
  go_wp2_with fail
  refine (decimal_Text.calls (1) ⟨#[48, 46, 48, 48, 48, 48, 48, 49]⟩ _ (by first | exact hgl.below (by repeat (first | (with_reducible first | exact HB.out | apply below_alloc | apply pw_below_drewN | apply below_drew1) | exact HB.out))) (by decide +kernel)).mono ?_
  rintro e wx ⟨rfl, hb⟩
  replace HB := Aside0.mk (below_step (by repeat (first | (with_reducible first | exact HB.out | apply below_alloc | apply pw_below_drewN | apply below_drew1) | exact HB.out)) hb)
  clear hb
  go_wp2_with fail
  refine (chapmanlaw02_parsed.calls ⟨#[45, 48, 46, 53]⟩ (1) (-500000) (0) _ (by first | exact hgl.below (by repeat (first | (with_reducible first | exact HB.out | apply below_alloc | apply pw_below_drewN | apply below_drew1) | exact HB.out))) (by decide +kernel)).mono ?_
  rintro e wx ⟨rfl, hb⟩
  replace HB := Aside0.mk (below_step (by repeat (first | (with_reducible first | exact HB.out | apply below_alloc | apply pw_below_drewN | apply below_drew1) | exact HB.out)) hb)
  clear hb
  go_wp2_with fail
  refine (chapmanlaw02_parsed.calls ⟨#[48, 46, 49, 48]⟩ (2) (0) (5) _ (by first | exact hgl.below (by repeat (first | (with_reducible first | exact HB.out | apply below_alloc | apply pw_below_drewN | apply below_drew1) | exact HB.out))) (by decide +kernel)).mono ?_
  rintro e wx ⟨rfl, hb⟩
  replace HB := Aside0.mk (below_step (by repeat (first | (with_reducible first | exact HB.out | apply below_alloc | apply pw_below_drewN | apply below_drew1) | exact HB.out)) hb)
  clear hb
  go_wp2_with fail
  refine (chapmanlaw02_parsed.calls ⟨#[48, 49]⟩ (0) (0) (5) _ (by first | exact hgl.below (by repeat (first | (with_reducible first | exact HB.out | apply below_alloc | apply pw_below_drewN | apply below_drew1) | exact HB.out))) (by decide +kernel)).mono ?_
  rintro e wx ⟨rfl, hb⟩
  replace HB := Aside0.mk (below_step (by repeat (first | (with_reducible first | exact HB.out | apply below_alloc | apply pw_below_drewN | apply below_drew1) | exact HB.out)) hb)
  clear hb
  go_wp2_with fail
  refine (chapmanlaw02_parsed.calls ⟨#[49, 46, 53]⟩ (0) (0) (5) _ (by first | exact hgl.below (by repeat (first | (with_reducible first | exact HB.out | apply below_alloc | apply pw_below_drewN | apply below_drew1) | exact HB.out))) (by decide +kernel)).mono ?_
  rintro e wx ⟨rfl, hb⟩
  replace HB := Aside0.mk (below_step (by repeat (first | (with_reducible first | exact HB.out | apply below_alloc | apply pw_below_drewN | apply below_drew1) | exact HB.out)) hb)
  clear hb
  go_wp2_with fail
  refine (chapmanlaw02_parsed.calls ⟨#[49]⟩ (7) (0) (1) _ (by first | exact hgl.below (by repeat (first | (with_reducible first | exact HB.out | apply below_alloc | apply pw_below_drewN | apply below_drew1) | exact HB.out))) (by decide +kernel)).mono ?_
  rintro e wx ⟨rfl, hb⟩
  replace HB := Aside0.mk (below_step (by repeat (first | (with_reducible first | exact HB.out | apply below_alloc | apply pw_below_drewN | apply below_drew1) | exact HB.out)) hb)
  clear hb
  go_wp2_with fail
  refine (chapmanlaw02_parsed.calls ⟨#[49, 48, 48, 48, 48, 48, 48, 48, 48, 49]⟩ (0) (0) (2) _ (by first | exact hgl.below (by repeat (first | (with_reducible first | exact HB.out | apply below_alloc | apply pw_below_drewN | apply below_drew1) | exact HB.out))) (by decide +kernel)).mono ?_
  rintro e wx ⟨rfl, hb⟩
  replace HB := Aside0.mk (below_step (by repeat (first | (with_reducible first | exact HB.out | apply below_alloc | apply pw_below_drewN | apply below_drew1) | exact HB.out)) hb)
  clear hb
  go_wp2_with fail
  refine (chapmanlaw02_product.calls (1500000) (1) (2) (0) _ (by decide +kernel)).mono ?_
  rintro e wx ⟨rfl, hb⟩
  replace HB := Aside0.mk (below_step (by repeat (first | (with_reducible first | exact HB.out | apply below_alloc | apply pw_below_drewN | apply below_drew1) | exact HB.out)) hb)
  clear hb
  go_wp2_with fail
  refine (chapmanlaw02_product.calls (2500000) (1) (2) (0) _ (by decide +kernel)).mono ?_
  rintro e wx ⟨rfl, hb⟩
  replace HB := Aside0.mk (below_step (by repeat (first | (with_reducible first | exact HB.out | apply below_alloc | apply pw_below_drewN | apply below_drew1) | exact HB.out)) hb)
  clear hb
  go_wp2_with fail
  refine (chapmanlaw02_product.calls (-1500000) (1) (-2) (0) _ (by decide +kernel)).mono ?_
  rintro e wx ⟨rfl, hb⟩
  replace HB := Aside0.mk (below_step (by repeat (first | (with_reducible first | exact HB.out | apply below_alloc | apply pw_below_drewN | apply below_drew1) | exact HB.out)) hb)
  clear hb
  go_wp2_with fail
  refine (chapmanlaw02_quotient.calls (1000000) (3000000) (333333) (0) _ (by decide +kernel)).mono ?_
  rintro e wx ⟨rfl, hb⟩
  replace HB := Aside0.mk (below_step (by repeat (first | (with_reducible first | exact HB.out | apply below_alloc | apply pw_below_drewN | apply below_drew1) | exact HB.out)) hb)
  clear hb
  go_wp2_with fail
  refine (chapmanlaw02_quotient.calls (1) (0) (0) (3) _ (by decide +kernel)).mono ?_
  rintro e wx ⟨rfl, hb⟩
  replace HB := Aside0.mk (below_step (by repeat (first | (with_reducible first | exact HB.out | apply below_alloc | apply pw_below_drewN | apply below_drew1) | exact HB.out)) hb)
  clear hb
  go_wp2_with fail
  refine (chapmanlaw02_added.calls (1000000000000000) (1) (0) (2) _ (by decide +kernel)).mono ?_
  rintro e wx ⟨rfl, hb⟩
  replace HB := Aside0.mk (below_step (by repeat (first | (with_reducible first | exact HB.out | apply below_alloc | apply pw_below_drewN | apply below_drew1) | exact HB.out)) hb)
  clear hb
  go_wp2_with fail
  refine (chapmanlaw02_less.calls (5) (7) (-2) (0) _ (by decide +kernel)).mono ?_
  rintro e wx ⟨rfl, hb⟩
  replace HB := Aside0.mk (below_step (by repeat (first | (with_reducible first | exact HB.out | apply below_alloc | apply pw_below_drewN | apply below_drew1) | exact HB.out)) hb)
  clear hb
  go_wp2_with fail
  refine (chapmanlaw02_product.calls (1000000000000000) (2000000) (0) (2) _ (by decide +kernel)).mono ?_
  rintro e wx ⟨rfl, hb⟩
  replace HB := Aside0.mk (below_step (by repeat (first | (with_reducible first | exact HB.out | apply below_alloc | apply pw_below_drewN | apply below_drew1) | exact HB.out)) hb)
  clear hb
  go_wp2_with fail
  refine (decimal_Trunc.calls (-1999999) 0 (-1000000) _ (by first | exact hgl.below (by repeat (first | (with_reducible first | exact HB.out | apply below_alloc | apply pw_below_drewN | apply below_drew1) | exact HB.out))) (by decide +kernel)).mono ?_
  rintro e wx ⟨rfl, ⟨nd, rfl⟩⟩
  go_wp2_with fail
  refine (decimal_Cmp.calls 1 2 (-1) _ (by decide +kernel)).mono ?_
  rintro e wx ⟨rfl, ⟨nd, rfl⟩⟩
  go_wp2_with fail
  refine (decimal_Fits.calls 500000 1 true _ (by first | exact hgl.below (by repeat (first | (with_reducible first | exact HB.out | apply below_alloc | apply pw_below_drewN | apply below_drew1) | exact HB.out))) (by decide +kernel)).mono ?_
  rintro e wx ⟨rfl, ⟨nd, rfl⟩⟩
  go_wp2_with fail
  refine (decimal_Fits.calls 500000 0 false _ (by first | exact hgl.below (by repeat (first | (with_reducible first | exact HB.out | apply below_alloc | apply pw_below_drewN | apply below_drew1) | exact HB.out))) (by decide +kernel)).mono ?_
  rintro e wx ⟨rfl, ⟨nd, rfl⟩⟩
  go_wp2_with fail
  refine (decimal_Valid.calls (-1000000000000000) true _ (by decide +kernel)).mono ?_
  rintro e wx ⟨rfl, ⟨nd, rfl⟩⟩
  go_wp2_with fail
  refine (decimal_Valid.calls 1000000000000001 false _ (by decide +kernel)).mono ?_
  rintro e wx ⟨rfl, ⟨nd, rfl⟩⟩
  go_wp2_with fail
  refine (chapmanlaw02_sum.calls _ _ [4000000000000000000, 4000000000000000000, 4000000000000000000, -4000000000000000000, -4000000000000000000] 4000000000000000000 0 _ (kdC_new _ _ _ rfl (by decide)) (by decide) (by decide +kernel)).mono ?_
  rintro e wx ⟨rfl, hb⟩
  replace HB := Aside0.mk (below_step (by repeat (first | (with_reducible first | exact HB.out | apply below_alloc | apply pw_below_drewN | apply below_drew1) | exact HB.out)) hb)
  clear hb
  go_wp2_with fail
  refine (chapmanlaw02_sum.calls _ _ [4000000000000000000, 1] 0 2 _ (kdC_new _ _ _ rfl (by decide)) (by decide) (by decide +kernel)).mono ?_
  rintro e wx ⟨rfl, hb⟩
  replace HB := Aside0.mk (below_step (by repeat (first | (with_reducible first | exact HB.out | apply below_alloc | apply pw_below_drewN | apply below_drew1) | exact HB.out)) hb)
  clear hb
  go_wp2_with fail
  go_ret
  exact ⟨rfl, (by repeat (first | (with_reducible first | exact HB.out | apply below_alloc | apply pw_below_drewN | apply below_drew1) | exact HB.out))⟩
end Go.Proofs.YtckonpphagkfeaaGreatDoor.H
