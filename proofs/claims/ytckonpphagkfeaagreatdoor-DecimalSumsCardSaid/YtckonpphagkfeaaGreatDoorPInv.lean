/- A region that draws its order, by an invariant on what has come up: one step for each operation, whatever the order. -/
import Derived.Orders
import Derived.RegionTactic
import Derived.WalkKit
import Derived.BigQuiet
set_option linter.unusedVariables false
set_option linter.unusedSimpArgs false
namespace Go.Proofs.YtckonpphagkfeaaGreatDoor.Inv
open Go

section
variable {P : Program} {ops : Array Oper} {Q : Exit → Act → World → Prop} {md : Region.Mode}

/-- A region each of whose operations gives one value in every world of a class, and leaves a world of the class: one walk, in the order of the text. -/
theorem wp_region_class {id : Nat} {a : Act} {w : World} {l : List Oper} (C : World → Prop) (hm : P.follows .mixedOrders = true) (hB : Region.lexB .any l.toArray = true) (hC : C w.drew)
    (h : wpQuiet P l.toArray C (fun a' => ∀ w', C w' → Q .normal a' w') l a) : (Code.region id l.toArray true).wp P Q a w :=
  wp_region_quiet (C := C) hm hB hC (by simpa using h)
/-- How many of the first operations have not come up. -/
def left (listed : Array Bool) : Nat → Nat
  | 0 => 0
  | n + 1 => left listed n + (if listed.getD n true = true then 0 else 1)
theorem left_pos {listed : Array Bool} {i : Nat} (h : listed.getD i true = false) : ∀ n, i < n → 0 < left listed n
  | 0, hi => absurd hi (Nat.not_lt_zero _)
  | n + 1, hi => by
    unfold left
    by_cases e : i = n
    · subst e
      rw [h]; simp
    · have := left_pos h n (by omega)
      omega
theorem left_set {listed : Array Bool} {i : Nat} (h : listed.getD i true = false) : ∀ n, left (listed.setIfInBounds i true) n = left listed n - (if i < n then 1 else 0) ∧ (i < n → 0 < left listed n)
  | 0 => by simp [left]
  | n + 1 => by
    obtain ⟨h1, h2⟩ := left_set h n
    have hi : i < listed.size := by
      rcases Nat.lt_or_ge i listed.size with h' | h'
      · exact h'
      · simp [Array.getD, Nat.not_lt.2 h'] at h
    refine ⟨?_, fun hi' => left_pos h (n + 1) hi'⟩
    unfold left
    by_cases e : i = n
    · subst e
      have hs : (listed.setIfInBounds i true).getD i true = true := by simp [Array.getD, hi]
      rw [h1, hs, h, if_neg (Nat.lt_irrefl i), if_pos (Nat.lt_succ_self i)]
      simp
    · have hs : (listed.setIfInBounds i true).getD n true = listed.getD n true := getD_set_ne true e
      rw [h1, hs]
      by_cases hlt : i < n
      · have := h2 hlt
        have h3 : i < n + 1 := by omega
        simp only [hlt, h3, if_true]
        omega
      · have h3 : ¬ i < n + 1 := by omega
        simp only [hlt, h3, if_false]
        omega
theorem wpAny_inv (I : Array Bool → Act → World → Prop)
    (done : ∀ listed a w, I listed a w → Region.ready md ops listed = [] → Q .normal a w)
    (step : ∀ listed a w i, I listed a w → i ∈ Region.ready md ops listed → wpOp P ops Q i (fun a' w' => I (listed.setIfInBounds i true) a' w') a w) :
    ∀ (fuel : Nat) (listed : Array Bool) (a : Act) (w : World), left listed ops.size ≤ fuel → I listed a w → wpAny P md ops Q fuel listed a w := by
  intro fuel
  induction fuel with
  | zero =>
    intro listed a w hl hI
    have hr : Region.ready md ops listed = [] := by
      cases hr : Region.ready md ops listed with
      | nil => rfl
      | cons i rs =>
        have hm : i ∈ Region.ready md ops listed := by rw [hr]; exact List.mem_cons_self
        obtain ⟨h1, o, ho, _⟩ := mem_ready.1 hm
        have hi : i < ops.size := (Array.getElem?_eq_some_iff.1 ho).1
        have := left_pos h1 ops.size hi
        omega
    exact ⟨hr, done _ _ _ hI hr⟩
  | succ fuel ih =>
    intro listed a w hl hI
    refine ⟨fun hr => done _ _ _ hI hr, fun i hm => ?_⟩
    obtain ⟨h1, o, ho, _⟩ := mem_ready.1 hm
    have hi : i < ops.size := (Array.getElem?_eq_some_iff.1 ho).1
    have hs := (left_set h1 ops.size).1
    have hp := left_pos h1 ops.size hi
    rw [if_pos hi] at hs
    exact wpOp_mono (fun a' w' h' => ih _ a' w' (by omega) h') (step listed a w i hI hm)
/-- The region, by an invariant that holds when nothing has come up. -/
theorem wp_region_inv {id : Nat} {a : Act} {w : World} (hm : P.follows .mixedOrders = true) (I : Array Bool → Act → World → Prop)
    (start : I (Array.replicate ops.size false) a w.drew)
    (step : ∀ listed a w i, I listed a w → i ∈ Region.ready .any ops listed → wpOp P ops Q i (fun a' w' => I (listed.setIfInBounds i true) a' w') a w)
    (done : ∀ listed a w, I listed a w → Region.ready .any ops listed = [] → Q .normal a w) : (Code.region id ops true).wp P Q a w := by
  refine wp_region_any hm (wpAny_inv I done step ops.size _ a _ ?_ start)
  have : ∀ (l : Array Bool) n, left l n ≤ n := by
    intro l n
    induction n with
    | zero => exact Nat.le_refl _
    | succ n ih => unfold left; split <;> omega
  exact this _ _
theorem step_value {i : Nat} {o : Oper} {a : Act} {w w' : World} {v : Value} {K : Act → World → Prop} (ho : ops[i]? = some o) (hg : o.guard = none) (hr : (execOp a.eval o).run P w = .ok (.value v) w') (hK : K (a.put o.dst v) w') : wpOp P ops Q i K a w := by
  unfold wpOp
  simp only [ho]
  rw [if_pos (by unfold Region.wanted; rw [hg])]
  refine .inl ?_
  unfold Oper.wp
  rw [hr]
  exact hK
theorem step_skip {i : Nat} {o : Oper} {a : Act} {w w' : World} {K : Act → World → Prop} (ho : ops[i]? = some o) (hg : o.guard = none) (hr : (execOp a.eval o).run P w = .ok .skip w') (hK : K (a.put o.dst undef) w') : wpOp P ops Q i K a w := by
  unfold wpOp
  simp only [ho]
  rw [if_pos (by unfold Region.wanted; rw [hg])]
  refine .inl ?_
  unfold Oper.wp
  rw [hr]
  exact hK
theorem step_enter {i : Nat} {o : Oper} {a : Act} {w w' : World} {f : FuncId} {args : Array Value} {K : Act → World → Prop} (ho : ops[i]? = some o) (hg : o.guard = none) (hr : (execOp a.eval o).run P w = .ok (.enter f args) w')
    (hK : Calls P f args w' fun e w'' => ∃ v, e = .returned v ∧ K (a.put o.dst v) w'') : wpOp P ops Q i K a w := by
  unfold wpOp
  simp only [ho]
  rw [if_pos (by unfold Region.wanted; rw [hg])]
  refine .inl ?_
  unfold Oper.wp
  rw [hr, Oper.upon_enter]
  refine hK.mono fun e w'' h => ?_
  obtain ⟨v, rfl, h⟩ := h
  exact h
theorem step_wanted {i : Nat} {o : Oper} {a : Act} {w w' : World} {v : Value} {K : Act → World → Prop} (ho : ops[i]? = some o) (hg : Region.wanted o (yielded ops a.tmps) = true) (hr : (execOp a.eval o).run P w = .ok (.value v) w') (hK : K (a.put o.dst v) w') : wpOp P ops Q i K a w := by
  unfold wpOp
  simp only [ho]
  rw [if_pos hg]
  refine .inl ?_
  unfold Oper.wp
  rw [hr]
  exact hK
theorem step_if {i : Nat} {o : Oper} {a : Act} {w : World} {K : Act → World → Prop} (ho : ops[i]? = some o) (h : if Region.wanted o (yielded ops a.tmps) = true then Oper.wp P o a w K Q else K (a.put o.dst undef) w) : wpOp P ops Q i K a w := by
  unfold wpOp
  simp only [ho]
  split
  · rename_i hw
    rw [if_pos hw] at h
    exact .inl h
  · rename_i hw
    rw [if_neg hw] at h
    exact h
/-- An operation has come up only behind those that it waits for. -/
theorem waits {listed : Array Bool} {i j : Nat} {o : Oper} (hi : i ∈ Region.ready md ops listed) (ho : ops[i]? = some o) (hj : (o.after.toList.any fun e => e.on == j && Region.binds md e) = true) : listed.getD j false = true := by
  obtain ⟨_, o', ho', hall⟩ := mem_ready.1 hi
  rw [ho] at ho'
  obtain rfl := Option.some.inj ho'
  obtain ⟨e, he, hb⟩ := List.any_eq_true.1 hj
  rw [Bool.and_eq_true, beq_iff_eq] at hb
  rw [← hb.1]
  exact hall e (by simpa using he) hb.2
/-- Where nothing can come up any more, all has come up. -/
theorem all_up {listed : Array Bool} (hz : listed.size = ops.size) (hr : Region.ready md ops listed = [])
    (htop : ((List.range ops.size).all fun i => match ops[i]? with | some o => o.after.toList.all fun e => decide (e.on < i) | none => true) = true) : ∀ n i, i < n → i < ops.size → listed.getD i false = true := by
  intro n
  induction n with
  | zero => intro i h; omega
  | succ n ih =>
    intro i hin hi
    cases hf : listed.getD i false
    case true => rfl
    exfalso
    have hm : i ∈ Region.ready md ops listed := by
      refine mem_ready.2 ⟨?_, ops[i], Array.getElem?_eq_getElem hi, ?_⟩
      · have : i < listed.size := by omega
        simp [Array.getD, this] at hf ⊢
        exact hf
      · intro e he _
        have h1 := List.all_eq_true.1 htop i (List.mem_range.2 hi)
        rw [Array.getElem?_eq_getElem hi] at h1
        have h2 := of_decide_eq_true (List.all_eq_true.1 h1 e (by simpa using he))
        exact ih e.on (by omega) (by omega)
    rw [hr] at hm
    cases hm
end

/-- A frame, over which some slots hold something else. -/
def over (A : Act) (f : Nat → Option Value) : Act := { A with tmps := A.tmps.mapIdx fun i v => (f i).getD v }
theorem over_none (A : Act) : over A (fun _ => none) = A := by
  unfold over
  cases A
  simp only [Act.mk.injEq, and_true]
  apply Array.ext
  · simp
  · intro i h1 h2
    simp
theorem over_put (A : Act) (f : Nat → Option Value) (n : Nat) (v : Value) : (over A f).put (some n) v = over A (fun i => if i = n then some v else f i) := by
  unfold over Act.put
  simp only [Act.mk.injEq, and_true]
  apply Array.ext
  · simp
  · intro i h1 h2
    simp only [Array.getElem_setIfInBounds, Array.getElem_mapIdx]
    by_cases e : n = i
    · subst e; simp
    · have e' : ¬ i = n := fun h => e h.symm
      rw [if_neg e', Array.getElem_setIfInBounds_ne (by simpa using h2) e, Array.getElem_mapIdx]
theorem over_eval_some {A : Act} {f : Nat → Option Value} {n : Nat} {v : Value} (h : f n = some v) (hn : n < A.tmps.size) : (over A f).eval (.tmp n) = v := by
  simp [over, Act.eval, Array.getD, hn, h]
theorem over_eval_none {A : Act} {f : Nat → Option Value} {n : Nat} (h : f n = none) : (over A f).eval (.tmp n) = A.eval (.tmp n) := by
  by_cases hn : n < A.tmps.size
  · simp [over, Act.eval, Array.getD, hn, h]
  · simp [over, Act.eval, Array.getD, hn]
/-- A guard that holds. -/
theorem wanted_of {ops : Array Oper} {A : Act} {f : Nat → Option Value} {o : Oper} {j d : Nat} {b : Bool} (hg : o.guard = some (j, b)) (hj : (ops[j]?).bind (·.dst) = some d) (hf : f d = some (.bool b)) (hd : d < A.tmps.size) : Region.wanted o (yielded ops (over A f).tmps) = true := by
  unfold Region.wanted yielded
  rw [hg]
  simp only [hj, Option.bind_some, over]
  rw [Array.getElem?_mapIdx, Array.getElem?_eq_getElem hd]
  simp [hf]
theorem over_congr {A : Act} {f g : Nat → Option Value} (h : ∀ i, f i = g i) : over A f = over A g := by
  have : f = g := funext h
  rw [this]
end Go.Proofs.YtckonpphagkfeaaGreatDoor.Inv
