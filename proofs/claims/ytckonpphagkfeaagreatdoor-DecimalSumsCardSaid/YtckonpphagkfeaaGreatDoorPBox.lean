/- A region that draws its order and holds values, boxes and what is put into them: what is known whatever has come up. -/
import Derived.Test.YtckonpphagkfeaaGreatDoorPInv
import Derived.Test.YtckonpphagkfeaaGreatDoorWWords
set_option linter.unusedVariables false
set_option linter.unusedSimpArgs false
namespace Go.Proofs.YtckonpphagkfeaaGreatDoor.Inv
open Go Go.RowKit Go.Proofs.YtckonpphagkfeaaGreatDoorW.PrintWords

/-- An operation that gives a value: its number, its slot, the value. -/
structure VO where
  i : Nat
  dst : Nat
  v : Value
/-- A box: the number of the operation that makes it, its slot, the number of the store into it, what it holds then, and ahead of it. -/
structure BX where
  ia : Nat
  dst : Nat
  is : Nat
  R : Array Value
  Z : Array Value
  T : TypeId
def ptr (g : Nat) : Value := .pointer (some ⟨g, 0, none⟩)
theorem ptr_inj {g g' : Nat} (h : ptr g = ptr g') : g = g' := by
  unfold ptr at h
  injection h with h
  injection h with h
  injection h
def idx (vs : List VO) (bs : List BX) : List Nat := vs.map (·.i) ++ (bs.map (·.ia) ++ bs.map (·.is))
def dsts (vs : List VO) (bs : List BX) : List Nat := vs.map (·.dst) ++ bs.map (·.dst)

structure St (W0 : World) (vs : List VO) (bs : List BX) (listed : Array Bool) (f : Nat → Option Value) (w : World) : Prop where
  off : ∀ n, n ∉ dsts vs bs → f n = none
  below : Below W0.heap.size W0 w
  val : ∀ o ∈ vs, listed.getD o.i false = true → f o.dst = some o.v
  box : ∀ b ∈ bs, listed.getD b.ia false = true → ∃ g, f b.dst = some (ptr g) ∧ W0.heap.size ≤ g ∧ w.heap[g]? = some (.cells (if listed.getD b.is false = true then b.R else b.Z) b.T (0, 0))
  new : ∀ b ∈ bs, listed.getD b.ia false = false → f b.dst = none
  ord : ∀ b ∈ bs, listed.getD b.is false = true → listed.getD b.ia false = true
  far : ∀ b ∈ bs, ∀ b' ∈ bs, b.dst ≠ b'.dst → ∀ g, f b.dst = some (ptr g) → f b'.dst ≠ some (ptr g)

theorem St.start (W0 : World) (vs : List VO) (bs : List BX) (n : Nat) : St W0 vs bs (Array.replicate n false) (fun _ => none) W0.drew := by
  have h : ∀ i, (Array.replicate n false).getD i false = false := fun i => by
    by_cases hi : i < n <;> simp [Array.getD, hi]
  refine ⟨fun _ _ => rfl, (Below.refl _ _).drew, ?_, ?_, fun _ _ _ => rfl, ?_, ?_⟩
  · intro o _ hl
    rw [h] at hl
    cases hl
  · intro o _ hl
    rw [h] at hl
    cases hl
  · intro o _ hl
    rw [h] at hl
    cases hl
  · intro _ _ _ _ _ g hg
    cases hg
theorem lt_of_open {listed : Array Bool} {i : Nat} (h : listed.getD i true = false) : i < listed.size ∧ listed.getD i false = false := by
  rcases Nat.lt_or_ge i listed.size with h' | h'
  · refine ⟨h', ?_⟩
    simp [Array.getD, h'] at h ⊢
    exact h
  · simp [Array.getD, Nat.not_lt.2 h'] at h
theorem getD_put {listed : Array Bool} {i : Nat} (hi : i < listed.size) (j : Nat) : (listed.setIfInBounds i true).getD j false = if j = i then true else listed.getD j false := by
  by_cases e : j = i
  · subst e
    simp [Array.getD, hi]
  · rw [if_neg e]
    exact getD_set_ne false (fun h => e h.symm)
section
variable {W0 w w' : World} {vs : List VO} {bs : List BX} {listed : Array Bool} {f : Nat → Option Value}
theorem apart_of_nodup {α β : Type} {g : α → Nat} {h : β → Nat} {l : List α} {m : List β} (hn : (l.map g ++ m.map h).Nodup) {a : α} {b : β} (ha : a ∈ l) (hb : b ∈ m) : g a ≠ h b :=
  fun e => (List.nodup_append.1 hn).2.2 _ (List.mem_map.2 ⟨a, ha, rfl⟩) _ (List.mem_map.2 ⟨b, hb, rfl⟩) e
theorem same_of_nodup {α : Type} {g : α → Nat} {l : List α} (hn : (l.map g).Nodup) {a b : α} (ha : a ∈ l) (hb : b ∈ l) (e : g a = g b) : a = b := by
  induction l with
  | nil => cases ha
  | cons x l ih =>
    rw [List.map_cons, List.nodup_cons] at hn
    rcases List.mem_cons.1 ha with h1 | h1
    · rcases List.mem_cons.1 hb with h2 | h2
      · rw [h1, h2]
      · exact absurd (List.mem_map.2 ⟨b, h2, by rw [← e, h1]⟩) hn.1
    · rcases List.mem_cons.1 hb with h2 | h2
      · exact absurd (List.mem_map.2 ⟨a, h1, by rw [e, h2]⟩) hn.1
      · exact ih hn.2 h1 h2
structure Ok (vs : List VO) (bs : List BX) : Prop where
  vi : (vs.map (·.i)).Nodup
  vd : (vs.map (·.dst)).Nodup
  bi : (bs.map (·.ia)).Nodup
  bd : (bs.map (·.dst)).Nodup
  bs' : (bs.map (·.is)).Nodup
  via : (vs.map (·.i) ++ bs.map (·.ia)).Nodup
  vis : (vs.map (·.i) ++ bs.map (·.is)).Nodup
  ias : (bs.map (·.ia) ++ bs.map (·.is)).Nodup
  vbd : (vs.map (·.dst) ++ bs.map (·.dst)).Nodup
theorem off_put {n : Nat} {v : Value} {d : Nat} (hd : d ∈ dsts vs bs) (h : ∀ n, n ∉ dsts vs bs → f n = none) (hn : n ∉ dsts vs bs) : (if n = d then some v else f n) = none := by
  rw [if_neg (by rintro rfl; exact hn hd)]
  exact h n hn
theorem St.value (hok : Ok vs bs) (hS : St W0 vs bs listed f w) {o : VO} (ho : o ∈ vs) (hi : o.i < listed.size) (hb : Below w.heap.size w w') :
    St W0 vs bs (listed.setIfInBounds o.i true) (fun n => if n = o.dst then some o.v else f n) w' := by
  have hdb : ∀ b ∈ bs, b.dst ≠ o.dst := fun b hb' e => apart_of_nodup hok.vbd ho hb' e.symm
  have hia : ∀ b ∈ bs, b.ia ≠ o.i := fun b hb' e => apart_of_nodup hok.via ho hb' e.symm
  have his : ∀ b ∈ bs, b.is ≠ o.i := fun b hb' e => apart_of_nodup hok.vis ho hb' e.symm
  refine ⟨fun n hn => off_put (by unfold dsts; exact List.mem_append.2 (.inl (List.mem_map.2 ⟨o, ho, rfl⟩))) hS.off hn, below_then hS.below hS.below.size hb, ?_, ?_, ?_, ?_, ?_⟩
  · intro o' ho' hl
    try dsimp only
    by_cases e : o'.i = o.i
    · have := same_of_nodup hok.vi ho' ho e
      subst this
      rw [if_pos rfl]
    · rw [getD_put hi, if_neg e] at hl
      by_cases e2 : o'.dst = o.dst
      · have := same_of_nodup hok.vd ho' ho e2
        subst this
        exact absurd rfl e
      · rw [if_neg e2]
        exact hS.val o' ho' hl
  · intro b hb' hl
    rw [getD_put hi, if_neg (hia b hb')] at hl
    obtain ⟨g, h1, h2, h3⟩ := hS.box b hb' hl
    refine ⟨g, by rw [if_neg (hdb b hb')]; exact h1, h2, ?_⟩
    rw [getD_put hi, if_neg (his b hb')]
    exact blk_below h3 hb
  · intro b hb' hl
    rw [getD_put hi, if_neg (hia b hb')] at hl
    try dsimp only
    rw [if_neg (hdb b hb')]
    exact hS.new b hb' hl
  · intro b hb' hl
    rw [getD_put hi, if_neg (his b hb')] at hl
    rw [getD_put hi, if_neg (hia b hb')]
    exact hS.ord b hb' hl
  · intro b hb1 b' hb2 hne g
    try dsimp only
    rw [if_neg (hdb b hb1), if_neg (hdb b' hb2)]
    exact hS.far b hb1 b' hb2 hne g
theorem St.alloc (hok : Ok vs bs) (hS : St W0 vs bs listed f w) {b : BX} (hb : b ∈ bs) (hl : listed.getD b.ia true = false) :
    St W0 vs bs (listed.setIfInBounds b.ia true) (fun n => if n = b.dst then some (ptr w.heap.size) else f n) (w.alloc (.cells b.Z b.T (0, 0))) := by
  obtain ⟨hi, hl0⟩ := lt_of_open hl
  have hia : ∀ o ∈ vs, o.i ≠ b.ia := fun o ho => apart_of_nodup hok.via ho hb
  have hdb : ∀ o ∈ vs, o.dst ≠ b.dst := fun o ho => apart_of_nodup hok.vbd ho hb
  have his : ∀ b' ∈ bs, b'.is ≠ b.ia := fun b' hb' e => apart_of_nodup hok.ias hb hb' e.symm
  have hsz := hS.below.size
  refine ⟨fun n hn => off_put (by unfold dsts; exact List.mem_append.2 (.inr (List.mem_map.2 ⟨b, hb, rfl⟩))) hS.off hn, hS.below.alloc hsz _, ?_, ?_, ?_, ?_, ?_⟩
  · intro o ho hlo
    rw [getD_put hi, if_neg (hia o ho)] at hlo
    try dsimp only
    rw [if_neg (hdb o ho)]
    exact hS.val o ho hlo
  · intro b' hb' hl'
    by_cases e : b'.ia = b.ia
    · have := same_of_nodup hok.bi hb' hb e
      subst this
      have hf : listed.getD b'.is false = false := by
        rw [Bool.eq_false_iff]
        intro h
        have := hS.ord b' hb' h
        rw [hl0] at this
        cases this
      refine ⟨w.heap.size, by rw [if_pos rfl], hsz, ?_⟩
      rw [getD_put hi, if_neg (his b' hb'), hf]
      exact blk_new w _
    · rw [getD_put hi, if_neg e] at hl'
      obtain ⟨g, h1, h2, h3⟩ := hS.box b' hb' hl'
      have hne : b'.dst ≠ b.dst := fun e2 => e (by rw [same_of_nodup hok.bd hb' hb e2])
      refine ⟨g, by rw [if_neg hne]; exact h1, h2, ?_⟩
      rw [getD_put hi, if_neg (his b' hb')]
      exact blk_alloc h3 _
  · intro b' hb' hl'
    rw [getD_put hi] at hl'
    by_cases e : b'.ia = b.ia
    · rw [if_pos e] at hl'
      cases hl'
    · rw [if_neg e] at hl'
      have hne : b'.dst ≠ b.dst := fun e2 => e (by rw [same_of_nodup hok.bd hb' hb e2])
      try dsimp only
      rw [if_neg hne]
      exact hS.new b' hb' hl'
  · intro b' hb' hl'
    rw [getD_put hi, if_neg (his b' hb')] at hl'
    rw [getD_put hi]
    split
    · rfl
    · exact hS.ord b' hb' hl'
  · have old : ∀ b' ∈ bs, ∀ g, f b'.dst = some (ptr g) → g ≠ w.heap.size := by
      intro b' hb' g hg
      by_cases hl' : listed.getD b'.ia false = true
      · obtain ⟨g', h1, h2, h3⟩ := hS.box b' hb' hl'
        rw [h1] at hg
        have := ptr_inj (Option.some.inj hg)
        subst this
        exact Nat.ne_of_lt (blk_lt h3)
      · have := hS.new b' hb' (by simpa using hl')
        rw [this] at hg
        cases hg
    intro b1 h1 b2 h2 hne g
    try dsimp only
    by_cases e1 : b1.dst = b.dst
    · rw [if_pos e1]
      have e2 : ¬ b2.dst = b.dst := fun e2 => hne (e1.trans e2.symm)
      rw [if_neg e2]
      intro hg hg2
      exact old b2 h2 g hg2 (ptr_inj (Option.some.inj hg)).symm
    · rw [if_neg e1]
      intro hg
      by_cases e2 : b2.dst = b.dst
      · rw [if_pos e2]
        intro hg2
        exact old b1 h1 g hg (ptr_inj (Option.some.inj hg2)).symm
      · rw [if_neg e2]
        exact hS.far b1 h1 b2 h2 hne g hg
theorem St.store (hok : Ok vs bs) (hS : St W0 vs bs listed f w) {b : BX} (hb : b ∈ bs) (hl : listed.getD b.is true = false) (ha : listed.getD b.ia false = true) {g : Nat} (hg : f b.dst = some (ptr g))
    (hnew : w'.heap[g]? = some (.cells b.R b.T (0, 0))) (hold : ∀ g', g' ≠ g → w'.heap[g']? = w.heap[g']?) (hbl : Below W0.heap.size W0 w') :
    St W0 vs bs (listed.setIfInBounds b.is true) f w' := by
  obtain ⟨hi, hl0⟩ := lt_of_open hl
  have hvi : ∀ o ∈ vs, o.i ≠ b.is := fun o ho => apart_of_nodup hok.vis ho hb
  have hia : ∀ b' ∈ bs, b'.ia ≠ b.is := fun b' hb' => apart_of_nodup hok.ias hb' hb
  refine ⟨hS.off, hbl, ?_, ?_, ?_, ?_, hS.far⟩
  · intro o ho hlo
    rw [getD_put hi, if_neg (hvi o ho)] at hlo
    exact hS.val o ho hlo
  · intro b' hb' hl'
    rw [getD_put hi, if_neg (hia b' hb')] at hl'
    by_cases e : b'.is = b.is
    · have := same_of_nodup hok.bs' hb' hb e
      subst this
      obtain ⟨g', h1, h2, h3⟩ := hS.box b' hb' hl'
      rw [hg] at h1
      have := ptr_inj (Option.some.inj h1)
      subst this
      refine ⟨g, hg, h2, ?_⟩
      rw [getD_put hi, if_pos rfl]
      exact hnew
    · obtain ⟨g', h1, h2, h3⟩ := hS.box b' hb' hl'
      have hne : g' ≠ g := by
        rintro rfl
        have hd : b.dst ≠ b'.dst := fun e2 => e (by rw [same_of_nodup hok.bd hb hb' e2])
        exact hS.far b hb b' hb' hd g' hg h1
      refine ⟨g', h1, h2, ?_⟩
      rw [getD_put hi, if_neg e, hold g' hne]
      exact h3
  · intro b' hb' hl'
    rw [getD_put hi, if_neg (hia b' hb')] at hl'
    exact hS.new b' hb' hl'
  · intro b' hb' hl'
    rw [getD_put hi] at hl'
    rw [getD_put hi, if_neg (hia b' hb')]
    by_cases e : b'.is = b.is
    · have := same_of_nodup hok.bs' hb' hb e
      subst this
      exact ha
    · rw [if_neg e] at hl'
      exact hS.ord b' hb' hl'
end
end Go.Proofs.YtckonpphagkfeaaGreatDoor.Inv
