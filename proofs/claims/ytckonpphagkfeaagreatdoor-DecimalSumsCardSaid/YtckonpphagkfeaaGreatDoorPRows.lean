/- Plain facts on the last region of the law of sums: rows that are made and appended to in whatever order. -/
import Derived.Test.YtckonpphagkfeaaGreatDoorPBox
import Derived.Test.YtckonpphagkfeaaGreatDoorHGl
set_option linter.unusedVariables false
set_option linter.unusedSimpArgs false
namespace Go.Proofs.YtckonpphagkfeaaGreatDoor.H
open Go.RowKit Go.Proofs.YtckonpphagkfeaaGreatDoorW.PrintWords

/-! ### The last region: rows that are made and appended to in whatever order -/
theorem R_ok {e : Nat} {w : World} {base : Nat} {ok ok' : Nat → Prop} {v : Value} {xs : List Int} (h : Kd.R (Kd.int .i64) e w base ok v xs) (hs : ∀ k, v.ownBlock = some k → ok' k) : Kd.R (Kd.int .i64) e w base ok' v xs := ⟨hs, h.2⟩
def v19 (vA rU : Value) : List Inv.VO := [⟨1, 153, vA⟩, ⟨5, 157, rU⟩, ⟨6, 158, rU⟩, ⟨7, 159, .bool true⟩, ⟨8, 160, .bool true⟩, ⟨9, 161, .bool true⟩, ⟨10, 162, .bool true⟩, ⟨11, 6, .bool true⟩]
def d19 : List Nat := [6, 152, 153, 154, 155, 156, 157, 158, 159, 160, 161, 162]
theorem v19_i {vA rU : Value} {o : Inv.VO} (h : o ∈ v19 vA rU) : o.i ≠ 0 ∧ o.i ≠ 2 ∧ o.i ≠ 3 ∧ o.i ≠ 4 ∧ o.dst ≠ 152 ∧ o.dst ≠ 154 ∧ o.dst ≠ 155 ∧ o.dst ≠ 156 ∧ o.dst ∈ d19 := by
  simp only [v19, List.mem_cons, List.not_mem_nil, or_false] at h
  rcases h with rfl | rfl | rfl | rfl | rfl | rfl | rfl | rfl <;> simp [d19]
theorem v19_same {vA rU : Value} {o o' : Inv.VO} (h : o ∈ v19 vA rU) (h' : o' ∈ v19 vA rU) (e : o.i = o'.i ∨ o.dst = o'.dst) : o = o' := by
  have n1 : ((v19 vA rU).map (·.i)).Nodup := by show List.Nodup [1, 5, 6, 7, 8, 9, 10, 11]; decide
  have n2 : ((v19 vA rU).map (·.dst)).Nodup := by show List.Nodup [153, 157, 158, 159, 160, 161, 162, 6]; decide
  rcases e with e | e
  · exact Inv.same_of_nodup n1 h h' e
  · exact Inv.same_of_nodup n2 h h' e
structure S19 (wE : World) (vA rU : Value) (l : List Int) (listed : Array Bool) (f : Nat → Option Value) (W : World) : Prop where
  off : ∀ n, n ∉ d19 → f n = none
  below : Below wE.heap.size wE W
  val : ∀ o ∈ v19 vA rU, listed.getD o.i false = true → f o.dst = some o.v
  some0 : listed.getD 0 false = true → ∃ v, f 152 = some v
  some2 : listed.getD 2 false = true → ∃ v, f 154 = some v
  some3 : listed.getD 3 false = true → ∃ v, f 155 = some v
  ord2 : listed.getD 2 false = true → listed.getD 0 false = true
  ord4 : listed.getD 4 false = true → listed.getD 2 false = true ∧ listed.getD 3 false = true
  rows : listed.getD 4 false = false → ∃ vr vz, Kd.R (Kd.int .i64) 3 W wE.heap.size (fun _ => True) vr (if listed.getD 2 false = true then l else []) ∧ Kd.R (Kd.int .i64) 3 W wE.heap.size (fun _ => True) vz (if listed.getD 3 false = true then [0] else []) ∧
    (∀ k, vr.ownBlock = some k → vz.ownBlock ≠ some k) ∧ (listed.getD 2 false = true → f 154 = some vr) ∧ (listed.getD 0 false = true → listed.getD 2 false = false → f 152 = some vr) ∧ (listed.getD 3 false = true → f 155 = some vz)
  last : listed.getD 4 false = true → ∃ vs, f 156 = some vs ∧ Kd.R (Kd.int .i64) 3 W wE.heap.size (fun _ => True) vs (l ++ [0])
section
variable {wE W W' : World} {vA rU : Value} {l : List Int} {listed : Array Bool} {f : Nat → Option Value}
theorem S19.start (wE : World) (vA rU : Value) (l : List Int) : S19 wE vA rU l (Array.replicate 12 false) (fun _ => none) wE.drew := by
  have h : ∀ i, (Array.replicate 12 false).getD i false = false := fun i => by
    by_cases hi : i < 12 <;> simp [Array.getD, hi]
  refine ⟨fun _ _ => rfl, (Below.refl _ _).drew, ?_, ?_, ?_, ?_, ?_, ?_, ?_, ?_⟩
  · intro o _ hl; rw [h] at hl; cases hl
  · intro hl; rw [h] at hl; cases hl
  · intro hl; rw [h] at hl; cases hl
  · intro hl; rw [h] at hl; cases hl
  · intro hl; rw [h] at hl; cases hl
  · intro hl; rw [h] at hl; cases hl
  · intro _
    refine ⟨.slice none 0 0, .slice none 0 0, ?_, ?_, ?_, ?_, ?_, ?_⟩
    · rw [h]; exact Kd.R_nil _ _ _ _ _
    · rw [h]; exact Kd.R_nil _ _ _ _ _
    · intro k hk; simp [Value.ownBlock] at hk
    · intro hl; rw [h] at hl; cases hl
    · intro hl; rw [h] at hl; cases hl
    · intro hl; rw [h] at hl; cases hl
  · intro hl; rw [h] at hl; cases hl
theorem S19.value (hS : S19 wE vA rU l listed f W) {o : Inv.VO} (ho : o ∈ v19 vA rU) (hi : o.i < listed.size) (hb : Below W.heap.size W W') :
    S19 wE vA rU l (listed.setIfInBounds o.i true) (fun n => if n = o.dst then some o.v else f n) W' := by
  obtain ⟨i0, i2, i3, i4, e0, e2, e3, e4, hd⟩ := v19_i ho
  refine ⟨?_, below_then hS.below hS.below.size hb, ?_, ?_, ?_, ?_, ?_, ?_, ?_, ?_⟩
  · intro n hn
    rw [if_neg (by rintro rfl; exact hn hd)]
    exact hS.off n hn
  · intro o' ho' hl
    by_cases e : o'.dst = o.dst
    · rw [if_pos e, v19_same ho' ho (.inr e)]
    · rw [if_neg e]
      refine hS.val o' ho' ?_
      rw [Inv.getD_put hi, if_neg (fun e1 => e (by rw [v19_same ho' ho (.inl e1)]))] at hl
      exact hl
  · intro hl
    rw [Inv.getD_put hi, if_neg (Ne.symm i0)] at hl
    rw [if_neg (Ne.symm e0)]
    exact hS.some0 hl
  · intro hl
    rw [Inv.getD_put hi, if_neg (Ne.symm i2)] at hl
    rw [if_neg (Ne.symm e2)]
    exact hS.some2 hl
  · intro hl
    rw [Inv.getD_put hi, if_neg (Ne.symm i3)] at hl
    rw [if_neg (Ne.symm e3)]
    exact hS.some3 hl
  · intro hl
    rw [Inv.getD_put hi, if_neg (Ne.symm i2)] at hl
    rw [Inv.getD_put hi, if_neg (Ne.symm i0)]
    exact hS.ord2 hl
  · intro hl
    rw [Inv.getD_put hi, if_neg (Ne.symm i4)] at hl
    rw [Inv.getD_put hi, Inv.getD_put hi, if_neg (Ne.symm i2), if_neg (Ne.symm i3)]
    exact hS.ord4 hl
  · intro hl
    rw [Inv.getD_put hi, if_neg (Ne.symm i4)] at hl
    obtain ⟨vr, vz, r1, r2, r3, r4, r5, r6⟩ := hS.rows hl
    rw [Inv.getD_put hi, Inv.getD_put hi, Inv.getD_put hi, if_neg (Ne.symm i2), if_neg (Ne.symm i3), if_neg (Ne.symm i0), if_neg (Ne.symm e0), if_neg (Ne.symm e2), if_neg (Ne.symm e3)]
    exact ⟨vr, vz, Kd.R_below r1 hb, Kd.R_below r2 hb, r3, r4, r5, r6⟩
  · intro hl
    rw [Inv.getD_put hi, if_neg (Ne.symm i4)] at hl
    obtain ⟨vs, h1, h2⟩ := hS.last hl
    rw [if_neg (Ne.symm e4)]
    exact ⟨vs, h1, Kd.R_below h2 hb⟩
theorem S19.val_keep (hS : S19 wE vA rU l listed f W) {i d : Nat} {v : Value} (hi : i < listed.size) (h : i = 0 ∧ d = 152 ∨ i = 2 ∧ d = 154 ∨ i = 3 ∧ d = 155 ∨ i = 4 ∧ d = 156) : ∀ o ∈ v19 vA rU, (listed.setIfInBounds i true).getD o.i false = true → (if o.dst = d then some v else f o.dst) = some o.v := by
  intro o ho hl
  obtain ⟨i0, i2, i3, i4, e0, e2, e3, e4, hd⟩ := v19_i ho
  have h1 : o.i ≠ i := by rcases h with ⟨rfl, _⟩ | ⟨rfl, _⟩ | ⟨rfl, _⟩ | ⟨rfl, _⟩ <;> assumption
  have h2 : o.dst ≠ d := by rcases h with ⟨_, rfl⟩ | ⟨_, rfl⟩ | ⟨_, rfl⟩ | ⟨_, rfl⟩ <;> assumption
  rw [Inv.getD_put hi, if_neg h1] at hl
  rw [if_neg h2]
  exact hS.val o ho hl
theorem S19.not4 (hS : S19 wE vA rU l listed f W) (h : listed.getD 2 false = false ∨ listed.getD 3 false = false) : listed.getD 4 false = false := by
  rw [Bool.eq_false_iff]
  intro h4
  obtain ⟨h2, h3⟩ := hS.ord4 h4
  rcases h with h | h
  · rw [h] at h2; cases h2
  · rw [h] at h3; cases h3
theorem S19.lit0 (hS : S19 wE vA rU l listed f W) (hl : listed.getD 0 true = false) {v1 : Value} (hr : Kd.R (Kd.int .i64) 3 W' wE.heap.size (fun _ => True) v1 []) (hb : Below wE.heap.size wE W') (hg : W.grownBy W' none) (hn : ∃ b, v1.ownBlock = some b ∧ W.heap.size ≤ b) :
    S19 wE vA rU l (listed.setIfInBounds 0 true) (fun n => if n = 152 then some v1 else f n) W' := by
  obtain ⟨hi, hl0⟩ := Inv.lt_of_open hl
  have h2 : listed.getD 2 false = false := by
    rw [Bool.eq_false_iff]
    intro h
    have := hS.ord2 h
    rw [hl0] at this
    cases this
  have h4 := hS.not4 (.inl h2)
  obtain ⟨vr, vz, r1, r2, r3, r4, r5, r6⟩ := hS.rows h4
  refine ⟨?_, hb, hS.val_keep hi (.inl ⟨rfl, rfl⟩), fun _ => ⟨v1, rfl⟩, ?_, ?_, ?_, ?_, ?_, ?_⟩
  · intro n hn
    rw [if_neg (by rintro rfl; exact hn (by decide))]
    exact hS.off n hn
  · intro hl'
    rw [Inv.getD_put hi, if_neg (by decide), h2] at hl'
    cases hl'
  · intro hl'
    rw [Inv.getD_put hi, if_neg (by decide)] at hl'
    exact hS.some3 hl'
  · intro _
    rw [Inv.getD_put hi, if_pos rfl]
  · intro hl'
    rw [Inv.getD_put hi, if_neg (by decide), h4] at hl'
    cases hl'
  · intro _
    have k2 : (listed.setIfInBounds 0 true).getD 2 false = false := by rw [Inv.getD_put hi, if_neg (by decide)]; exact h2
    have k3 : (listed.setIfInBounds 0 true).getD 3 false = listed.getD 3 false := by rw [Inv.getD_put hi, if_neg (by decide)]
    rw [k2, k3]
    refine ⟨v1, vz, by rw [if_neg Bool.false_ne_true]; exact hr, Kd.R_grown r2 hg (fun _ _ => by simp), ?_, (fun h => absurd h Bool.false_ne_true), fun _ _ => rfl, fun h3 => r6 h3⟩
    intro k hk hk2
    obtain ⟨b, hb1, hb2⟩ := hn
    rw [hb1] at hk
    have := Kd.R_lt r2 k hk2
    have : b = k := by simpa using hk
    omega
  · intro hl'
    rw [Inv.getD_put hi, if_neg (by decide), h4] at hl'
    cases hl'
theorem S19.lit3 (hS : S19 wE vA rU l listed f W) (hl : listed.getD 3 true = false) {v1 : Value} (hr : Kd.R (Kd.int .i64) 3 W' wE.heap.size (fun _ => True) v1 [0]) (hb : Below wE.heap.size wE W') (hg : W.grownBy W' none) (hn : ∃ b, v1.ownBlock = some b ∧ W.heap.size ≤ b) :
    S19 wE vA rU l (listed.setIfInBounds 3 true) (fun n => if n = 155 then some v1 else f n) W' := by
  obtain ⟨hi, hl0⟩ := Inv.lt_of_open hl
  have h4 := hS.not4 (.inr hl0)
  obtain ⟨vr, vz, r1, r2, r3, r4, r5, r6⟩ := hS.rows h4
  refine ⟨?_, hb, hS.val_keep hi (.inr (.inr (.inl ⟨rfl, rfl⟩))), ?_, ?_, fun _ => ⟨v1, rfl⟩, ?_, ?_, ?_, ?_⟩
  · intro n hn
    rw [if_neg (by rintro rfl; exact hn (by decide))]
    exact hS.off n hn
  · intro hl'
    rw [Inv.getD_put hi, if_neg (by decide)] at hl'
    exact hS.some0 hl'
  · intro hl'
    rw [Inv.getD_put hi, if_neg (by decide)] at hl'
    exact hS.some2 hl'
  · intro hl'
    rw [Inv.getD_put hi, if_neg (by decide)] at hl'
    rw [Inv.getD_put hi, if_neg (by decide)]
    exact hS.ord2 hl'
  · intro hl'
    rw [Inv.getD_put hi, if_neg (by decide), h4] at hl'
    cases hl'
  · intro _
    have k2 : (listed.setIfInBounds 3 true).getD 2 false = listed.getD 2 false := by rw [Inv.getD_put hi, if_neg (by decide)]
    have k3 : (listed.setIfInBounds 3 true).getD 3 false = true := by rw [Inv.getD_put hi, if_pos rfl]
    have k0 : (listed.setIfInBounds 3 true).getD 0 false = listed.getD 0 false := by rw [Inv.getD_put hi, if_neg (by decide)]
    rw [k2, k3, k0]
    refine ⟨vr, v1, Kd.R_grown r1 hg (fun _ _ => by simp), by rw [if_pos rfl]; exact hr, ?_, r4, r5, fun _ => rfl⟩
    intro k hk hk2
    obtain ⟨b, hb1, hb2⟩ := hn
    rw [hb1] at hk2
    have := Kd.R_lt r1 k hk
    have : b = k := by simpa using hk2
    omega
  · intro hl'
    rw [Inv.getD_put hi, if_neg (by decide), h4] at hl'
    cases hl'
theorem S19.app2 (hS : S19 wE vA rU l listed f W) (hl : listed.getD 2 true = false) (h0 : listed.getD 0 false = true) {vr vz v1 : Value} (r2 : Kd.R (Kd.int .i64) 3 W wE.heap.size (fun _ => True) vz (if listed.getD 3 false = true then [0] else [])) (r3 : ∀ k, vr.ownBlock = some k → vz.ownBlock ≠ some k) (r6 : listed.getD 3 false = true → f 155 = some vz)
    (hr : Kd.R (Kd.int .i64) 3 W' wE.heap.size (fun k => some k ≠ vz.ownBlock) v1 ([] ++ l)) (hb : Below wE.heap.size wE W') (hg : W.grownBy W' vr.ownBlock) :
    S19 wE vA rU l (listed.setIfInBounds 2 true) (fun n => if n = 154 then some v1 else f n) W' := by
  obtain ⟨hi, hl0⟩ := Inv.lt_of_open hl
  have h4 := hS.not4 (.inl hl0)
  refine ⟨?_, hb, hS.val_keep hi (.inr (.inl ⟨rfl, rfl⟩)), ?_, fun _ => ⟨v1, rfl⟩, ?_, ?_, ?_, ?_, ?_⟩
  · intro n hn
    rw [if_neg (by rintro rfl; exact hn (by decide))]
    exact hS.off n hn
  · intro hl'
    rw [Inv.getD_put hi, if_neg (by decide)] at hl'
    exact hS.some0 hl'
  · intro hl'
    rw [Inv.getD_put hi, if_neg (by decide)] at hl'
    exact hS.some3 hl'
  · intro _
    rw [Inv.getD_put hi, if_neg (by decide)]
    exact h0
  · intro hl'
    rw [Inv.getD_put hi, if_neg (by decide), h4] at hl'
    cases hl'
  · intro _
    have k2 : (listed.setIfInBounds 2 true).getD 2 false = true := by rw [Inv.getD_put hi, if_pos rfl]
    have k3 : (listed.setIfInBounds 2 true).getD 3 false = listed.getD 3 false := by rw [Inv.getD_put hi, if_neg (by decide)]
    rw [k2, k3]
    refine ⟨v1, vz, by rw [if_pos rfl]; exact R_ok hr (fun _ _ => trivial), Kd.R_grown (R_ok r2 (ok' := fun k => vz.ownBlock = some k) (fun k hk => hk)) hg ?_ |> fun h => R_ok h (fun _ _ => trivial), ?_, fun _ => rfl, (fun _ h => absurd h.symm Bool.false_ne_true), fun h3 => r6 h3⟩
    · intro k hk hk2
      exact r3 k hk2.symm hk
    · intro k hk hk2
      exact hr.1 k hk hk2.symm
  · intro hl'
    rw [Inv.getD_put hi, if_neg (by decide), h4] at hl'
    cases hl'
theorem S19.app4 (hS : S19 wE vA rU l listed f W) (hl : listed.getD 4 true = false) (h2 : listed.getD 2 false = true) (h3 : listed.getD 3 false = true) {v1 : Value} {ok : Nat → Prop} (hr : Kd.R (Kd.int .i64) 3 W' wE.heap.size ok v1 (l ++ [0])) (hb : Below wE.heap.size wE W') :
    S19 wE vA rU l (listed.setIfInBounds 4 true) (fun n => if n = 156 then some v1 else f n) W' := by
  obtain ⟨hi, hl0⟩ := Inv.lt_of_open hl
  refine ⟨?_, hb, hS.val_keep hi (.inr (.inr (.inr ⟨rfl, rfl⟩))), ?_, ?_, ?_, ?_, ?_, ?_, ?_⟩
  · intro n hn
    rw [if_neg (by rintro rfl; exact hn (by decide))]
    exact hS.off n hn
  · intro hl'
    rw [Inv.getD_put hi, if_neg (by decide)] at hl'
    exact hS.some0 hl'
  · intro hl'
    rw [Inv.getD_put hi, if_neg (by decide)] at hl'
    exact hS.some2 hl'
  · intro hl'
    rw [Inv.getD_put hi, if_neg (by decide)] at hl'
    exact hS.some3 hl'
  · intro hl'
    rw [Inv.getD_put hi, if_neg (by decide)] at hl'
    rw [Inv.getD_put hi, if_neg (by decide)]
    exact hS.ord2 hl'
  · intro _
    rw [Inv.getD_put hi, Inv.getD_put hi, if_neg (by decide), if_neg (by decide)]
    exact ⟨h2, h3⟩
  · intro hl'
    rw [Inv.getD_put hi, if_pos rfl] at hl'
    cases hl'
  · intro _
    exact ⟨v1, rfl, R_ok hr (fun _ _ => trivial)⟩
end
end Go.Proofs.YtckonpphagkfeaaGreatDoor.H
