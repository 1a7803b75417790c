/- What is known, all through a run, of the package-level variables that the code reads: the tables hold what start-up laid, and a world that goes on from such a world keeps it. -/
import Derived.Test.YtckonpphagkfeaaGreatDoorProg
import Derived.WalkKit
import Derived.WalkSmall
import Derived.KernelRfl
import Derived.Lib.LaidTab
import Derived.Lib.ItoaMem
namespace Go.Proofs.YtckonpphagkfeaaGreatDoor.H
open Go.RowKit

/-- The sizes of the last decimal place, by scale. -/
def stepsTab : List Int := [1000000, 100000, 10000, 1000, 100, 10, 1]

/-- A world in which the listed variables hold what start-up laid. -/
structure Base (w : World) : Prop where
  steps : Lib.TabIs Tryz.prog w "chapman/decimal.steps" .i64 stepsTab
  pow10 : Lib.TabIs Tryz.prog w "internal/strconv.uint64pow10" .u64 Lib.pow10Tab
  maxlen : ∃ m, w.cell? ⟨4, 0, none⟩ = some (.int .i64 m)
  syn : ∃ tp p, w.var? Tryz.prog "strconv.ErrSyntax" = some #[.iface tp p]
  rng : ∃ tp p, w.var? Tryz.prog "strconv.ErrRange" = some #[.iface tp p]

/-- A world that goes on from such a one. -/
structure Gl (w : World) : Prop where
  out : ∃ W0 : World, Base W0 ∧ Below W0.heap.size W0 w

theorem gsteps : Tryz.prog.globalNamed "chapman/decimal.steps" = some 0 := by kernel_rfl
theorem gpow10 : Tryz.prog.globalNamed "internal/strconv.uint64pow10" = some 3 := by kernel_rfl
theorem gsyn : Tryz.prog.globalNamed "strconv.ErrSyntax" = some 5 := by kernel_rfl
theorem grng : Tryz.prog.globalNamed "strconv.ErrRange" = some 6 := by kernel_rfl

theorem lt_of_var {w : World} {n : String} {g : Nat} {cs : Array Value} (hg : Tryz.prog.globalNamed n = some g) (h : w.var? Tryz.prog n = some cs) : g < w.heap.size := by
  simp only [World.var?, hg, Option.bind_some] at h
  rcases Nat.lt_or_ge g w.heap.size with h' | h'
  · exact h'
  · rw [Array.getElem?_eq_none h'] at h; cases h

theorem lt_of_cell {w : World} {g o : Nat} {v : Value} (h : w.cell? ⟨g, o, none⟩ = some v) : g < w.heap.size := by
  rcases Nat.lt_or_ge g w.heap.size with h' | h'
  · exact h'
  · simp only [World.cell?, Array.getElem?_eq_none h'] at h; cases h

theorem Gl.below {w w' : World} (h : Gl w) (hb : Below w.heap.size w w') : Gl w' := by
  obtain ⟨W0, h0, hb0⟩ := h.out
  exact ⟨⟨W0, h0, hb0.trans (hb.mono hb0.size)⟩⟩
theorem Gl.drew {w : World} (h : Gl w) : Gl w.drew := h.below ((Below.refl _ _).drew)
theorem Gl.drewN {w : World} (h : Gl w) (n : Nat) : Gl (w.drewN n) := by
  induction n with
  | zero => rw [World.drewN_zero]; exact h
  | succ n ih => rw [← World.drew_drewN]; exact ih.drew
theorem Gl.alloc {w : World} (h : Gl w) (o : Obj) : Gl (w.alloc o) := h.below ((Below.refl _ _).alloc (Nat.le_refl _) _)
theorem Gl.base {w : World} (h : Base w) : Gl w := ⟨⟨w, h, Below.refl _ _⟩⟩

theorem Gl.pow10 {w : World} (h : Gl w) : Lib.TabIs Tryz.prog w "internal/strconv.uint64pow10" .u64 Lib.pow10Tab := by
  obtain ⟨W0, h0, hb⟩ := h.out
  exact var?_below hb gpow10 (lt_of_var gpow10 h0.pow10) h0.pow10
theorem Gl.steps {w : World} (h : Gl w) (i : Nat) (hi : i < 7) : w.cell? ⟨0, i, none⟩ = some (.int .i64 (stepsTab.getD i 0)) := by
  obtain ⟨W0, h0, hb⟩ := h.out
  rw [hb.cell (p := ⟨0, i, none⟩) (lt_of_var gsteps h0.steps)]
  exact Lib.TabIs.cell h0.steps gsteps i hi
theorem Gl.maxlen {w : World} (h : Gl w) : ∃ m, w.cell? ⟨4, 0, none⟩ = some (.int .i64 m) := by
  obtain ⟨W0, h0, hb⟩ := h.out
  obtain ⟨m, hm⟩ := h0.maxlen
  exact ⟨m, by rw [hb.cell (p := ⟨4, 0, none⟩) (lt_of_cell hm)]; exact hm⟩
theorem Gl.syn {w : World} (h : Gl w) : ∃ tp p, w.var? Tryz.prog "strconv.ErrSyntax" = some #[.iface tp p] := by
  obtain ⟨W0, h0, hb⟩ := h.out
  obtain ⟨tp, p, hv⟩ := h0.syn
  exact ⟨tp, p, var?_below hb gsyn (lt_of_var gsyn hv) hv⟩
theorem Gl.rng {w : World} (h : Gl w) : ∃ tp p, w.var? Tryz.prog "strconv.ErrRange" = some #[.iface tp p] := by
  obtain ⟨W0, h0, hb⟩ := h.out
  obtain ⟨tp, p, hv⟩ := h0.rng
  exact ⟨tp, p, var?_below hb grng (lt_of_var grng hv) hv⟩
end Go.Proofs.YtckonpphagkfeaaGreatDoor.H
