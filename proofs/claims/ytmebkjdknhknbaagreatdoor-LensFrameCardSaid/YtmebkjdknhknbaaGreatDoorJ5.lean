/- Texts of this claim, bound together: what the functions that it reaches compute, with the contracts of their calls (HPaR, HPlR, HRefT, HComp, PMade, PGlue, HAnyA, HMade, HCells, HEx0, HEx1, HMd, HEx2). -/
import Derived.Test.YtmebkjdknhknbaaGreatDoorJ4
set_option linter.unusedVariables false
set_option linter.unusedSimpArgs false
set_option linter.unusedSectionVars false
set_option maxHeartbeats 16000000
set_option maxRecDepth 100000
open Go.Proofs.YtmebkjdknhknbaaGreatDoorW.PrintWords Go.Proofs.YtmebkjdknhknbaaGreatDoorW.PrintLast Go.Proofs.YtmebkjdknhknbaaGreatDoorW.PrintMore
namespace Go.Proofs.YtmebkjdknhknbaaGreatDoor.H
section
open Go.RowKit
structure KidC (w : World) (q : Addr) (v0 v1 v2 v3 v4 : Value) : Prop where
 k0 : w.cell? q = some v0
 k1 : w.cell? ⟨q.block, q.off + 1, none⟩ = some v1
 k2 : w.cell? ⟨q.block, q.off + 2, none⟩ = some v2
 k3 : w.cell? ⟨q.block, q.off + 3, none⟩ = some v3
 k4 : w.cell? ⟨q.block, q.off + 4, none⟩ = some v4
theorem partsW (K : Int) (sep : ByteArray) (ad q0 q1 : Addr) (A0 : Option Addr) (n n1 c n0 c0 : Nat) (u v : Int) (N M r : Bool) (y0 y1 y2 : Int) (y3 : ByteArray) (yA : Option Addr) (yn yc : Nat) (z0 z1 z2 : Int) (z3 : ByteArray) (zA : Option Addr) (zn zc : Nat) (w : World) (hr : (K = 4 ∧ N = r) ∨ (K = 5 ∧ true = r) ∨ (K = 6 ∧ false = r)) (c6 : Bool) (C6 : yC ((K == 6) = c6)) (HN : yC ((c6 = true → n = 2) ∧ (c6 = false → n = 1))) (HNf : yC (c6 = true → N = false)) (hn1 : IntKind.i64.wrap ((n : Int) - 1) = (n1 : Int)) (hn0 : 0 < n) (hn2 : n1 < n)
  (HS : yC (∀ w', Below w.heap.size w w' → Calls Tryz.prog 93 #[.string sep] w' fun e w'' => e = .returned (.bool true) ∧ Below w'.heap.size w' w''))
  (Q0 : yC (KidC w q0 (.int .i64 y0) (.int .i64 y1) (.int .i64 y2) (.string y3) (.slice yA yn yc))) (H0 : yC (∀ w', Below w.heap.size w w' → Calls Tryz.prog 40 #[.slice A0 n0 c0, .agg #[.int .i64 y0, .int .i64 y1, .int .i64 y2, .string y3, .slice yA yn yc]] w' fun e w'' => e = .returned (.agg #[.int .i64 3, .int .i64 u, .bool N, .bool true]) ∧ Below w'.heap.size w' w'')) (e0 : ad.add (0 * 5) = q0)
  (Q1 : yC (KidC w q1 (.int .i64 z0) (.int .i64 z1) (.int .i64 z2) (.string z3) (.slice zA zn zc))) (H1 : yC (∀ w', Below w.heap.size w w' → Calls Tryz.prog 40 #[.slice A0 n0 c0, .agg #[.int .i64 z0, .int .i64 z1, .int .i64 z2, .string z3, .slice zA zn zc]] w' fun e w'' => e = .returned (.agg #[.int .i64 3, .int .i64 v, .bool M, .bool true]) ∧ Below w'.heap.size w' w'')) (e1 : ad.add (n1 * 5) = q1) :
  Calls Tryz.prog 60 #[.slice A0 n0 c0, .agg #[.int .i64 K, .int .i64 0, .int .i64 0, .string sep, .slice (some ad) n c]] w fun e w' => e = .returned (.agg #[.int .i64 3, .int .i64 0, .bool r, .bool true]) ∧ Below w.heap.size w w' := by
 have hu := Tryz.underlying85
 have hu2 := Tryz.underlying29
 have hu3 := Tryz.underlying49
 have HX := yC.mk (Bxs.start w)
 go_enter Tryz.func60, Tryz.ntmps60
 go_upto_region 0 with (fail)
 refine Reg.det [(some 3, Reg.Dv.box 3 29 (fun _ => #[.int .i64 K, .int .i64 0, .int .i64 0, .string sep, .slice (some ad) n c]) [] true), (some 4, Reg.Dv.box 4 85 (fun _ => #[.int .i64 0, .int .i64 0, .bool false, .bool false]) [] true)] [] 93 rfl (by kernel_rfl) (by kernel_rfl) ?s22 ?_
 case s22 =>
  intro iq oq pq hiq hoq hpq ρ ev W S hE hO ec ef hB hft hΦ
  have e1 : ev (.tmp 1) = .agg #[.int .i64 K, .int .i64 0, .int .i64 0, .string sep, .slice (some ad) n c] := hO 1 rfl
  simp only [Reg.SV] at hE
  obtain ⟨e3, e4, _⟩ := hE
  rcases Reg.lt2 hiq with rfl | rfl
  all_goals (cases hoq; cases hpq)
  rotate_left 1
  ·refine Reg.D.box hB ?_
   go_simp
   try rfl
  rotate_right 1
  ·refine Reg.D.box hB ?_
   go_simp
   try rfl
 intro ρ W0 S hB hft hap hΦ
 simp only [Reg.SV, Reg.SF, Nat.reduceAdd]
 obtain ⟨g3, e3, s3, hg3, _, b3⟩ := hΦ 0 _ rfl rfl
 replace e3 : ρ 3 = .pointer (some ⟨g3, 0, none⟩) := e3
 obtain ⟨g4, e4, s4, hg4, _, b4⟩ := hΦ 1 _ rfl rfl
 replace e4 : ρ 4 = .pointer (some ⟨g4, 0, none⟩) := e4
 try simp only [e3, e4]
 replace b3 : W0.heap[g3]? = some (.cells #[.int .i64 K, .int .i64 0, .int .i64 0, .string sep, .slice (some ad) n c] 29 (0, 0)) := b3
 replace b4 : W0.heap[g4]? = some (.cells #[.int .i64 0, .int .i64 0, .bool false, .bool false] 85 (0, 0)) := b4
 have HX := yC.mk (HX.out.join ((Bxs.one hB hg3 b3).more hg4 b4 (by intro p hp; simp only [List.mem_cons, List.mem_singleton, List.not_mem_nil, or_false] at hp; rcases hp with rfl <;> (intro e; dsimp only at e; subst e; first | exact absurd (hap _ _ _ s3 s4) (by decide)))))
 clear hΦ hft hap 
 go_upto_region 1 with (fail)
 try simp only [Reg.SF]
 refine Reg.det [Reg.k 5 (.int .i64 1)] [] 93 rfl (by kernel_rfl) (by kernel_rfl) ?s23 ?_
 case s23 =>
  intro iq oq pq hiq hoq hpq ρ ev W S hE hO ec ef hB hft hΦ
  simp only [Reg.SV] at hE
  obtain ⟨e5, _⟩ := hE
  obtain rfl : iq = 0 := by have : iq < 1 := hiq; omega
  cases hoq; cases hpq
  all_goals try exact Reg.D.mv hB
  all_goals (refine Reg.D.cv hB ?_; go_simp; try (first | done | rfl | (exact C6.out) | (simp; done)))
 intro ρ W1 S hB hft hap hΦ
 simp only [Reg.SV, Reg.SF, Nat.reduceAdd]
 have HX := HX.cl hB
 clear hΦ hft hap 
 go_upto_region 2 with (fail)
 try simp only [Reg.SF]
 refine Reg.det [Reg.k 8 (.pointer (some ⟨g3, 0, none⟩)), Reg.k 9 (.int .i64 K), Reg.k 10 (.bool c6)] [] 93 rfl (by kernel_rfl) (by kernel_rfl) ?s24 ?_
 case s24 =>
  intro iq oq pq hiq hoq hpq ρ ev W S hE hO ec ef hB hft hΦ
  have e3 : ev (.tmp 3) = .pointer (some ⟨g3, 0, none⟩) := hO 3 rfl
  have mg3_0 := HX.pc hB 1 0 (.int .i64 K) rfl rfl
  simp only [Reg.SV] at hE
  obtain ⟨e8, e9, e10, _⟩ := hE
  rcases Reg.lt3 hiq with rfl | rfl | rfl
  all_goals (cases hoq; cases hpq)
  all_goals (refine Reg.D.cv hB ?_; go_simp; try (first | done | rfl | (exact C6.out) | (simp; done)))
 intro ρ W2 S hB hft hap hΦ
 simp only [Reg.SV, Reg.SF, Nat.reduceAdd]
 have HX := HX.cl hB
 clear hΦ hft hap 
 go_upto_if 10 with (fail)
 go_cut [5] (fun v5 wd => v5 = .int .i64 n ∧ yC (Bxs w wd [(g4, 85, #[.int .i64 0, .int .i64 0, .bool false, .bool false]), (g3, 29, #[.int .i64 K, .int .i64 0, .int .i64 0, .string sep, .slice (some ad) n c])]))
 case first =>
  cases c6 with
  | true =>
   go_wp2_with fail
   go_meet
   case rel => exact ⟨by rw [show n = 2 by first | exact HN.out.1 rfl | exact HN.out.1 trivial]; rfl, HX⟩
  | false =>
   go_wp2_with fail
   go_meet
   case rel => exact ⟨by rw [show n = 1 by first | exact HN.out.2 rfl | exact HN.out.2 trivial]; rfl, HX⟩
 clear HX 
 obtain ⟨hv5, HX⟩ := hcut
 generalize wc = W3c at *
 subst hv5
 go_upto_region 4 with (fail)
 try simp only [Reg.SF]
 refine Reg.det [Reg.k 11 (.pointer (some ⟨g3, 1, none⟩)), Reg.k 12 (.int .i64 0), Reg.k 13 (.bool false), Reg.k 14 (.bool false), Reg.k 15 (.pointer (some ⟨g3, 2, none⟩)), Reg.k 16 (.int .i64 0), Reg.k 17 (.bool false), Reg.k 18 (.bool false), Reg.k 19 (.bool false), Reg.k 20 (.pointer (some ⟨g3, 3, none⟩)), Reg.k 21 (.string sep), Reg.k 22 (.bool true), Reg.k 23 (.bool false), Reg.k 24 (.bool false), Reg.k 25 (.bool false), Reg.k 26 (.pointer (some ⟨g3, 4, none⟩)), Reg.k 27 (.slice (some ad) n c), Reg.k 28 (.int .i64 n), Reg.k 29 (.int .i64 n), Reg.k 30 (.bool false), Reg.k 31 (.bool false)] [] 93 rfl (by kernel_rfl) (by kernel_rfl) ?s25 ?_
 case s25 =>
  intro iq oq pq hiq hoq hpq ρ ev W S hE hO ec ef hB hft hΦ
  have e3 : ev (.tmp 3) = .pointer (some ⟨g3, 0, none⟩) := hO 3 rfl
  have e5 : ev (.tmp 5) = .int .i64 n := hO 5 rfl
  have mg3_1 := HX.pc hB 1 1 (.int .i64 0) rfl rfl
  have mg3_2 := HX.pc hB 1 2 (.int .i64 0) rfl rfl
  have mg3_3 := HX.pc hB 1 3 (.string sep) rfl rfl
  have mg3_4 := HX.pc hB 1 4 (.slice (some ad) n c) rfl rfl
  simp only [Reg.SV] at hE
  obtain ⟨e11, e12, e13, e14, e15, e16, e17, e18, e19, e20, e21, e22, e23, e24, e25, e26, e27, e28, e29, e30, e31, _⟩ := hE
  rcases Reg.lt21 hiq with rfl | rfl | rfl | rfl | rfl | rfl | rfl | rfl | rfl | rfl | rfl | rfl | rfl | rfl | rfl | rfl | rfl | rfl | rfl | rfl | rfl
  all_goals (cases hoq; cases hpq)
  rotate_left 11
  ·refine Reg.D.cc (g := 93) (args := #[.string sep]) hB (by go_simp; try rfl) ?_
   exact HS.out W (yD HX.out.below hB)
  rotate_right 11
  all_goals try exact Reg.D.mv hB
  all_goals exact Reg.D.cx hB
 intro ρ W4 S hB hft hap hΦ
 simp only [Reg.SV, Reg.SF, Nat.reduceAdd]
 have HX := HX.cl hB
 clear hΦ hft hap 
 have m0_0 := yB HX.out.below Q0.out.k0
 have m0_1 := yB HX.out.below Q0.out.k1
 have m0_2 := yB HX.out.below Q0.out.k2
 have m0_3 := yB HX.out.below Q0.out.k3
 have m0_4 := yB HX.out.below Q0.out.k4
 have m1_0 := yB HX.out.below Q1.out.k0
 have m1_1 := yB HX.out.below Q1.out.k1
 have m1_2 := yB HX.out.below Q1.out.k2
 have m1_3 := yB HX.out.below Q1.out.k3
 have m1_4 := yB HX.out.below Q1.out.k4
 go_upto_region 6 with (fail)
 try simp only [Reg.SF]
 refine Reg.det [Reg.k 33 (.slice A0 n0 c0), Reg.k 34 (.pointer (some ⟨g3, 4, none⟩)), Reg.k 35 (.slice (some ad) n c), Reg.k 36 (.pointer (some q0)), Reg.k 37 (.agg #[.int .i64 y0, .int .i64 y1, .int .i64 y2, .string y3, .slice yA yn yc]), Reg.k 38 (.agg #[.int .i64 3, .int .i64 u, .bool N, .bool true]), Reg.k 39 (.slice A0 n0 c0), Reg.k 40 (.pointer (some ⟨g3, 4, none⟩)), Reg.k 41 (.slice (some ad) n c), Reg.k 42 (.int .i64 n), Reg.k 43 (.int .i64 (n1 : Int)), Reg.k 44 (.pointer (some q1)), Reg.k 45 (.agg #[.int .i64 z0, .int .i64 z1, .int .i64 z2, .string z3, .slice zA zn zc]), Reg.k 46 (.agg #[.int .i64 3, .int .i64 v, .bool M, .bool true]), (some 6, Reg.Dv.box 6 85 (fun _ => #[.int .i64 0, .int .i64 0, .bool false, .bool false]) [] true), (some 7, Reg.Dv.box 7 85 (fun _ => #[.int .i64 0, .int .i64 0, .bool false, .bool false]) [] true), (none, Reg.Dv.box 6 85 (fun _ => #[.int .i64 3, .int .i64 u, .bool N, .bool true]) [] false), (none, Reg.Dv.box 7 85 (fun _ => #[.int .i64 3, .int .i64 v, .bool M, .bool true]) [] false)] [(14, 16), (15, 17)] 93 rfl (by kernel_rfl) (by kernel_rfl) ?s26 ?_
 case s26 =>
  intro iq oq pq hiq hoq hpq ρ ev W S hE hO ec ef hB hft hΦ
  have e0 : ev (.tmp 0) = .slice A0 n0 c0 := hO 0 rfl
  have e3 : ev (.tmp 3) = .pointer (some ⟨g3, 0, none⟩) := hO 3 rfl
  have e5 : ev (.tmp 5) = .int .i64 n := hO 5 rfl
  have mg3_4 := HX.pc hB 1 4 (.slice (some ad) n c) rfl rfl
  have m0_0' := yB hB m0_0
  have m0_1' := yB hB m0_1
  have m0_2' := yB hB m0_2
  have m0_3' := yB hB m0_3
  have m0_4' := yB hB m0_4
  have m1_0' := yB hB m1_0
  have m1_1' := yB hB m1_1
  have m1_2' := yB hB m1_2
  have m1_3' := yB hB m1_3
  have m1_4' := yB hB m1_4
  simp only [Reg.SV] at hE
  obtain ⟨e33, e34, e35, e36, e37, e38, e39, e40, e41, e42, e43, e44, e45, e46, e6, e7, _⟩ := hE
  rcases Reg.lt18 hiq with rfl | rfl | rfl | rfl | rfl | rfl | rfl | rfl | rfl | rfl | rfl | rfl | rfl | rfl | rfl | rfl | rfl | rfl
  all_goals (cases hoq; cases hpq)
  rotate_left 17
  ·exact Reg.D.fill 15 85 (.tmp 7) (.tmp 46) hB e7 (by first | assumption | rfl | (simp [*]; done)) (hΦ 15 _ rfl rfl rfl) info85s (by first | rfl | (simp only [Reg.SV]; rfl))
  rotate_right 17
  rotate_left 16
  ·exact Reg.D.fill 14 85 (.tmp 6) (.tmp 38) hB e6 (by first | assumption | rfl | (simp [*]; done)) (hΦ 14 _ rfl rfl rfl) info85s (by first | rfl | (simp only [Reg.SV]; rfl))
  rotate_right 16
  rotate_left 15
  ·refine Reg.D.box hB ?_
   go_simp
   try rfl
  rotate_right 15
  rotate_left 14
  ·refine Reg.D.box hB ?_
   go_simp
   try rfl
  rotate_right 14
  rotate_left 13
  ·refine Reg.D.cc (g := 40) (args := #[.slice A0 n0 c0, .agg #[.int .i64 z0, .int .i64 z1, .int .i64 z2, .string z3, .slice zA zn zc]]) hB (by go_simp; try rfl) ?_
   exact H1.out W (yD HX.out.below hB)
  rotate_right 13
  rotate_left 5
  ·refine Reg.D.cc (g := 40) (args := #[.slice A0 n0 c0, .agg #[.int .i64 y0, .int .i64 y1, .int .i64 y2, .string y3, .slice yA yn yc]]) hB (by go_simp; try rfl) ?_
   exact H0.out W (yD HX.out.below hB)
  rotate_right 5
  all_goals try exact Reg.D.mv hB
  all_goals (refine Reg.D.cv hB ?_; go_simp; try (first | done | rfl | (rw [← e0]; rfl) | (exact hn1) | (rw [if_pos (by omega)]; simp [e0]; done) | (rw [if_pos (by omega)]; simp [e1]; done) | (simp [e1]; omega) | (simp; done)))
 intro ρ W6 S hB hft hap hΦ
 simp only [Reg.SV, Reg.SF, Nat.reduceAdd]
 obtain ⟨g6, e6, s6, hg6, _, b6⟩ := hΦ 16 _ rfl rfl
 replace e6 : ρ 6 = .pointer (some ⟨g6, 0, none⟩) := e6
 obtain ⟨g7, e7, s7, hg7, _, b7⟩ := hΦ 17 _ rfl rfl
 replace e7 : ρ 7 = .pointer (some ⟨g7, 0, none⟩) := e7
 try simp only [e6, e7]
 replace b6 : W6.heap[g6]? = some (.cells #[.int .i64 3, .int .i64 u, .bool N, .bool true] 85 (0, 0)) := b6
 replace b7 : W6.heap[g7]? = some (.cells #[.int .i64 3, .int .i64 v, .bool M, .bool true] 85 (0, 0)) := b7
 have HX := yC.mk (HX.out.join ((Bxs.one hB hg6 b6).more hg7 b7 (by intro p hp; simp only [List.mem_cons, List.mem_singleton, List.not_mem_nil, or_false] at hp; rcases hp with rfl <;> (intro e; dsimp only at e; subst e; first | exact absurd (hap _ _ _ s6 s7) (by decide)))))
 clear hΦ hft hap 
 clear m0_0 m0_1 m0_2 m0_3 m0_4 m1_0 m1_1 m1_2 m1_3 m1_4
 go_upto_region 7 with (fail)
 go_cut [76] (fun v76 wd => v76 = .bool false ∧ yC (Bxs w wd [(g7, 85, #[.int .i64 3, .int .i64 v, .bool M, .bool true]), (g6, 85, #[.int .i64 3, .int .i64 u, .bool N, .bool true]), (g4, 85, #[.int .i64 0, .int .i64 0, .bool false, .bool false]), (g3, 29, #[.int .i64 K, .int .i64 0, .int .i64 0, .string sep, .slice (some ad) n c])]))
 case first =>
  cases c6 with
  | true =>
   obtain rfl := HNf.out rfl
   go_upto_region 7 with (fail)
   try simp only [Reg.SF]
   refine Reg.det [Reg.k 47 (.pointer (some ⟨g6, 3, none⟩)), Reg.k 48 (.bool true), Reg.k 49 (.bool false), Reg.k 50 (.bool false), Reg.k 51 (.pointer (some ⟨g7, 3, none⟩)), Reg.k 52 (.bool true), Reg.k 53 (.bool false), Reg.k 54 (.bool false), Reg.k 55 (.bool false), Reg.k 56 (.pointer (some ⟨g6, 0, none⟩)), Reg.k 57 (.pointer (some ⟨g6, 0, none⟩)), Reg.k 58 (.int .i64 3), Reg.k 59 (.bool false), Reg.k 60 (.bool false), Reg.k 61 (.bool false), Reg.k 62 (.pointer (some ⟨g7, 0, none⟩)), Reg.k 63 (.pointer (some ⟨g7, 0, none⟩)), Reg.k 64 (.int .i64 3), Reg.k 65 (.bool false), Reg.k 66 (.bool false), Reg.k 67 (.bool false), Reg.k 68 (.pointer (some ⟨g3, 0, none⟩)), Reg.k 69 (.int .i64 K), Reg.k 70 (.bool true), Reg.k 71 (.bool true), Reg.k 72 (.pointer (some ⟨g6, 0, none⟩)), Reg.k 73 (.pointer (some ⟨g6, 2, none⟩)), Reg.k 74 (.bool false), Reg.k 75 (.bool false), Reg.k 76 (.bool false)] [] 93 rfl (by kernel_rfl) (by kernel_rfl) ?s27 ?_
   case s27 =>
    intro iq oq pq hiq hoq hpq ρ ev W S hE hO ec ef hB hft hΦ
    have e3 : ev (.tmp 3) = .pointer (some ⟨g3, 0, none⟩) := hO 3 rfl
    have e6 : ev (.tmp 6) = .pointer (some ⟨g6, 0, none⟩) := hO 6 rfl
    have e7 : ev (.tmp 7) = .pointer (some ⟨g7, 0, none⟩) := hO 7 rfl
    have mg6_3 := HX.pc hB 1 3 (.bool true) rfl rfl
    have mg7_3 := HX.pc hB 0 3 (.bool true) rfl rfl
    have mg6_0 := HX.pc hB 1 0 (.int .i64 3) rfl rfl
    have mg7_0 := HX.pc hB 0 0 (.int .i64 3) rfl rfl
    have mg3_0 := HX.pc hB 3 0 (.int .i64 K) rfl rfl
    have mg6_2 := HX.pc hB 1 2 (.bool false) rfl rfl
    simp only [Reg.SV] at hE
    obtain ⟨e47, e48, e49, e50, e51, e52, e53, e54, e55, e56, e57, e58, e59, e60, e61, e62, e63, e64, e65, e66, e67, e68, e69, e70, e71, e72, e73, e74, e75, e76, _⟩ := hE
    rcases Reg.lt30 hiq with rfl | rfl | rfl | rfl | rfl | rfl | rfl | rfl | rfl | rfl | rfl | rfl | rfl | rfl | rfl | rfl | rfl | rfl | rfl | rfl | rfl | rfl | rfl | rfl | rfl | rfl | rfl | rfl | rfl | rfl
    all_goals (cases hoq; cases hpq)
    all_goals try exact Reg.D.mv hB
    all_goals (refine Reg.D.cv hB ?_; go_simp; try (first | done | rfl | (have := C6.out; simp at this; simp [this]; done) | (have := C6.out; simp at this; omega) | (simp; done)))
   intro ρ W7 S hB hft hap hΦ
   simp only [Reg.SV, Reg.SF, Nat.reduceAdd]
   have HX := HX.cl hB
   clear hΦ hft hap 
   go_wp2_with fail
   go_meet
   case rel => exact ⟨rfl, HX⟩
  | false =>
   go_upto_region 7 with (fail)
   try simp only [Reg.SF]
   refine Reg.det [Reg.k 47 (.pointer (some ⟨g6, 3, none⟩)), Reg.k 48 (.bool true), Reg.k 49 (.bool false), Reg.k 50 (.bool false), Reg.k 51 (.pointer (some ⟨g7, 3, none⟩)), Reg.k 52 (.bool true), Reg.k 53 (.bool false), Reg.k 54 (.bool false), Reg.k 55 (.bool false), Reg.k 56 (.pointer (some ⟨g6, 0, none⟩)), Reg.k 57 (.pointer (some ⟨g6, 0, none⟩)), Reg.k 58 (.int .i64 3), Reg.k 59 (.bool false), Reg.k 60 (.bool false), Reg.k 61 (.bool false), Reg.k 62 (.pointer (some ⟨g7, 0, none⟩)), Reg.k 63 (.pointer (some ⟨g7, 0, none⟩)), Reg.k 64 (.int .i64 3), Reg.k 65 (.bool false), Reg.k 66 (.bool false), Reg.k 67 (.bool false), Reg.k 68 (.pointer (some ⟨g3, 0, none⟩)), Reg.k 69 (.int .i64 K), Reg.k 70 (.bool false), Reg.k 71 (.bool false), Reg.u 72, Reg.u 73, Reg.u 74, Reg.k 75 (.bool false), Reg.k 76 (.bool false)] [] 93 rfl (by kernel_rfl) (by kernel_rfl) ?s28 ?_
   case s28 =>
    intro iq oq pq hiq hoq hpq ρ ev W S hE hO ec ef hB hft hΦ
    have e3 : ev (.tmp 3) = .pointer (some ⟨g3, 0, none⟩) := hO 3 rfl
    have e6 : ev (.tmp 6) = .pointer (some ⟨g6, 0, none⟩) := hO 6 rfl
    have e7 : ev (.tmp 7) = .pointer (some ⟨g7, 0, none⟩) := hO 7 rfl
    have mg6_3 := HX.pc hB 1 3 (.bool true) rfl rfl
    have mg7_3 := HX.pc hB 0 3 (.bool true) rfl rfl
    have mg6_0 := HX.pc hB 1 0 (.int .i64 3) rfl rfl
    have mg7_0 := HX.pc hB 0 0 (.int .i64 3) rfl rfl
    have mg3_0 := HX.pc hB 3 0 (.int .i64 K) rfl rfl
    simp only [Reg.SV] at hE
    obtain ⟨e47, e48, e49, e50, e51, e52, e53, e54, e55, e56, e57, e58, e59, e60, e61, e62, e63, e64, e65, e66, e67, e68, e69, e70, e71, e72, e73, e74, e75, e76, _⟩ := hE
    rcases Reg.lt30 hiq with rfl | rfl | rfl | rfl | rfl | rfl | rfl | rfl | rfl | rfl | rfl | rfl | rfl | rfl | rfl | rfl | rfl | rfl | rfl | rfl | rfl | rfl | rfl | rfl | rfl | rfl | rfl | rfl | rfl | rfl
    all_goals (cases hoq; cases hpq)
    all_goals (first | exact Reg.D.sk hB | skip)
    all_goals try exact Reg.D.mv hB
    all_goals (refine Reg.D.cv hB ?_; go_simp; try (first | done | rfl | (have := C6.out; simp at this; simp [this]; done) | (have := C6.out; simp at this; omega) | (simp; done)))
   intro ρ W7 S hB hft hap hΦ
   simp only [Reg.SV, Reg.SF, Nat.reduceAdd]
   have HX := HX.cl hB
   clear hΦ hft hap 
   go_wp2_with fail
   go_meet
   case rel => exact ⟨rfl, HX⟩
 clear HX 
 obtain ⟨hv76, HX⟩ := hcut
 generalize wc = W7c at *
 subst hv76
 rcases hr with ⟨rfl, rfl⟩ | ⟨rfl, rfl⟩ | ⟨rfl, rfl⟩
 ·skip
  go_upto_region 9 with (fail)
  try simp only [Reg.SF]
  refine Reg.det [Reg.k 78 (.pointer (some ⟨g3, 0, none⟩)), Reg.k 79 (.int .i64 4), Reg.k 80 (.bool false), Reg.k 81 (.bool false), Reg.k 82 (.pointer (some ⟨g3, 0, none⟩)), Reg.k 83 (.int .i64 4), Reg.k 84 (.bool true), Reg.k 85 (.bool true), Reg.k 86 (.pointer (some ⟨g6, 0, none⟩)), Reg.k 87 (.pointer (some ⟨g6, 2, none⟩)), Reg.k 88 (.bool N), Reg.k 89 (.bool N), Reg.k 90 (.bool N), Reg.k 91 (.agg #[.int .i64 3, .int .i64 0, .bool N]), Reg.k 92 (.agg #[.int .i64 3, .int .i64 0, .bool N, .bool true])] [] 93 rfl (by kernel_rfl) (by kernel_rfl) ?s29 ?_
  case s29 =>
   intro iq oq pq hiq hoq hpq ρ ev W S hE hO ec ef hB hft hΦ
   have e3 : ev (.tmp 3) = .pointer (some ⟨g3, 0, none⟩) := hO 3 rfl
   have e6 : ev (.tmp 6) = .pointer (some ⟨g6, 0, none⟩) := hO 6 rfl
   have mg3_0 := HX.pc hB 3 0 (.int .i64 4) rfl rfl
   have mg6_2 := HX.pc hB 1 2 (.bool N) rfl rfl
   simp only [Reg.SV] at hE
   obtain ⟨e78, e79, e80, e81, e82, e83, e84, e85, e86, e87, e88, e89, e90, e91, e92, _⟩ := hE
   rcases Reg.lt15 hiq with rfl | rfl | rfl | rfl | rfl | rfl | rfl | rfl | rfl | rfl | rfl | rfl | rfl | rfl | rfl
   all_goals (cases hoq; cases hpq)
   all_goals try exact Reg.D.mv hB
   all_goals exact Reg.D.cx hB
  intro ρ W9 S hB hft hap hΦ
  simp only [Reg.SV, Reg.SF, Nat.reduceAdd]
  have HX := HX.cl hB
  clear hΦ hft hap 
  refine xG (w := w) rfl 85 (.tmp 4) (.tmp 92) rfl rfl (L1 := [_, _]) (cells := #[.int .i64 3, .int .i64 0, .bool N, .bool true]) HX.out rfl rfl (by kernel_rfl) rfl rfl ?_
  intro Wp hx
  have HX := yC.mk hx
  clear hx
  go_wp2_with fail
  refine bodyPost_ret (results_cell_row rfl _ _ g4 85 #[.int .i64 3, .int .i64 0, .bool N, .bool true] (0, 0) _ rfl (HX.out.at 2 rfl) hu rfl (by kernel_rfl)) rfl ?_
  exact ⟨rfl, HX.out.below⟩
 ·skip
  go_upto_region 9 with (fail)
  try simp only [Reg.SF]
  refine Reg.det [Reg.k 78 (.pointer (some ⟨g3, 0, none⟩)), Reg.k 79 (.int .i64 5), Reg.k 80 (.bool true), Reg.k 81 (.bool true), Reg.u 82, Reg.u 83, Reg.u 84, Reg.u 85, Reg.u 86, Reg.u 87, Reg.u 88, Reg.u 89, Reg.k 90 (.bool true), Reg.k 91 (.agg #[.int .i64 3, .int .i64 0, .bool true]), Reg.k 92 (.agg #[.int .i64 3, .int .i64 0, .bool true, .bool true])] [] 93 rfl (by kernel_rfl) (by kernel_rfl) ?s30 ?_
  case s30 =>
   intro iq oq pq hiq hoq hpq ρ ev W S hE hO ec ef hB hft hΦ
   have e3 : ev (.tmp 3) = .pointer (some ⟨g3, 0, none⟩) := hO 3 rfl
   have e6 : ev (.tmp 6) = .pointer (some ⟨g6, 0, none⟩) := hO 6 rfl
   have mg3_0 := HX.pc hB 3 0 (.int .i64 5) rfl rfl
   simp only [Reg.SV] at hE
   obtain ⟨e78, e79, e80, e81, e82, e83, e84, e85, e86, e87, e88, e89, e90, e91, e92, _⟩ := hE
   rcases Reg.lt15 hiq with rfl | rfl | rfl | rfl | rfl | rfl | rfl | rfl | rfl | rfl | rfl | rfl | rfl | rfl | rfl
   all_goals (cases hoq; cases hpq)
   all_goals (first | exact Reg.D.sk hB | skip)
   all_goals try exact Reg.D.mv hB
   all_goals exact Reg.D.cx hB
  intro ρ W9 S hB hft hap hΦ
  simp only [Reg.SV, Reg.SF, Nat.reduceAdd]
  have HX := HX.cl hB
  clear hΦ hft hap 
  refine xG (w := w) rfl 85 (.tmp 4) (.tmp 92) rfl rfl (L1 := [_, _]) (cells := #[.int .i64 3, .int .i64 0, .bool true, .bool true]) HX.out rfl rfl (by kernel_rfl) rfl rfl ?_
  intro Wp hx
  have HX := yC.mk hx
  clear hx
  go_wp2_with fail
  refine bodyPost_ret (results_cell_row rfl _ _ g4 85 #[.int .i64 3, .int .i64 0, .bool true, .bool true] (0, 0) _ rfl (HX.out.at 2 rfl) hu rfl (by kernel_rfl)) rfl ?_
  exact ⟨rfl, HX.out.below⟩
 ·skip
  go_upto_region 9 with (fail)
  try simp only [Reg.SF]
  refine Reg.det [Reg.k 78 (.pointer (some ⟨g3, 0, none⟩)), Reg.k 79 (.int .i64 6), Reg.k 80 (.bool false), Reg.k 81 (.bool false), Reg.k 82 (.pointer (some ⟨g3, 0, none⟩)), Reg.k 83 (.int .i64 6), Reg.k 84 (.bool false), Reg.k 85 (.bool false), Reg.u 86, Reg.u 87, Reg.u 88, Reg.k 89 (.bool false), Reg.k 90 (.bool false), Reg.k 91 (.agg #[.int .i64 3, .int .i64 0, .bool false]), Reg.k 92 (.agg #[.int .i64 3, .int .i64 0, .bool false, .bool true])] [] 93 rfl (by kernel_rfl) (by kernel_rfl) ?s31 ?_
  case s31 =>
   intro iq oq pq hiq hoq hpq ρ ev W S hE hO ec ef hB hft hΦ
   have e3 : ev (.tmp 3) = .pointer (some ⟨g3, 0, none⟩) := hO 3 rfl
   have e6 : ev (.tmp 6) = .pointer (some ⟨g6, 0, none⟩) := hO 6 rfl
   have mg3_0 := HX.pc hB 3 0 (.int .i64 6) rfl rfl
   simp only [Reg.SV] at hE
   obtain ⟨e78, e79, e80, e81, e82, e83, e84, e85, e86, e87, e88, e89, e90, e91, e92, _⟩ := hE
   rcases Reg.lt15 hiq with rfl | rfl | rfl | rfl | rfl | rfl | rfl | rfl | rfl | rfl | rfl | rfl | rfl | rfl | rfl
   all_goals (cases hoq; cases hpq)
   all_goals (first | exact Reg.D.sk hB | skip)
   all_goals try exact Reg.D.mv hB
   all_goals exact Reg.D.cx hB
  intro ρ W9 S hB hft hap hΦ
  simp only [Reg.SV, Reg.SF, Nat.reduceAdd]
  have HX := HX.cl hB
  clear hΦ hft hap 
  refine xG (w := w) rfl 85 (.tmp 4) (.tmp 92) rfl rfl (L1 := [_, _]) (cells := #[.int .i64 3, .int .i64 0, .bool false, .bool true]) HX.out rfl rfl (by kernel_rfl) rfl rfl ?_
  intro Wp hx
  have HX := yC.mk hx
  clear hx
  go_wp2_with fail
  refine bodyPost_ret (results_cell_row rfl _ _ g4 85 #[.int .i64 3, .int .i64 0, .bool false, .bool true] (0, 0) _ rfl (HX.out.at 2 rfl) hu rfl (by kernel_rfl)) rfl ?_
  exact ⟨rfl, HX.out.below⟩
theorem partsR4 (sep : ByteArray) (ad q0 q1 : Addr) (A0 : Option Addr) (c n0 c0 : Nat) (u v : Int) (N M : Bool) (y0 y1 y2 : Int) (y3 : ByteArray) (yA : Option Addr) (yn yc : Nat) (w : World)
  (HS : yC (∀ w', Below w.heap.size w w' → Calls Tryz.prog 93 #[.string sep] w' fun e w'' => e = .returned (.bool true) ∧ Below w'.heap.size w' w''))
  (Q0 : yC (KidC w q0 (.int .i64 y0) (.int .i64 y1) (.int .i64 y2) (.string y3) (.slice yA yn yc))) (e0 : ad.add (0 * 5) = q0) (H0 : yC (∀ w', Below w.heap.size w w' → Calls Tryz.prog 40 #[.slice A0 n0 c0, .agg #[.int .i64 y0, .int .i64 y1, .int .i64 y2, .string y3, .slice yA yn yc]] w' fun e w'' => e = .returned (.agg #[.int .i64 3, .int .i64 u, .bool N, .bool true]) ∧ Below w'.heap.size w' w'')) :
  Calls Tryz.prog 60 #[.slice A0 n0 c0, .agg #[.int .i64 4, .int .i64 0, .int .i64 0, .string sep, .slice (some ad) 1 c]] w fun e w' => e = .returned (.agg #[.int .i64 3, .int .i64 0, .bool N, .bool true]) ∧ Below w.heap.size w w' :=
 partsW 4 sep ad q0 q0 A0 1 0 c n0 c0 u u N N _ y0 y1 y2 y3 yA yn yc y0 y1 y2 y3 yA yn yc w (.inl ⟨rfl, rfl⟩) false (C6 := ⟨rfl⟩) (HN := ⟨And.intro (fun h => by first | rfl | cases h) (fun h => by first | rfl | cases h)⟩) (HNf := ⟨fun h => by first | rfl | cases h⟩) (hn1 := rfl) (hn0 := by decide) (hn2 := by decide) HS Q0 H0 e0 Q0 H0 e0
theorem partsR5 (sep : ByteArray) (ad q0 q1 : Addr) (A0 : Option Addr) (c n0 c0 : Nat) (u v : Int) (N M : Bool) (y0 y1 y2 : Int) (y3 : ByteArray) (yA : Option Addr) (yn yc : Nat) (w : World)
  (HS : yC (∀ w', Below w.heap.size w w' → Calls Tryz.prog 93 #[.string sep] w' fun e w'' => e = .returned (.bool true) ∧ Below w'.heap.size w' w''))
  (Q0 : yC (KidC w q0 (.int .i64 y0) (.int .i64 y1) (.int .i64 y2) (.string y3) (.slice yA yn yc))) (e0 : ad.add (0 * 5) = q0) (H0 : yC (∀ w', Below w.heap.size w w' → Calls Tryz.prog 40 #[.slice A0 n0 c0, .agg #[.int .i64 y0, .int .i64 y1, .int .i64 y2, .string y3, .slice yA yn yc]] w' fun e w'' => e = .returned (.agg #[.int .i64 3, .int .i64 u, .bool N, .bool true]) ∧ Below w'.heap.size w' w'')) :
  Calls Tryz.prog 60 #[.slice A0 n0 c0, .agg #[.int .i64 5, .int .i64 0, .int .i64 0, .string sep, .slice (some ad) 1 c]] w fun e w' => e = .returned (.agg #[.int .i64 3, .int .i64 0, .bool true, .bool true]) ∧ Below w.heap.size w w' :=
 partsW 5 sep ad q0 q0 A0 1 0 c n0 c0 u u N N _ y0 y1 y2 y3 yA yn yc y0 y1 y2 y3 yA yn yc w (.inr (.inl ⟨rfl, rfl⟩)) false (C6 := ⟨rfl⟩) (HN := ⟨And.intro (fun h => by first | rfl | cases h) (fun h => by first | rfl | cases h)⟩) (HNf := ⟨fun h => by first | rfl | cases h⟩) (hn1 := rfl) (hn0 := by decide) (hn2 := by decide) HS Q0 H0 e0 Q0 H0 e0
theorem partsR6 (sep : ByteArray) (ad q0 q1 : Addr) (A0 : Option Addr) (c n0 c0 : Nat) (u v : Int) (N M : Bool) (y0 y1 y2 : Int) (y3 : ByteArray) (yA : Option Addr) (yn yc : Nat) (z0 z1 z2 : Int) (z3 : ByteArray) (zA : Option Addr) (zn zc : Nat) (w : World)
  (HS : yC (∀ w', Below w.heap.size w w' → Calls Tryz.prog 93 #[.string sep] w' fun e w'' => e = .returned (.bool true) ∧ Below w'.heap.size w' w''))
  (Q0 : yC (KidC w q0 (.int .i64 y0) (.int .i64 y1) (.int .i64 y2) (.string y3) (.slice yA yn yc))) (e0 : ad.add (0 * 5) = q0) (H0 : yC (∀ w', Below w.heap.size w w' → Calls Tryz.prog 40 #[.slice A0 n0 c0, .agg #[.int .i64 y0, .int .i64 y1, .int .i64 y2, .string y3, .slice yA yn yc]] w' fun e w'' => e = .returned (.agg #[.int .i64 3, .int .i64 u, .bool false, .bool true]) ∧ Below w'.heap.size w' w'')) (Q1 : yC (KidC w q1 (.int .i64 z0) (.int .i64 z1) (.int .i64 z2) (.string z3) (.slice zA zn zc))) (e1 : ad.add (1 * 5) = q1) (H1 : yC (∀ w', Below w.heap.size w w' → Calls Tryz.prog 40 #[.slice A0 n0 c0, .agg #[.int .i64 z0, .int .i64 z1, .int .i64 z2, .string z3, .slice zA zn zc]] w' fun e w'' => e = .returned (.agg #[.int .i64 3, .int .i64 v, .bool M, .bool true]) ∧ Below w'.heap.size w' w'')) :
  Calls Tryz.prog 60 #[.slice A0 n0 c0, .agg #[.int .i64 6, .int .i64 0, .int .i64 0, .string sep, .slice (some ad) 2 c]] w fun e w' => e = .returned (.agg #[.int .i64 3, .int .i64 0, .bool false, .bool true]) ∧ Below w.heap.size w w' :=
 partsW 6 sep ad q0 q1 A0 2 1 c n0 c0 u v false M _ y0 y1 y2 y3 yA yn yc z0 z1 z2 z3 zA zn zc w (.inr (.inr ⟨rfl, rfl⟩)) true (C6 := ⟨rfl⟩) (HN := ⟨And.intro (fun h => by first | rfl | cases h) (fun h => by first | rfl | cases h)⟩) (HNf := ⟨fun h => by first | rfl | cases h⟩) (hn1 := rfl) (hn0 := by decide) (hn2 := by decide) HS Q0 H0 e0 Q1 H1 e1
end
section
open Go.RowKit
theorem plain_walk (k a s r0 r1 t0 t1 : Int) (r2 t2 : Bool) (A : Option Addr) (ad qa : Addr) (c n0 c0 : Nat) (hk : (k = 1 ∧ s = 0 ∧ t0 = r0 ∧ t1 = r1 ∧ t2 = r2) ∨ (k = 2 ∧ t0 = 2 ∧ 2 = r0 ∧ s = r1 ∧ t2 = r2) ∨ (k = 3 ∧ t0 = 2 ∧ 3 = r0 ∧ 0 = r1 ∧ t2 = r2)) (h0 : 0 ≤ a) (h1 : a < n0) (hs0 : 0 ≤ s) (hs6 : s ≤ 6) (hq : ad.add (a.toNat * 7) = qa) (w : World)
  (Q0 : yC (w.cell? qa = some (.int .i64 t0))) (Q1 : yC (w.cell? ⟨qa.block, qa.off + 1, none⟩ = some (.int .i64 t1))) (Q2 : yC (w.cell? ⟨qa.block, qa.off + 2, none⟩ = some (.bool t2))) :
  Calls Tryz.prog 59 #[.slice (some ad) n0 c0, .agg #[.int .i64 k, .int .i64 a, .int .i64 s, .string (⟨#[]⟩ : ByteArray), .slice A 0 c]] w fun e w' => e = .returned (.agg #[.int .i64 r0, .int .i64 r1, .bool r2, .bool true]) ∧ Below w.heap.size w w' := by
 have hu := Tryz.underlying85
 have hu2 := Tryz.underlying29
 have hu3 := Tryz.underlying49
 have hu4 := Tryz.underlying57
 have HX := yC.mk (Bxs.start w)
 go_enter Tryz.func59, Tryz.ntmps59
 go_upto_region 0 with (fail)
 refine Reg.det [(some 3, Reg.Dv.box 3 29 (fun _ => #[.int .i64 k, .int .i64 a, .int .i64 s, .string (⟨#[]⟩ : ByteArray), .slice A 0 c]) [] true), (some 4, Reg.Dv.box 4 85 (fun _ => #[.int .i64 0, .int .i64 0, .bool false, .bool false]) [] true)] [] 75 rfl (by kernel_rfl) (by kernel_rfl) ?s1 ?_
 case s1 =>
  intro iq oq pq hiq hoq hpq ρ ev W S hE hO ec ef hB hft hΦ
  have e1 : ev (.tmp 1) = .agg #[.int .i64 k, .int .i64 a, .int .i64 s, .string (⟨#[]⟩ : ByteArray), .slice A 0 c] := hO 1 rfl
  simp only [Reg.SV] at hE
  obtain ⟨e3, e4, _⟩ := hE
  rcases Reg.lt2 hiq with rfl | rfl
  all_goals (cases hoq; cases hpq)
  rotate_left 1
  ·refine Reg.D.box hB ?_
   go_simp
   try rfl
  rotate_right 1
  ·refine Reg.D.box hB ?_
   go_simp
   try rfl
 intro ρ W0 S hB hft hap hΦ
 simp only [Reg.SV, Reg.SF, Nat.reduceAdd]
 obtain ⟨g3, e3, s3, hg3, _, b3⟩ := hΦ 0 _ rfl rfl
 replace e3 : ρ 3 = .pointer (some ⟨g3, 0, none⟩) := e3
 obtain ⟨g4, e4, s4, hg4, _, b4⟩ := hΦ 1 _ rfl rfl
 replace e4 : ρ 4 = .pointer (some ⟨g4, 0, none⟩) := e4
 try simp only [e3, e4]
 replace b3 : W0.heap[g3]? = some (.cells #[.int .i64 k, .int .i64 a, .int .i64 s, .string (⟨#[]⟩ : ByteArray), .slice A 0 c] 29 (0, 0)) := b3
 replace b4 : W0.heap[g4]? = some (.cells #[.int .i64 0, .int .i64 0, .bool false, .bool false] 85 (0, 0)) := b4
 have HX := yC.mk (HX.out.join ((Bxs.one hB hg3 b3).more hg4 b4 (by intro p hp; simp only [List.mem_cons, List.mem_singleton, List.not_mem_nil, or_false] at hp; rcases hp with rfl <;> (intro e; dsimp only at e; subst e; first | exact absurd (hap _ _ _ s3 s4) (by decide)))))
 clear hΦ hft hap 
 go_upto_region 1 with (fail)
 try simp only [Reg.SF]
 refine Reg.det [Reg.k 6 (.pointer (some ⟨g3, 1, none⟩)), Reg.k 7 (.int .i64 a), Reg.k 8 (.bool false), Reg.k 9 (.bool false), Reg.k 10 (.pointer (some ⟨g3, 1, none⟩)), Reg.k 11 (.int .i64 a), Reg.k 12 (.slice (some ad) n0 c0), Reg.k 13 (.int .i64 n0), Reg.k 14 (.bool false), Reg.k 15 (.bool false), Reg.k 16 (.bool false), Reg.k 17 (.pointer (some ⟨g3, 3, none⟩)), Reg.k 18 (.string (⟨#[]⟩ : ByteArray)), Reg.k 19 (.bool false), Reg.k 20 (.bool false), Reg.k 21 (.bool false), Reg.k 22 (.pointer (some ⟨g3, 4, none⟩)), Reg.k 23 (.slice A 0 c), Reg.k 24 (.int .i64 0), Reg.k 25 (.bool false), Reg.k 26 (.bool false), Reg.k 27 (.bool false), Reg.k 28 (.pointer (some ⟨g3, 2, none⟩)), Reg.k 29 (.int .i64 s), Reg.k 30 (.bool false), Reg.k 31 (.bool false), Reg.k 32 (.bool false), Reg.k 33 (.pointer (some ⟨g3, 2, none⟩)), Reg.k 34 (.int .i64 s), Reg.k 35 (.bool false), Reg.k 36 (.bool false)] [] 75 rfl (by kernel_rfl) (by kernel_rfl) ?s2 ?_
 case s2 =>
  intro iq oq pq hiq hoq hpq ρ ev W S hE hO ec ef hB hft hΦ
  have e0 : ev (.tmp 0) = .slice (some ad) n0 c0 := hO 0 rfl
  have e3 : ev (.tmp 3) = .pointer (some ⟨g3, 0, none⟩) := hO 3 rfl
  have mg3_1 := HX.pc hB 1 1 (.int .i64 a) rfl rfl
  have mg3_3 := HX.pc hB 1 3 (.string (⟨#[]⟩ : ByteArray)) rfl rfl
  have mg3_4 := HX.pc hB 1 4 (.slice A 0 c) rfl rfl
  have mg3_2 := HX.pc hB 1 2 (.int .i64 s) rfl rfl
  simp only [Reg.SV] at hE
  obtain ⟨e6, e7, e8, e9, e10, e11, e12, e13, e14, e15, e16, e17, e18, e19, e20, e21, e22, e23, e24, e25, e26, e27, e28, e29, e30, e31, e32, e33, e34, e35, e36, _⟩ := hE
  rcases Reg.lt31 hiq with rfl | rfl | rfl | rfl | rfl | rfl | rfl | rfl | rfl | rfl | rfl | rfl | rfl | rfl | rfl | rfl | rfl | rfl | rfl | rfl | rfl | rfl | rfl | rfl | rfl | rfl | rfl | rfl | rfl | rfl | rfl
  all_goals (cases hoq; cases hpq)
  all_goals try exact Reg.D.mv hB
  all_goals (refine Reg.D.cv hB ?_; go_simp; try (first | done | rfl | omega | (simp; omega)))
 intro ρ W1 S hB hft hap hΦ
 simp only [Reg.SV, Reg.SF, Nat.reduceAdd]
 have HX := HX.cl hB
 clear hΦ hft hap 
 have ma := yB HX.out.below Q0.out
 have mb := yB HX.out.below Q1.out
 have mc := yB HX.out.below Q2.out
 go_upto_region 3 with (fail)
 try simp only [Reg.SF]
 refine Reg.det [Reg.k 38 (.slice (some ad) n0 c0), Reg.k 39 (.pointer (some ⟨g3, 1, none⟩)), Reg.k 40 (.int .i64 a), Reg.k 41 (.pointer (some qa)), Reg.k 42 (.pointer (some qa)), Reg.k 43 (.agg #[.int .i64 t0, .int .i64 t1, .bool t2]), (some 5, Reg.Dv.box 5 49 (fun _ => #[.int .i64 0, .int .i64 0, .bool false]) [] true), (none, Reg.Dv.box 5 49 (fun _ => #[.int .i64 t0, .int .i64 t1, .bool t2]) [] false)] [(6, 7)] 75 rfl (by kernel_rfl) (by kernel_rfl) ?s3 ?_
 case s3 =>
  intro iq oq pq hiq hoq hpq ρ ev W S hE hO ec ef hB hft hΦ
  have e0 : ev (.tmp 0) = .slice (some ad) n0 c0 := hO 0 rfl
  have e3 : ev (.tmp 3) = .pointer (some ⟨g3, 0, none⟩) := hO 3 rfl
  have mg3_1 := HX.pc hB 1 1 (.int .i64 a) rfl rfl
  have ma' := yB hB ma
  have mb' := yB hB mb
  have mc' := yB hB mc
  simp only [Reg.SV] at hE
  obtain ⟨e38, e39, e40, e41, e42, e43, e5, _⟩ := hE
  rcases Reg.lt8 hiq with rfl | rfl | rfl | rfl | rfl | rfl | rfl | rfl
  all_goals (cases hoq; cases hpq)
  rotate_left 7
  ·exact Reg.D.fill 6 49 (.tmp 5) (.tmp 43) hB e5 (by first | assumption | rfl | (simp [*]; done)) (hΦ 6 _ rfl rfl rfl) info49s (by first | rfl | (simp only [Reg.SV]; rfl))
  rotate_right 7
  rotate_left 6
  ·refine Reg.D.box hB ?_
   go_simp
   try rfl
  rotate_right 6
  all_goals try exact Reg.D.mv hB
  all_goals (refine Reg.D.cv hB ?_; go_simp; try (first | done | rfl | (rw [← hq]; rfl) | (simp [h0, h1, hq]; done)))
 intro ρ W3 S hB hft hap hΦ
 simp only [Reg.SV, Reg.SF, Nat.reduceAdd]
 obtain ⟨g5, e5, s5, hg5, _, b5⟩ := hΦ 7 _ rfl rfl
 replace e5 : ρ 5 = .pointer (some ⟨g5, 0, none⟩) := e5
 try simp only [e5]
 replace b5 : W3.heap[g5]? = some (.cells #[.int .i64 t0, .int .i64 t1, .bool t2] 49 (0, 0)) := b5
 have HX := yC.mk (HX.out.join (Bxs.one hB hg5 b5))
 clear hΦ hft hap 
 clear ma mb mc
 rcases hk with ⟨rfl, rfl, rfl, rfl, rfl⟩ | ⟨rfl, rfl, rfl, rfl, rfl⟩ | ⟨rfl, rfl, rfl, rfl, rfl⟩
 ·skip
  go_upto_region 4 with (fail)
  try simp only [Reg.SF]
  refine Reg.det [Reg.k 44 (.pointer (some ⟨g3, 0, none⟩)), Reg.k 45 (.int .i64 1), Reg.k 46 (.bool true), Reg.k 47 (.bool true), Reg.k 48 (.pointer (some ⟨g3, 2, none⟩)), Reg.k 49 (.int .i64 0), Reg.k 50 (.bool false), Reg.k 51 (.bool false)] [] 75 rfl (by kernel_rfl) (by kernel_rfl) ?s4 ?_
  case s4 =>
   intro iq oq pq hiq hoq hpq ρ ev W S hE hO ec ef hB hft hΦ
   have e3 : ev (.tmp 3) = .pointer (some ⟨g3, 0, none⟩) := hO 3 rfl
   have mg3_0 := HX.pc hB 2 0 (.int .i64 1) rfl rfl
   have mg3_2 := HX.pc hB 2 2 (.int .i64 0) rfl rfl
   simp only [Reg.SV] at hE
   obtain ⟨e44, e45, e46, e47, e48, e49, e50, e51, _⟩ := hE
   rcases Reg.lt8 hiq with rfl | rfl | rfl | rfl | rfl | rfl | rfl | rfl
   all_goals (cases hoq; cases hpq)
   all_goals try exact Reg.D.mv hB
   all_goals exact Reg.D.cx hB
  intro ρ W4 S hB hft hap hΦ
  simp only [Reg.SV, Reg.SF, Nat.reduceAdd]
  have HX := HX.cl hB
  clear hΦ hft hap 
  go_upto_region 6 with (fail)
  try simp only [Reg.SF]
  refine Reg.det [Reg.k 53 (.pointer (some ⟨g3, 0, none⟩)), Reg.k 54 (.int .i64 1), Reg.k 55 (.bool true)] [] 75 rfl (by kernel_rfl) (by kernel_rfl) ?s5 ?_
  case s5 =>
   intro iq oq pq hiq hoq hpq ρ ev W S hE hO ec ef hB hft hΦ
   have e3 : ev (.tmp 3) = .pointer (some ⟨g3, 0, none⟩) := hO 3 rfl
   have mg3_0 := HX.pc hB 2 0 (.int .i64 1) rfl rfl
   simp only [Reg.SV] at hE
   obtain ⟨e53, e54, e55, _⟩ := hE
   rcases Reg.lt3 hiq with rfl | rfl | rfl
   all_goals (cases hoq; cases hpq)
   all_goals exact Reg.D.cx hB
  intro ρ W6 S hB hft hap hΦ
  simp only [Reg.SV, Reg.SF, Nat.reduceAdd]
  have HX := HX.cl hB
  clear hΦ hft hap 
  go_upto_region 7 with (fail)
  try simp only [Reg.SF]
  refine Reg.det [Reg.k 56 (.agg #[.int .i64 t0, .int .i64 t1, .bool t2]), Reg.k 57 (.agg #[.int .i64 t0, .int .i64 t1, .bool t2, .bool true])] [] 75 rfl (by kernel_rfl) (by kernel_rfl) ?s6 ?_
  case s6 =>
   intro iq oq pq hiq hoq hpq ρ ev W S hE hO ec ef hB hft hΦ
   have e5 : ev (.tmp 5) = .pointer (some ⟨g5, 0, none⟩) := hO 5 rfl
   have mg5_0 := HX.pc hB 0 0 (.int .i64 t0) rfl rfl
   have mg5_1 := HX.pc hB 0 1 (.int .i64 t1) rfl rfl
   have mg5_2 := HX.pc hB 0 2 (.bool t2) rfl rfl
   simp only [Reg.SV] at hE
   obtain ⟨e56, e57, _⟩ := hE
   rcases Reg.lt2 hiq with rfl | rfl
   all_goals (cases hoq; cases hpq)
   all_goals exact Reg.D.cx hB
  intro ρ W7 S hB hft hap hΦ
  simp only [Reg.SV, Reg.SF, Nat.reduceAdd]
  have HX := HX.cl hB
  clear hΦ hft hap 
  refine xG (w := w) rfl 85 (.tmp 4) (.tmp 57) rfl rfl (L1 := [_]) (cells := #[.int .i64 t0, .int .i64 t1, .bool t2, .bool true]) HX.out rfl rfl (by kernel_rfl) rfl rfl ?_
  intro Wp hx
  have HX := yC.mk hx
  clear hx
  go_wp2_with fail
  refine bodyPost_ret (results_cell_row rfl _ _ g4 85 #[.int .i64 t0, .int .i64 t1, .bool t2, .bool true] (0, 0) _ rfl (HX.out.at 1 rfl) hu rfl (by kernel_rfl)) rfl ?_
  exact ⟨rfl, HX.out.below⟩
 ·skip
  go_upto_region 4 with (fail)
  try simp only [Reg.SF]
  refine Reg.det [Reg.k 44 (.pointer (some ⟨g3, 0, none⟩)), Reg.k 45 (.int .i64 2), Reg.k 46 (.bool false), Reg.k 47 (.bool false), Reg.u 48, Reg.u 49, Reg.u 50, Reg.k 51 (.bool false)] [] 75 rfl (by kernel_rfl) (by kernel_rfl) ?s7 ?_
  case s7 =>
   intro iq oq pq hiq hoq hpq ρ ev W S hE hO ec ef hB hft hΦ
   have e3 : ev (.tmp 3) = .pointer (some ⟨g3, 0, none⟩) := hO 3 rfl
   have mg3_0 := HX.pc hB 2 0 (.int .i64 2) rfl rfl
   simp only [Reg.SV] at hE
   obtain ⟨e44, e45, e46, e47, e48, e49, e50, e51, _⟩ := hE
   rcases Reg.lt8 hiq with rfl | rfl | rfl | rfl | rfl | rfl | rfl | rfl
   all_goals (cases hoq; cases hpq)
   all_goals (first | exact Reg.D.sk hB | skip)
   all_goals try exact Reg.D.mv hB
   all_goals exact Reg.D.cx hB
  intro ρ W4 S hB hft hap hΦ
  simp only [Reg.SV, Reg.SF, Nat.reduceAdd]
  have HX := HX.cl hB
  clear hΦ hft hap 
  go_upto_region 6 with (fail)
  try simp only [Reg.SF]
  refine Reg.det [Reg.k 53 (.pointer (some ⟨g3, 0, none⟩)), Reg.k 54 (.int .i64 2), Reg.k 55 (.bool false)] [] 75 rfl (by kernel_rfl) (by kernel_rfl) ?s8 ?_
  case s8 =>
   intro iq oq pq hiq hoq hpq ρ ev W S hE hO ec ef hB hft hΦ
   have e3 : ev (.tmp 3) = .pointer (some ⟨g3, 0, none⟩) := hO 3 rfl
   have mg3_0 := HX.pc hB 2 0 (.int .i64 2) rfl rfl
   simp only [Reg.SV] at hE
   obtain ⟨e53, e54, e55, _⟩ := hE
   rcases Reg.lt3 hiq with rfl | rfl | rfl
   all_goals (cases hoq; cases hpq)
   all_goals exact Reg.D.cx hB
  intro ρ W6 S hB hft hap hΦ
  simp only [Reg.SV, Reg.SF, Nat.reduceAdd]
  have HX := HX.cl hB
  clear hΦ hft hap 
  go_upto_region 8 with (fail)
  try simp only [Reg.SF]
  refine Reg.det [Reg.k 58 (.pointer (some ⟨g5, 0, none⟩)), Reg.k 59 (.int .i64 2), Reg.k 60 (.bool false)] [] 75 rfl (by kernel_rfl) (by kernel_rfl) ?s9 ?_
  case s9 =>
   intro iq oq pq hiq hoq hpq ρ ev W S hE hO ec ef hB hft hΦ
   have e5 : ev (.tmp 5) = .pointer (some ⟨g5, 0, none⟩) := hO 5 rfl
   have mg5_0 := HX.pc hB 0 0 (.int .i64 2) rfl rfl
   simp only [Reg.SV] at hE
   obtain ⟨e58, e59, e60, _⟩ := hE
   rcases Reg.lt3 hiq with rfl | rfl | rfl
   all_goals (cases hoq; cases hpq)
   all_goals exact Reg.D.cx hB
  intro ρ W8 S hB hft hap hΦ
  simp only [Reg.SV, Reg.SF, Nat.reduceAdd]
  have HX := HX.cl hB
  clear hΦ hft hap 
  go_upto_region 10 with (fail)
  try simp only [Reg.SF]
  refine Reg.det [Reg.k 62 (.pointer (some ⟨g3, 0, none⟩)), Reg.k 63 (.int .i64 2), Reg.k 64 (.bool true)] [] 75 rfl (by kernel_rfl) (by kernel_rfl) ?s10 ?_
  case s10 =>
   intro iq oq pq hiq hoq hpq ρ ev W S hE hO ec ef hB hft hΦ
   have e3 : ev (.tmp 3) = .pointer (some ⟨g3, 0, none⟩) := hO 3 rfl
   have mg3_0 := HX.pc hB 2 0 (.int .i64 2) rfl rfl
   simp only [Reg.SV] at hE
   obtain ⟨e62, e63, e64, _⟩ := hE
   rcases Reg.lt3 hiq with rfl | rfl | rfl
   all_goals (cases hoq; cases hpq)
   all_goals exact Reg.D.cx hB
  intro ρ W10 S hB hft hap hΦ
  simp only [Reg.SV, Reg.SF, Nat.reduceAdd]
  have HX := HX.cl hB
  clear hΦ hft hap 
  go_upto_region 11 with (fail)
  try simp only [Reg.SF]
  refine Reg.det [Reg.k 65 (.pointer (some ⟨g3, 2, none⟩)), Reg.k 66 (.int .i64 s), Reg.k 67 (.pointer (some ⟨g5, 2, none⟩)), Reg.k 68 (.bool t2), Reg.k 69 (.agg #[.int .i64 2, .int .i64 s, .bool t2]), Reg.k 70 (.agg #[.int .i64 2, .int .i64 s, .bool t2, .bool true])] [] 75 rfl (by kernel_rfl) (by kernel_rfl) ?s11 ?_
  case s11 =>
   intro iq oq pq hiq hoq hpq ρ ev W S hE hO ec ef hB hft hΦ
   have e3 : ev (.tmp 3) = .pointer (some ⟨g3, 0, none⟩) := hO 3 rfl
   have e5 : ev (.tmp 5) = .pointer (some ⟨g5, 0, none⟩) := hO 5 rfl
   have mg3_2 := HX.pc hB 2 2 (.int .i64 s) rfl rfl
   have mg5_2 := HX.pc hB 0 2 (.bool t2) rfl rfl
   simp only [Reg.SV] at hE
   obtain ⟨e65, e66, e67, e68, e69, e70, _⟩ := hE
   rcases Reg.lt6 hiq with rfl | rfl | rfl | rfl | rfl | rfl
   all_goals (cases hoq; cases hpq)
   all_goals exact Reg.D.cx hB
  intro ρ W11 S hB hft hap hΦ
  simp only [Reg.SV, Reg.SF, Nat.reduceAdd]
  have HX := HX.cl hB
  clear hΦ hft hap 
  refine xG (w := w) rfl 85 (.tmp 4) (.tmp 70) rfl rfl (L1 := [_]) (cells := #[.int .i64 2, .int .i64 s, .bool t2, .bool true]) HX.out rfl rfl (by kernel_rfl) rfl rfl ?_
  intro Wp hx
  have HX := yC.mk hx
  clear hx
  go_wp2_with fail
  refine bodyPost_ret (results_cell_row rfl _ _ g4 85 #[.int .i64 2, .int .i64 s, .bool t2, .bool true] (0, 0) _ rfl (HX.out.at 1 rfl) hu rfl (by kernel_rfl)) rfl ?_
  exact ⟨rfl, HX.out.below⟩
 ·skip
  go_upto_region 4 with (fail)
  try simp only [Reg.SF]
  refine Reg.det [Reg.k 44 (.pointer (some ⟨g3, 0, none⟩)), Reg.k 45 (.int .i64 3), Reg.k 46 (.bool false), Reg.k 47 (.bool false), Reg.u 48, Reg.u 49, Reg.u 50, Reg.k 51 (.bool false)] [] 75 rfl (by kernel_rfl) (by kernel_rfl) ?s12 ?_
  case s12 =>
   intro iq oq pq hiq hoq hpq ρ ev W S hE hO ec ef hB hft hΦ
   have e3 : ev (.tmp 3) = .pointer (some ⟨g3, 0, none⟩) := hO 3 rfl
   have mg3_0 := HX.pc hB 2 0 (.int .i64 3) rfl rfl
   simp only [Reg.SV] at hE
   obtain ⟨e44, e45, e46, e47, e48, e49, e50, e51, _⟩ := hE
   rcases Reg.lt8 hiq with rfl | rfl | rfl | rfl | rfl | rfl | rfl | rfl
   all_goals (cases hoq; cases hpq)
   all_goals (first | exact Reg.D.sk hB | skip)
   all_goals try exact Reg.D.mv hB
   all_goals exact Reg.D.cx hB
  intro ρ W4 S hB hft hap hΦ
  simp only [Reg.SV, Reg.SF, Nat.reduceAdd]
  have HX := HX.cl hB
  clear hΦ hft hap 
  go_upto_region 6 with (fail)
  try simp only [Reg.SF]
  refine Reg.det [Reg.k 53 (.pointer (some ⟨g3, 0, none⟩)), Reg.k 54 (.int .i64 3), Reg.k 55 (.bool false)] [] 75 rfl (by kernel_rfl) (by kernel_rfl) ?s13 ?_
  case s13 =>
   intro iq oq pq hiq hoq hpq ρ ev W S hE hO ec ef hB hft hΦ
   have e3 : ev (.tmp 3) = .pointer (some ⟨g3, 0, none⟩) := hO 3 rfl
   have mg3_0 := HX.pc hB 2 0 (.int .i64 3) rfl rfl
   simp only [Reg.SV] at hE
   obtain ⟨e53, e54, e55, _⟩ := hE
   rcases Reg.lt3 hiq with rfl | rfl | rfl
   all_goals (cases hoq; cases hpq)
   all_goals exact Reg.D.cx hB
  intro ρ W6 S hB hft hap hΦ
  simp only [Reg.SV, Reg.SF, Nat.reduceAdd]
  have HX := HX.cl hB
  clear hΦ hft hap 
  go_upto_region 8 with (fail)
  try simp only [Reg.SF]
  refine Reg.det [Reg.k 58 (.pointer (some ⟨g5, 0, none⟩)), Reg.k 59 (.int .i64 2), Reg.k 60 (.bool false)] [] 75 rfl (by kernel_rfl) (by kernel_rfl) ?s14 ?_
  case s14 =>
   intro iq oq pq hiq hoq hpq ρ ev W S hE hO ec ef hB hft hΦ
   have e5 : ev (.tmp 5) = .pointer (some ⟨g5, 0, none⟩) := hO 5 rfl
   have mg5_0 := HX.pc hB 0 0 (.int .i64 2) rfl rfl
   simp only [Reg.SV] at hE
   obtain ⟨e58, e59, e60, _⟩ := hE
   rcases Reg.lt3 hiq with rfl | rfl | rfl
   all_goals (cases hoq; cases hpq)
   all_goals exact Reg.D.cx hB
  intro ρ W8 S hB hft hap hΦ
  simp only [Reg.SV, Reg.SF, Nat.reduceAdd]
  have HX := HX.cl hB
  clear hΦ hft hap 
  go_upto_region 10 with (fail)
  try simp only [Reg.SF]
  refine Reg.det [Reg.k 62 (.pointer (some ⟨g3, 0, none⟩)), Reg.k 63 (.int .i64 3), Reg.k 64 (.bool false)] [] 75 rfl (by kernel_rfl) (by kernel_rfl) ?s15 ?_
  case s15 =>
   intro iq oq pq hiq hoq hpq ρ ev W S hE hO ec ef hB hft hΦ
   have e3 : ev (.tmp 3) = .pointer (some ⟨g3, 0, none⟩) := hO 3 rfl
   have mg3_0 := HX.pc hB 2 0 (.int .i64 3) rfl rfl
   simp only [Reg.SV] at hE
   obtain ⟨e62, e63, e64, _⟩ := hE
   rcases Reg.lt3 hiq with rfl | rfl | rfl
   all_goals (cases hoq; cases hpq)
   all_goals exact Reg.D.cx hB
  intro ρ W10 S hB hft hap hΦ
  simp only [Reg.SV, Reg.SF, Nat.reduceAdd]
  have HX := HX.cl hB
  clear hΦ hft hap 
  go_upto_region 12 with (fail)
  try simp only [Reg.SF]
  refine Reg.det [Reg.k 71 (.pointer (some ⟨g5, 2, none⟩)), Reg.k 72 (.bool t2), Reg.k 73 (.agg #[.int .i64 3, .int .i64 0, .bool t2]), Reg.k 74 (.agg #[.int .i64 3, .int .i64 0, .bool t2, .bool true])] [] 75 rfl (by kernel_rfl) (by kernel_rfl) ?s16 ?_
  case s16 =>
   intro iq oq pq hiq hoq hpq ρ ev W S hE hO ec ef hB hft hΦ
   have e5 : ev (.tmp 5) = .pointer (some ⟨g5, 0, none⟩) := hO 5 rfl
   have mg5_2 := HX.pc hB 0 2 (.bool t2) rfl rfl
   simp only [Reg.SV] at hE
   obtain ⟨e71, e72, e73, e74, _⟩ := hE
   rcases Reg.lt4 hiq with rfl | rfl | rfl | rfl
   all_goals (cases hoq; cases hpq)
   all_goals exact Reg.D.cx hB
  intro ρ W12 S hB hft hap hΦ
  simp only [Reg.SV, Reg.SF, Nat.reduceAdd]
  have HX := HX.cl hB
  clear hΦ hft hap 
  refine xG (w := w) rfl 85 (.tmp 4) (.tmp 74) rfl rfl (L1 := [_]) (cells := #[.int .i64 3, .int .i64 0, .bool t2, .bool true]) HX.out rfl rfl (by kernel_rfl) rfl rfl ?_
  intro Wp hx
  have HX := yC.mk hx
  clear hx
  go_wp2_with fail
  refine bodyPost_ret (results_cell_row rfl _ _ g4 85 #[.int .i64 3, .int .i64 0, .bool t2, .bool true] (0, 0) _ rfl (HX.out.at 1 rfl) hu rfl (by kernel_rfl)) rfl ?_
  exact ⟨rfl, HX.out.below⟩
theorem plainR_calls {k : Nat} {l0 : List S57} {x : S29} (h : vOk (k + 1) l0 x) (hx : x.f0 ≤ 3) (A0 : Option Addr) (c0 : Nat) (A : Option Addr) (c : Nat) (w : World) (hr0 : Kd.C k57 w A0 l0.length l0) :
  Calls Tryz.prog 59 #[.slice A0 l0.length c0, .agg (lC x A c)] w fun e w' => e = .returned (.agg #[.int .i64 (tailV k l0 x).1.f0, .int .i64 (tailV k l0 x).1.f1, .bool (tailV k l0 x).1.f2, .bool true]) ∧ Below w.heap.size w w' := by
 obtain ⟨⟨h1, ha0, ha1⟩, hnum⟩ := vOk_plain h hx
 obtain ⟨hd, d, hv⟩ := h
 obtain ⟨_, _, h2, h3, _, h5, _⟩ := of_inv hv
 rw [show arK x.f0 = 0 from if_pos hx] at h2 h3
 unfold okA at h3
 rw [if_neg (by decide)] at h3
 obtain ⟨h6, _, _⟩ := of_decide_eq_true h3
 have h4 : x.f4 = [] := List.eq_nil_of_length_eq_zero (by omega)
 obtain ⟨ad, e, q0, q1, q2, _⟩ := at_T57 hr0 x.f1 ha0 ha1
 subst e
 obtain ⟨k', a, s, sep, l4⟩ := x
 dsimp only at h1 ha0 ha1 hnum h5 h6 h4 q0 q1 q2 hx
 subst h6 h4
 have hs : (0 ≤ s ∧ s ≤ 6) ∧ (k' = 1 → s = 0) := by
  by_cases e1 : k' = 1
  ·unfold tailV tyVal at h5
   dsimp only at h5
   rw [if_pos e1] at h5
   split at h5
   ·rename_i hs; exact ⟨by omega, fun _ => hs⟩
   ·cases h5
  ·exact ⟨⟨(hnum e1).1, (hnum e1).2.1⟩, fun h => absurd h e1⟩
 refine plain_walk k' a s _ _ (xC l0 a).f0.f0 (xC l0 a).f0.f1 _ (xC l0 a).f0.f2 A ad _ c l0.length c0 ?_ ha0 ha1 hs.1.1 hs.1.2 rfl w ⟨q0⟩ ⟨q1⟩ ⟨q2⟩
 have hk : k' = 1 ∨ k' = 2 ∨ k' = 3 := by omega
 rcases hk with rfl | rfl | rfl
 ·obtain rfl := hs.2 rfl
  exact .inl ⟨rfl, rfl, rfl, rfl, rfl⟩
 ·have hn := hnum (by decide)
  refine .inr (.inl ⟨rfl, hn.2.2, ?_⟩)
  have : tailV k l0 ⟨2, a, s, ⟨#[]⟩, []⟩ = (⟨2, s, (xC l0 a).f0.f2⟩, true) := by unfold tailV xP; dsimp only; rw [if_neg (by decide), if_pos rfl, if_pos ⟨hn.2.2, hn.1, hn.2.1⟩]
  rw [this]; exact ⟨rfl, rfl, rfl⟩
 ·have hn := hnum (by decide)
  refine .inr (.inr ⟨rfl, hn.2.2, ?_⟩)
  have hsc : xP l0 ⟨3, a, s, ⟨#[]⟩, []⟩ = (⟨2, s, (xC l0 a).f0.f2⟩, true) := by unfold xP; dsimp only; rw [if_pos ⟨hn.2.2, hn.1, hn.2.1⟩]
  have : tailV k l0 ⟨3, a, s, ⟨#[]⟩, []⟩ = (⟨3, 0, (xC l0 a).f0.f2⟩, true) := by unfold tailV tyShow; dsimp only; rw [if_neg (by decide), if_neg (by decide), if_pos rfl, hsc, if_pos rfl]
  rw [this]; exact ⟨rfl, rfl, rfl⟩
end
section
open Go.RowKit YtmebkjdknhknbaaGreatDoor.G
def toR (l0 : List S57) (x : S29) (T : S49) : Prop := ∀ (A0 : Option Addr) (c0 : Nat) (A : Option Addr) (c : Nat) (w : World), l0.length ≤ c0 → Kd.C k57 w A0 l0.length l0 → x.f4.length ≤ c → k29.C w A x.f4.length x.f4 →
 Calls Tryz.prog 40 #[.slice A0 l0.length c0, .agg (lC x A c)] w fun e w' => e = .returned (.agg #[.int .i64 T.f0, .int .i64 T.f1, .bool T.f2, .bool true]) ∧ Below w.heap.size w w'
theorem OfR_all (l0 : List S57) : ∀ (k : Nat) (x : S29), k ≤ 3 → vOk k l0 x → toR l0 x (tailV (k - 1) l0 x).1 := by
 intro k
 induction k with
 | zero => intro x _ h; exact h.1.elim
 | succ k ih =>
  intro x hk h A0 c0 A c w hc0 hr0 hlc hC
  have HD : ∀ w', Below w.heap.size w w' → Calls Tryz.prog 48 #[.agg (lC x A c), .int .i64 3] w' fun e w'' => e = .returned (.bool false) ∧ Below w'.heap.size w' w'' := fun w' hb => by
   obtain ⟨K, hK⟩ := deeper_no (k + 1) x h.1 3 (by omega) (by decide)
   exact chapmanref16_deeper.calls K x.f0 x.f1 x.f2 x.f3 A c x.f4 3 false w' (Kd.yI hC hb) hlc hK
  rw [show k + 1 - 1 = k from rfl]
  by_cases hx : x.f0 ≤ 3
  ·have HP : ∀ w', Below w.heap.size w w' → Calls Tryz.prog 59 #[.slice A0 l0.length c0, .agg (lC x A c)] w' fun e w'' => e = .returned (.agg #[.int .i64 (tailV k l0 x).1.f0, .int .i64 (tailV k l0 x).1.f1, .bool (tailV k l0 x).1.f2, .bool true]) ∧ Below w'.heap.size w' w'' := fun w' hb =>
    plainR_calls h hx A0 c0 A c w' (Kd.yI hr0 hb)
   have h1 := (vOk_plain h hx).1.1
   generalize (tailV k l0 x).1 = T at *
   obtain ⟨K, a, s, sep, l4⟩ := x
   dsimp only at h1 hx
   exact ofRa K a s ⟨by omega⟩ sep A A0 _ c _ c0 _ _ _ w ⟨HD⟩ ⟨HP⟩
  ·obtain ⟨h4, h5, h6⟩ := xQ h hx
   obtain ⟨e1, e2, hs, hkt, hnul, ht⟩ := parts_inv h (by omega) hx
   have hkid := fun (i : Nat) (hi : i < x.f4.length) => ih (yM x.f4 (i : Int)) (by omega) (vOk_kid h i hi)
   have HS : ∀ w', Below w.heap.size w w' → Calls Tryz.prog 93 #[.string x.f3] w' fun e w'' => e = .returned (.bool true) ∧ Below w'.heap.size w' w'' := fun w' hb =>
    (chapmanref16_sep.calls 2 x.f3 true w' hs).mono fun e w'' h => ⟨h.1, xS h.2⟩
   rw [ht]
   generalize hT : (fun y : S29 => (tailV (k - 1) l0 y).1) = TT at *
   have hT' : ∀ y, (tailV (k - 1) l0 y).1 = TT y := fun y => by rw [← hT]
   simp only [hT'] at hkid hkt hnul ⊢
   clear hT hT' ht ih
   obtain ⟨K, a, s, sep, l4⟩ := x
   dsimp only at h4 h5 h6 e1 e2 hx hkid hkt hnul HS hlc hC ⊢
   subst e1 e2
   have h3 : K = 4 ∨ K = 5 ∨ K = 6 := by omega
   have hp0 : 0 < l4.length := by split at h6 <;> omega
   have k0 := hkid 0 hp0
   have t0 := hkt 0 hp0
   have HKw : ∀ w', Below w.heap.size w w' → Kd.C k57 w' A0 l0.length l0 ∧ k29.C w' A l4.length l4 := fun w' hb => ⟨Kd.yI hr0 hb, Kd.yI hC hb⟩
   have hkt' := hkt
   clear hkt
   rcases h3 with rfl | rfl | rfl
   ·have hl : l4.length = 1 := by have := h6; simp at this; omega
    unfold lC at HD ⊢
    dsimp only at HD ⊢
    have HP : ∀ w', Below w.heap.size w w' → Calls Tryz.prog 60 #[.slice A0 l0.length c0, .agg #[.int .i64 4, .int .i64 0, .int .i64 0, .string sep, .slice A l4.length c]] w' fun e w'' => e = .returned (.agg #[.int .i64 3, .int .i64 0, .bool ((TT (yM l4 ((0 : Nat) : Int))).f2 || decide ((4 : Int) = 5)), .bool true]) ∧ Below w'.heap.size w' w'' := fun w' hb => by
     obtain ⟨hr0', hC'⟩ := HKw w' hb
     have HS' := fun (w'' : World) (hb' : Below w'.heap.size w' w'') => HS w'' (yD hb hb')
     obtain ⟨ad, q, B, d, e, e0, K0⟩ := kid hC' 0 hp0
     cases e
     generalize yM l4 ((0 : Nat) : Int) = y at *
     generalize TT y = T at *
     obtain ⟨y0, y1, y2, y3, l5⟩ := y
     obtain ⟨T0, T1, T2⟩ := T
     dsimp only at t0 ⊢
     subst t0
     rw [hl]
     have R := partsR4 sep ad q q A0 c l0.length c0 T1 0 T2 false y0 y1 y2 y3 B l5.length d w' ⟨HS'⟩ ⟨⟨K0.k0, K0.k1, K0.k2, K0.k3, K0.k4⟩⟩ e0 ⟨fun w'' hb' => k0 A0 c0 B d w'' hc0 (Kd.yI hr0' hb') K0.len (Kd.yI K0.has hb')⟩
     rw [show (T2 || decide ((4 : Int) = 5)) = T2 from by cases T2 <;> rfl]
     exact R
    exact ofRb 4 0 0 ⟨by decide⟩ sep A A0 _ c _ c0 _ _ _ w ⟨HD⟩ ⟨HP⟩
   ·have hl : l4.length = 1 := by have := h6; simp at this; omega
    unfold lC at HD ⊢
    dsimp only at HD ⊢
    have HP : ∀ w', Below w.heap.size w w' → Calls Tryz.prog 60 #[.slice A0 l0.length c0, .agg #[.int .i64 5, .int .i64 0, .int .i64 0, .string sep, .slice A l4.length c]] w' fun e w'' => e = .returned (.agg #[.int .i64 3, .int .i64 0, .bool ((TT (yM l4 ((0 : Nat) : Int))).f2 || decide ((5 : Int) = 5)), .bool true]) ∧ Below w'.heap.size w' w'' := fun w' hb => by
     obtain ⟨hr0', hC'⟩ := HKw w' hb
     have HS' := fun (w'' : World) (hb' : Below w'.heap.size w' w'') => HS w'' (yD hb hb')
     obtain ⟨ad, q, B, d, e, e0, K0⟩ := kid hC' 0 hp0
     cases e
     generalize yM l4 ((0 : Nat) : Int) = y at *
     generalize TT y = T at *
     obtain ⟨y0, y1, y2, y3, l5⟩ := y
     obtain ⟨T0, T1, T2⟩ := T
     dsimp only at t0 ⊢
     subst t0
     rw [hl]
     have R := partsR5 sep ad q q A0 c l0.length c0 T1 0 T2 false y0 y1 y2 y3 B l5.length d w' ⟨HS'⟩ ⟨⟨K0.k0, K0.k1, K0.k2, K0.k3, K0.k4⟩⟩ e0 ⟨fun w'' hb' => k0 A0 c0 B d w'' hc0 (Kd.yI hr0' hb') K0.len (Kd.yI K0.has hb')⟩
     rw [show (T2 || decide ((5 : Int) = 5)) = true from by cases T2 <;> rfl]
     exact R
    exact ofRb 5 0 0 ⟨by decide⟩ sep A A0 _ c _ c0 _ _ _ w ⟨HD⟩ ⟨HP⟩
   ·have hl : l4.length = 2 := by have := h6; simp at this; omega
    have k1 := hkid 1 (by omega)
    have n0 := hnul rfl
    unfold lC at HD ⊢
    dsimp only at HD ⊢
    have HP : ∀ w', Below w.heap.size w w' → Calls Tryz.prog 60 #[.slice A0 l0.length c0, .agg #[.int .i64 6, .int .i64 0, .int .i64 0, .string sep, .slice A l4.length c]] w' fun e w'' => e = .returned (.agg #[.int .i64 3, .int .i64 0, .bool ((TT (yM l4 ((0 : Nat) : Int))).f2 || decide ((6 : Int) = 5)), .bool true]) ∧ Below w'.heap.size w' w'' := fun w' hb => by
     obtain ⟨hr0', hC'⟩ := HKw w' hb
     have HS' := fun (w'' : World) (hb' : Below w'.heap.size w' w'') => HS w'' (yD hb hb')
     obtain ⟨ad, q, B, d, e, e0, K0⟩ := kid hC' 0 hp0
     obtain ⟨ad', q', B', d', e', e1, K1⟩ := kid hC' 1 (by omega)
     have ea : ad = ad' := by rw [e] at e'; exact Option.some.inj e'
     subst ea
     have t1 := hkt' 1 (by omega)
     cases e
     generalize yM l4 ((0 : Nat) : Int) = y at *
     generalize yM l4 ((1 : Nat) : Int) = z at *
     generalize hTz : TT z = Tz at *
     obtain ⟨z0, z1, z2, z3, l6⟩ := z
     obtain ⟨U0, U1, U2⟩ := Tz
     dsimp only at t1
     subst t1
     generalize TT y = T at *
     obtain ⟨y0, y1, y2, y3, l5⟩ := y
     obtain ⟨T0, T1, T2⟩ := T
     dsimp only at t0 n0 ⊢
     subst t0 n0
     rw [hl]
     have R := partsR6 sep ad q q' A0 c l0.length c0 T1 U1 false U2 y0 y1 y2 y3 B l5.length d z0 z1 z2 z3 B' l6.length d' w' ⟨HS'⟩ ⟨⟨K0.k0, K0.k1, K0.k2, K0.k3, K0.k4⟩⟩ e0 ⟨fun w'' hb' => k0 A0 c0 B d w'' hc0 (Kd.yI hr0' hb') K0.len (Kd.yI K0.has hb')⟩ ⟨⟨K1.k0, K1.k1, K1.k2, K1.k3, K1.k4⟩⟩ e1 ⟨fun w'' hb' => k1 A0 c0 B' d' w'' hc0 (Kd.yI hr0' hb') K1.len (Kd.yI K1.has hb')⟩
     exact R
    exact ofRb 6 0 0 ⟨by decide⟩ sep A A0 _ c _ c0 _ _ _ w ⟨HD⟩ ⟨HP⟩
theorem TypeR_calls (l0 : List S57) (x : S29) (T : S49) (h : toR l0 x T) (A0 : Option Addr) (c0 : Nat) (A : Option Addr) (c : Nat) (w : World) (hc0 : l0.length ≤ c0) (hr0 : Kd.C k57 w A0 l0.length l0) (hlc : x.f4.length ≤ c) (hC : k29.C w A x.f4.length x.f4) :
  Calls Tryz.prog 16 #[.slice A0 l0.length c0, .agg (lC x A c)] w fun e w' => e = .returned (.agg (tyC T)) ∧ Below w.heap.size w w' := by
 have hu := Tryz.underlying85
 have hu2 := Tryz.underlying29
 have hu3 := Tryz.underlying49
 have HX := yC.mk (Bxs.start w)
 have HD := yC.mk (fun (w' : World) (hb : Below w.heap.size w w') => h A0 c0 A c w' hc0 (Kd.yI hr0 hb) hlc (Kd.yI hC hb))
 obtain ⟨k, a, s, sep, l4⟩ := x
 obtain ⟨T0, T1, T2⟩ := T
 unfold lC tyC at *
 dsimp only at HD ⊢
 generalize l4.length = n4 at *
 generalize l0.length = n0 at *
 clear h hr0 hlc hC hc0
 go_enter Tryz.func16, Tryz.ntmps16
 go_upto_region 0 with (fail)
 refine Reg.det [(some 3, Reg.Dv.box 3 29 (fun _ => #[.int .i64 k, .int .i64 a, .int .i64 s, .string sep, .slice A n4 c]) [] true), (some 4, Reg.Dv.box 4 49 (fun _ => #[.int .i64 0, .int .i64 0, .bool false]) [] true)] [] 9 rfl (by kernel_rfl) (by kernel_rfl) ?s32 ?_
 case s32 =>
  intro iq oq pq hiq hoq hpq ρ ev W S hE hO ec ef hB hft hΦ
  have e1 : ev (.tmp 1) = .agg #[.int .i64 k, .int .i64 a, .int .i64 s, .string sep, .slice A n4 c] := hO 1 rfl
  simp only [Reg.SV] at hE
  obtain ⟨e3, e4, _⟩ := hE
  rcases Reg.lt2 hiq with rfl | rfl
  all_goals (cases hoq; cases hpq)
  rotate_left 1
  ·refine Reg.D.box hB ?_
   go_simp
   try rfl
  rotate_right 1
  ·refine Reg.D.box hB ?_
   go_simp
   try rfl
 intro ρ W0 S hB hft hap hΦ
 simp only [Reg.SV, Reg.SF, Nat.reduceAdd]
 obtain ⟨g3, e3, s3, hg3, _, b3⟩ := hΦ 0 _ rfl rfl
 replace e3 : ρ 3 = .pointer (some ⟨g3, 0, none⟩) := e3
 obtain ⟨g4, e4, s4, hg4, _, b4⟩ := hΦ 1 _ rfl rfl
 replace e4 : ρ 4 = .pointer (some ⟨g4, 0, none⟩) := e4
 try simp only [e3, e4]
 replace b3 : W0.heap[g3]? = some (.cells #[.int .i64 k, .int .i64 a, .int .i64 s, .string sep, .slice A n4 c] 29 (0, 0)) := b3
 replace b4 : W0.heap[g4]? = some (.cells #[.int .i64 0, .int .i64 0, .bool false] 49 (0, 0)) := b4
 have HX := yC.mk (HX.out.join ((Bxs.one hB hg3 b3).more hg4 b4 (by intro p hp; simp only [List.mem_cons, List.mem_singleton, List.not_mem_nil, or_false] at hp; rcases hp with rfl <;> (intro e; dsimp only at e; subst e; first | exact absurd (hap _ _ _ s3 s4) (by decide)))))
 clear hΦ hft hap 
 go_upto_region 1 with (fail)
 try simp only [Reg.SF]
 refine Reg.det [Reg.k 5 (.slice A0 n0 c0), Reg.k 6 (.agg #[.int .i64 k, .int .i64 a, .int .i64 s, .string sep, .slice A n4 c]), Reg.k 7 (.agg #[.int .i64 T0, .int .i64 T1, .bool T2, .bool true]), Reg.k 8 (.agg #[.int .i64 T0, .int .i64 T1, .bool T2])] [] 9 rfl (by kernel_rfl) (by kernel_rfl) ?s33 ?_
 case s33 =>
  intro iq oq pq hiq hoq hpq ρ ev W S hE hO ec ef hB hft hΦ
  have e0 : ev (.tmp 0) = .slice A0 n0 c0 := hO 0 rfl
  have e3 : ev (.tmp 3) = .pointer (some ⟨g3, 0, none⟩) := hO 3 rfl
  have mg3_0 := HX.pc hB 1 0 (.int .i64 k) rfl rfl
  have mg3_1 := HX.pc hB 1 1 (.int .i64 a) rfl rfl
  have mg3_2 := HX.pc hB 1 2 (.int .i64 s) rfl rfl
  have mg3_3 := HX.pc hB 1 3 (.string sep) rfl rfl
  have mg3_4 := HX.pc hB 1 4 (.slice A n4 c) rfl rfl
  simp only [Reg.SV] at hE
  obtain ⟨e5, e6, e7, e8, _⟩ := hE
  rcases Reg.lt4 hiq with rfl | rfl | rfl | rfl
  all_goals (cases hoq; cases hpq)
  rotate_left 2
  ·refine Reg.D.cc (g := 40) (args := #[.slice A0 n0 c0, .agg #[.int .i64 k, .int .i64 a, .int .i64 s, .string sep, .slice A n4 c]]) hB (by go_simp; try rfl) ?_
   exact HD.out W (yD HX.out.below hB)
  rotate_right 2
  all_goals try exact Reg.D.mv hB
  all_goals exact Reg.D.cx hB
 intro ρ W1 S hB hft hap hΦ
 simp only [Reg.SV, Reg.SF, Nat.reduceAdd]
 have HX := HX.cl hB
 clear hΦ hft hap 
 refine xG (w := w) rfl 49 (.tmp 4) (.tmp 8) rfl rfl (L1 := []) (cells := #[.int .i64 T0, .int .i64 T1, .bool T2]) HX.out rfl rfl (by kernel_rfl) rfl rfl ?_
 intro Wp hx
 have HX := yC.mk hx
 clear hx
 go_wp2_with fail
 refine bodyPost_ret (results_cell_row rfl _ _ g4 49 #[.int .i64 T0, .int .i64 T1, .bool T2] (0, 0) _ rfl (HX.out.at 0 rfl) hu3 rfl (by kernel_rfl)) rfl ?_
 exact ⟨rfl, HX.out.below⟩
end
section
open Go.RowKit
theorem two45 {x : Int} (h : x < 2) (h2 : x = 0 ∨ x = 1 ∨ x = 2) : ∃ (J : Nat) (KD : Int), x = (J : Int) ∧ J < 2 ∧ (#[.int .i64 4, .int .i64 5] : Array Value)[J]? = some (.int .i64 KD) ∧ (KD = 4 ∨ KD = 5) := by
 rcases h2 with rfl | rfl | rfl
 ·exact ⟨0, 4, rfl, by decide, rfl, .inl rfl⟩
 ·exact ⟨1, 5, rfl, by decide, rfl, .inr rfl⟩
 ·exact absurd h (by decide)
theorem composed_calls (l0 : List S57) (A0 B : Option Addr) (c0 nb cb I : Nat) (n p nm p2 p7 K KK : Int) (SP : ByteArray) (SC : Int) (Px Q : S29 → Prop) (Gd : S29 → S49 → Prop) (w : World) (hnm : IntKind.i64.wrap (n - 1) = nm) (hp2 : IntKind.i64.wrap (p + 2) = p2) (hp7 : IntKind.i64.wrap (p + 7) = p7) (hKK : IntKind.i64.wrap (Int.tdiv K 2) = KK) (hd3 : IntKind.i64.wrap (Int.tdiv KK 3) = Int.tdiv KK 3)
  (hI : Int.tmod (Int.tdiv KK 3) 4 = (I : Int)) (hI4 : I < 4) (hSP : (#[.string (⟨#[32]⟩ : ByteArray), .string (⟨#[44]⟩ : ByteArray), .string (⟨#[46]⟩ : ByteArray), .string (⟨#[97]⟩ : ByteArray)] : Array Value)[I]? = some (.string SP)) (hmode : Int.tmod KK 3 = 0 ∨ Int.tmod KK 3 = 1 ∨ Int.tmod KK 3 = 2) (hS : Int.tmod KK 7 = SC) (hPT : ∀ x, Px x → ∃ T, toR l0 x T ∧ Gd x T) (hTT : toR l0 ⟨1, 1, 0, ⟨#[]⟩, []⟩ ⟨3, 0, false⟩) (hGT : Gd ⟨1, 1, 0, ⟨#[]⟩, []⟩ ⟨3, 0, false⟩) (hGS : ∃ U, Gd ⟨3, 0, SC, ⟨#[]⟩, []⟩ U ∧ U.f0 = 3)
  (hOne : ∀ (K' : Int) x T, (K' = 4 ∨ K' = 5) → Gd x T → T.f0 = 3 → Q ⟨K', 0, 0, SP, [x]⟩) (hTwo : ∀ x T y U, Gd x T → T.f0 = 3 → T.f2 = false → Gd y U → U.f0 = 3 → Q ⟨6, 0, 0, SP, [x, y]⟩) (hc0 : l0.length ≤ c0) (hr0 : Kd.C k57 w A0 l0.length l0)
  (HK : yC (∀ w', Below w.heap.size w w' → Calls Tryz.prog 36 #[.slice B nb cb, .int .i64 p] w' fun e w'' => e = .returned (.int .i64 K) ∧ Below w'.heap.size w' w''))
  (HA2 : yC (∀ w', Below w.heap.size w w' → Calls Tryz.prog 31 #[.slice A0 l0.length c0, .slice B nb cb, .agg #[.int .i64 nm, .int .i64 p2]] w' fun e w'' => (∃ v, e = .returned v ∧ lnP Px v w'.heap.size w'' (fun _ => True)) ∧ Below w'.heap.size w' w''))
  (HA7 : yC (∀ w', Below w.heap.size w w' → Calls Tryz.prog 31 #[.slice A0 l0.length c0, .slice B nb cb, .agg #[.int .i64 nm, .int .i64 p7]] w' fun e w'' => (∃ v, e = .returned v ∧ lnP Px v w'.heap.size w'' (fun _ => True)) ∧ Below w'.heap.size w' w'')) :
  Calls Tryz.prog 52 #[.slice A0 l0.length c0, .slice B nb cb, .agg #[.int .i64 n, .int .i64 p]] w fun e w' => (∃ v, e = .returned v ∧ lnP Q v w.heap.size w' (fun _ => True)) ∧ Below w.heap.size w w' := by
 have hu := Tryz.underlying72
 have hu2 := Tryz.underlying29
 have hu3 := Tryz.underlying49
 have hu4 := Tryz.underlying57
 obtain ⟨SU, hGS⟩ := hGS
 have HX := yC.mk (Bxs.start w)
 go_enter Tryz.func52, Tryz.ntmps52
 go_upto_region 0 with (fail)
 refine Reg.det [(some 5, Reg.Dv.box 5 72 (fun _ => #[.int .i64 n, .int .i64 p]) [] true), (some 6, Reg.Dv.box 6 29 (fun _ => #[.int .i64 0, .int .i64 0, .int .i64 0, .string (⟨#[]⟩ : ByteArray), .slice none 0 0]) [] true)] [] 78 rfl (by kernel_rfl) (by kernel_rfl) ?s1 ?_
 case s1 =>
  intro iq oq pq hiq hoq hpq ρ ev W S hE hO ec ef hB hft hΦ
  have e2 : ev (.tmp 2) = .agg #[.int .i64 n, .int .i64 p] := hO 2 rfl
  simp only [Reg.SV, val_ln] at hE
  obtain ⟨e5, e6, _⟩ := hE
  rcases Reg.lt2 hiq with rfl | rfl
  all_goals (cases hoq; cases hpq)
  rotate_left 1
  ·refine Reg.D.box hB ?_
   go_simp
   try rfl
  rotate_right 1
  ·refine Reg.D.box hB ?_
   go_simp
   try rfl
 intro ρ W0 S hB hft hap hΦ
 simp only [Reg.SV, val_ln, Reg.SF, Nat.reduceAdd]
 obtain ⟨g5, e5, s5, hg5, _, b5⟩ := hΦ 0 _ rfl rfl
 replace e5 : ρ 5 = .pointer (some ⟨g5, 0, none⟩) := e5
 obtain ⟨g6, e6, s6, hg6, _, b6⟩ := hΦ 1 _ rfl rfl
 replace e6 : ρ 6 = .pointer (some ⟨g6, 0, none⟩) := e6
 try simp only [e5, e6]
 replace b5 : W0.heap[g5]? = some (.cells #[.int .i64 n, .int .i64 p] 72 (0, 0)) := b5
 replace b6 : W0.heap[g6]? = some (.cells #[.int .i64 0, .int .i64 0, .int .i64 0, .string (⟨#[]⟩ : ByteArray), .slice none 0 0] 29 (0, 0)) := b6
 have HX := yC.mk (HX.out.join ((Bxs.one hB hg5 b5).more hg6 b6 (by intro p hp; simp only [List.mem_cons, List.mem_singleton, List.not_mem_nil, or_false] at hp; rcases hp with rfl <;> (intro e; dsimp only at e; subst e; first | exact absurd (hap _ _ _ s5 s6) (by decide)))))
 clear hΦ hft hap 
 go_upto_region 1 with (fail)
 try simp only [Reg.SF]
 refine Reg.det [Reg.k 11 (.slice B nb cb), Reg.k 12 (.pointer (some ⟨g5, 1, none⟩)), Reg.k 13 (.int .i64 p), Reg.k 14 (.int .i64 K), Reg.k 15 (.int .i64 KK), Reg.k 7 (.int .i64 KK)] [] 78 rfl (by kernel_rfl) (by kernel_rfl) ?s2 ?_
 case s2 =>
  intro iq oq pq hiq hoq hpq ρ ev W S hE hO ec ef hB hft hΦ
  have e1 : ev (.tmp 1) = .slice B nb cb := hO 1 rfl
  have e5 : ev (.tmp 5) = .pointer (some ⟨g5, 0, none⟩) := hO 5 rfl
  have mg5_1 := HX.pc hB 1 1 (.int .i64 p) rfl rfl
  simp only [Reg.SV, val_ln] at hE
  obtain ⟨e11, e12, e13, e14, e15, e7, _⟩ := hE
  rcases Reg.lt6 hiq with rfl | rfl | rfl | rfl | rfl | rfl
  all_goals (cases hoq; cases hpq)
  rotate_left 3
  ·refine Reg.D.cc (g := 36) (args := #[.slice B nb cb, .int .i64 p]) hB (by go_simp; try rfl) ?_
   exact HK.out W (yD HX.out.below hB)
  rotate_right 3
  all_goals try exact Reg.D.mv hB
  all_goals (refine Reg.D.cv hB ?_; go_simp; try (first | done | rfl | (exact hKK) | (exact hd3) | (exact hI) | (exact hp2) | (exact hp7) | (exact hnm) | (simp; done)))
 intro ρ W1 S hB hft hap hΦ
 simp only [Reg.SV, val_ln, Reg.SF, Nat.reduceAdd]
 have HX := HX.cl hB
 clear hΦ hft hap 
 go_upto_region 2 with (fail)
 try simp only [Reg.SF]
 refine Reg.det [(some 16, Reg.Dv.blk 16 9 4 #[.string (⟨#[32]⟩ : ByteArray), .string (⟨#[44]⟩ : ByteArray), .string (⟨#[46]⟩ : ByteArray), .string (⟨#[97]⟩ : ByteArray)]), Reg.k 17 (.int .i64 KK), Reg.k 18 (.int .i64 (Int.tdiv KK 3)), Reg.k 19 (.int .i64 (I : Int)), (some 20, Reg.Dv.u [16] (fun l => elemPtr (l.headD undef) I)), Reg.k 21 (.string SP), Reg.k 8 (.string SP)] [] 78 rfl (by kernel_rfl) (by kernel_rfl) ?s3 ?_
 case s3 =>
  intro iq oq pq hiq hoq hpq ρ ev W S hE hO ec ef hB hft hΦ
  have e7 : ev (.tmp 7) = .int .i64 KK := hO 7 rfl
  simp only [Reg.SV, val_ln] at hE
  obtain ⟨e16, e17, e18, e19, e20, e21, e8, _⟩ := hE
  rcases Reg.lt7 hiq with rfl | rfl | rfl | rfl | rfl | rfl | rfl
  all_goals (cases hoq; cases hpq)
  rotate_left 5
  ·obtain ⟨gb, h16, _, _, _, hb16⟩ := hΦ 0 _ rfl rfl rfl
   replace h16 : ρ 16 = .slice (some ⟨gb, 0, none⟩) 4 4 := h16
   have hc16 : W.cell? ⟨gb, I, none⟩ = some (.string SP) := (yO hb16 I).trans hSP
   rw [h16] at e20
   change ev (.tmp 20) = .pointer (some ⟨gb, 0 + I, none⟩) at e20
   refine Reg.D.cv hB ?_
   go_simp
  rotate_right 5
  rotate_left 4
  ·obtain ⟨_, h16, _⟩ := hΦ 0 _ rfl rfl rfl
   replace h16 : ρ 16 = _ := h16
   refine Reg.D.uv hB ?_
   go_simp
   try (first | done | rfl | (exact hd3) | (exact hI) | (rw [h16]; rfl) | (rw [if_pos (show (I : Int) < 4 by omega)]; simp [elemPtr]; done) | (simp [h16, elemPtr, hI4]; done) | (simp; done))
  rotate_right 4
  ·refine Reg.D.blk hB ?_
   go_simp
   try (first | rfl | exact ⟨rfl, rfl⟩)
  all_goals try exact Reg.D.mv hB
  all_goals (refine Reg.D.cv hB ?_; go_simp; try (first | done | rfl | (exact hd3) | (exact hI) | (rw [h16]; rfl) | (rw [if_pos (show (I : Int) < 4 by omega)]; simp [elemPtr]; done) | (simp [h16, elemPtr, hI4]; done) | (simp; done)))
 intro ρ W2 S hB hft hap hΦ
 simp only [Reg.SV, val_ln, Reg.SF, Nat.reduceAdd]
 obtain ⟨g16, e16, s16, hg16, _, b16⟩ := hΦ 0 _ rfl rfl
 replace e16 : ρ 16 = .slice (some ⟨g16, 0, none⟩) 4 4 := e16
 try simp only [e16]
 replace b16 : W2.heap[g16]? = some (.cells #[.string (⟨#[32]⟩ : ByteArray), .string (⟨#[44]⟩ : ByteArray), .string (⟨#[46]⟩ : ByteArray), .string (⟨#[97]⟩ : ByteArray)] 9 (0, 0)) := b16
 have HX := yC.mk (HX.out.join (Bxs.one hB hg16 b16))
 clear hΦ hft hap 
 have hw2 := HX.out.below.size
 have g6lt := blk_lt (HX.out.at 1 rfl)
 go_upto_region 3 with (fail)
 try simp only [Reg.SF]
 refine Reg.det [Reg.k 22 (.slice A0 l0.length c0), Reg.k 23 (.slice B nb cb), Reg.k 24 (.pointer (some ⟨g5, 0, none⟩)), Reg.k 25 (.int .i64 n), Reg.k 26 (.int .i64 nm), Reg.k 27 (.pointer (some ⟨g5, 1, none⟩)), Reg.k 28 (.int .i64 p), Reg.k 29 (.int .i64 p2), Reg.k 30 (.agg #[.int .i64 nm, .int .i64 p2]), (some 31, lnDv 31 Px), Reg.k 32 (.slice A0 l0.length c0), Reg.k 33 (.slice B nb cb), Reg.k 34 (.pointer (some ⟨g5, 0, none⟩)), Reg.k 35 (.int .i64 n), Reg.k 36 (.int .i64 nm), Reg.k 37 (.pointer (some ⟨g5, 1, none⟩)), Reg.k 38 (.int .i64 p), Reg.k 39 (.int .i64 p7), Reg.k 40 (.agg #[.int .i64 nm, .int .i64 p7]), (some 41, lnDv 41 Px), (some 9, Reg.Dv.box 9 29 (fun _ => #[.int .i64 0, .int .i64 0, .int .i64 0, .string (⟨#[]⟩ : ByteArray), .slice none 0 0]) [] true), (some 10, Reg.Dv.box 10 29 (fun _ => #[.int .i64 0, .int .i64 0, .int .i64 0, .string (⟨#[]⟩ : ByteArray), .slice none 0 0]) [] true), (none, Reg.Dv.box 9 29 (fun l => (l.headD undef).cells) [31] false), (none, Reg.Dv.box 10 29 (fun l => (l.headD undef).cells) [41] false)] [(20, 22), (21, 23)] 78 rfl (by kernel_rfl) (by kernel_rfl) ?s4 ?_
 case s4 =>
  intro iq oq pq hiq hoq hpq ρ ev W S hE hO ec ef hB hft hΦ
  have e0 : ev (.tmp 0) = .slice A0 l0.length c0 := hO 0 rfl
  have e1 : ev (.tmp 1) = .slice B nb cb := hO 1 rfl
  have e5 : ev (.tmp 5) = .pointer (some ⟨g5, 0, none⟩) := hO 5 rfl
  have mg5_0 := HX.pc hB 2 0 (.int .i64 n) rfl rfl
  have mg5_1 := HX.pc hB 2 1 (.int .i64 p) rfl rfl
  simp only [Reg.SV, val_ln] at hE
  obtain ⟨e22, e23, e24, e25, e26, e27, e28, e29, e30, e31, e32, e33, e34, e35, e36, e37, e38, e39, e40, e41, e9, e10, _⟩ := hE
  rcases Reg.lt24 hiq with rfl | rfl | rfl | rfl | rfl | rfl | rfl | rfl | rfl | rfl | rfl | rfl | rfl | rfl | rfl | rfl | rfl | rfl | rfl | rfl | rfl | rfl | rfl | rfl
  all_goals (cases hoq; cases hpq)
  rotate_left 23
  ·obtain ⟨xx, vv, h41, _, hr_⟩ := hΦ 19 _ rfl rfl rfl
   obtain ⟨Ag, cg, hv_⟩ := Kd.R_slice hr_
   subst hv_
   replace h41 : ρ 41 = .agg #[.int .i64 xx.f0, .int .i64 xx.f1, .int .i64 xx.f2, .string xx.f3, .slice Ag xx.f4.length cg] := h41
   exact Reg.DStep.fill (us := [41]) (cs := fun l => (l.headD undef).cells) 21 (by decide) 29 (.tmp 10) (.tmp 41) rfl (by first | exact .inl rfl | exact .inr ⟨_, _, _, rfl, rfl, (by assumption)⟩) hB e10 (by rw [e41]; show ρ 41 = .agg (Value.cells (ρ 41)); rw [h41]; rfl) (hΦ 21 _ rfl rfl rfl) (by show _ = some (Value.cells (ρ 41)).size; rw [h41]; exact info29a) (by show _ = (Value.cells (ρ 41)).size; rw [h41]; rfl) (by show ((Value.cells (ρ 41)).toList.all _) = true; rw [h41]; rfl)
  rotate_right 23
  rotate_left 22
  ·obtain ⟨xx, vv, h31, _, hr_⟩ := hΦ 9 _ rfl rfl rfl
   obtain ⟨Ag, cg, hv_⟩ := Kd.R_slice hr_
   subst hv_
   replace h31 : ρ 31 = .agg #[.int .i64 xx.f0, .int .i64 xx.f1, .int .i64 xx.f2, .string xx.f3, .slice Ag xx.f4.length cg] := h31
   exact Reg.DStep.fill (us := [31]) (cs := fun l => (l.headD undef).cells) 20 (by decide) 29 (.tmp 9) (.tmp 31) rfl (by first | exact .inl rfl | exact .inr ⟨_, _, _, rfl, rfl, (by assumption)⟩) hB e9 (by rw [e31]; show ρ 31 = .agg (Value.cells (ρ 31)); rw [h31]; rfl) (hΦ 20 _ rfl rfl rfl) (by show _ = some (Value.cells (ρ 31)).size; rw [h31]; exact info29a) (by show _ = (Value.cells (ρ 31)).size; rw [h31]; rfl) (by show ((Value.cells (ρ 31)).toList.all _) = true; rw [h31]; rfl)
  rotate_right 22
  rotate_left 21
  ·refine Reg.D.box hB ?_
   go_simp
   try rfl
  rotate_right 21
  rotate_left 20
  ·refine Reg.D.box hB ?_
   go_simp
   try rfl
  rotate_right 20
  rotate_left 19
  ·refine Reg.D.call (g := 31) (args := #[.slice A0 l0.length c0, .slice B nb cb, .agg #[.int .i64 nm, .int .i64 p7]]) (by go_simp; try rfl) ?_
   exact ln_step hB (HA7.out W (yD HX.out.below hB))
  rotate_right 19
  rotate_left 9
  ·refine Reg.D.call (g := 31) (args := #[.slice A0 l0.length c0, .slice B nb cb, .agg #[.int .i64 nm, .int .i64 p2]]) (by go_simp; try rfl) ?_
   exact ln_step hB (HA2.out W (yD HX.out.below hB))
  rotate_right 9
  all_goals try exact Reg.D.mv hB
  all_goals (refine Reg.D.cv hB ?_; go_simp; try (first | done | rfl | (exact hp2) | (exact hp7) | (exact hnm) | (simp; done)))
 intro ρ W3 S hB hft hap hΦ
 simp only [Reg.SV, val_ln, Reg.SF, Nat.reduceAdd]
 obtain ⟨x9, v9, e31, P9, r9⟩ := hΦ 9 _ rfl rfl
 obtain ⟨A9, c9, ev9⟩ := Kd.R_slice r9
 subst ev9
 replace e31 : ρ 31 = .agg #[.int .i64 x9.f0, .int .i64 x9.f1, .int .i64 x9.f2, .string x9.f3, .slice A9 x9.f4.length c9] := e31
 have RX9 := yC.mk (Kd.xE (ok' := fun k => S 9 k ∧ W2.heap.size ≤ k) (Kd.R_bound r9) (fun k hk => ⟨hk.1, hk.2.1⟩))
 clear r9
 obtain ⟨x10, v10, e41, P10, r10⟩ := hΦ 19 _ rfl rfl
 obtain ⟨A10, c10, ev10⟩ := Kd.R_slice r10
 subst ev10
 replace e41 : ρ 41 = .agg #[.int .i64 x10.f0, .int .i64 x10.f1, .int .i64 x10.f2, .string x10.f3, .slice A10 x10.f4.length c10] := e41
 have RX10 := yC.mk (Kd.xE (ok' := fun k => S 19 k ∧ W2.heap.size ≤ k) (Kd.R_bound r10) (fun k hk => ⟨hk.1, hk.2.1⟩))
 clear r10
 obtain ⟨g9, e9, s9, hg9, _, b9⟩ := hΦ 22 _ rfl rfl
 replace e9 : ρ 9 = .pointer (some ⟨g9, 0, none⟩) := e9
 obtain ⟨g10, e10, s10, hg10, _, b10⟩ := hΦ 23 _ rfl rfl
 replace e10 : ρ 10 = .pointer (some ⟨g10, 0, none⟩) := e10
 replace b9 : W3.heap[g9]? = some (.cells (Value.cells (ρ 31)) 29 (0, 0)) := b9
 rw [e31] at b9
 replace b10 : W3.heap[g10]? = some (.cells (Value.cells (ρ 41)) 29 (0, 0)) := b10
 rw [e41] at b10
 try simp only [e31, e41, e9, e10]
 replace b9 : W3.heap[g9]? = some (.cells #[.int .i64 x9.f0, .int .i64 x9.f1, .int .i64 x9.f2, .string x9.f3, .slice A9 x9.f4.length c9] 29 (0, 0)) := b9
 replace b10 : W3.heap[g10]? = some (.cells #[.int .i64 x10.f0, .int .i64 x10.f1, .int .i64 x10.f2, .string x10.f3, .slice A10 x10.f4.length c10] 29 (0, 0)) := b10
 have HX := yC.mk (HX.out.join ((Bxs.one hB hg9 b9).more hg10 b10 (by intro p hp; simp only [List.mem_cons, List.mem_singleton, List.not_mem_nil, or_false] at hp; rcases hp with rfl <;> (intro e; dsimp only at e; subst e; first | exact absurd (hap _ _ _ s9 s10) (by decide)))))
 replace RX9 := yC.mk (Kd.xE (ok' := fun k => k ≠ g9 ∧ k ≠ g10 ∧ W2.heap.size ≤ k) RX9.out (fun k hk => ⟨fun e => by subst e; exact absurd (hap _ _ _ hk.1 s9) (by decide), fun e => by subst e; exact absurd (hap _ _ _ hk.1 s10) (by decide), hk.2⟩))
 replace RX10 := yC.mk (Kd.xE (ok' := fun k => k ≠ g9 ∧ k ≠ g10 ∧ W2.heap.size ≤ k) RX10.out (fun k hk => ⟨fun e => by subst e; exact absurd (hap _ _ _ hk.1 s9) (by decide), fun e => by subst e; exact absurd (hap _ _ _ hk.1 s10) (by decide), hk.2⟩))
 clear hΦ hft hap 
 obtain ⟨⟨u0, u1, u2⟩, hT9, hG9⟩ := hPT _ P9
 obtain ⟨⟨v0, v1, v2⟩, hT10, hG10⟩ := hPT _ P10
 clear P9 P10 HK HA2 HA7
 obtain ⟨c46, hc46⟩ : ∃ b, (u0 != 3) = b := ⟨_, rfl⟩
 have C46 := yC.mk hc46
 clear hc46
 obtain ⟨c52, hc52⟩ : ∃ b, (v0 != 3) = b := ⟨_, rfl⟩
 have C52 := yC.mk hc52
 clear hc52
 go_upto_region 4 with (fail)
 try simp only [Reg.SF]
 refine Reg.det [Reg.k 42 (.slice A0 l0.length c0), Reg.k 43 (.agg #[.int .i64 x9.f0, .int .i64 x9.f1, .int .i64 x9.f2, .string x9.f3, .slice A9 x9.f4.length c9]), Reg.k 44 (.agg #[.int .i64 u0, .int .i64 u1, .bool u2]), Reg.k 45 (.int .i64 u0), Reg.k 46 (.bool c46)] [] 78 rfl (by kernel_rfl) (by kernel_rfl) ?s5 ?_
 case s5 =>
  intro iq oq pq hiq hoq hpq ρ ev W S hE hO ec ef hB hft hΦ
  have e0 : ev (.tmp 0) = .slice A0 l0.length c0 := hO 0 rfl
  have e9 : ev (.tmp 9) = .pointer (some ⟨g9, 0, none⟩) := hO 9 rfl
  have mg9_0 := HX.pc hB 1 0 (.int .i64 x9.f0) rfl rfl
  have mg9_1 := HX.pc hB 1 1 (.int .i64 x9.f1) rfl rfl
  have mg9_2 := HX.pc hB 1 2 (.int .i64 x9.f2) rfl rfl
  have mg9_3 := HX.pc hB 1 3 (.string x9.f3) rfl rfl
  have mg9_4 := HX.pc hB 1 4 (.slice A9 x9.f4.length c9) rfl rfl
  simp only [Reg.SV, val_ln] at hE
  obtain ⟨e42, e43, e44, e45, e46, _⟩ := hE
  rcases Reg.lt5 hiq with rfl | rfl | rfl | rfl | rfl
  all_goals (cases hoq; cases hpq)
  rotate_left 2
  ·refine Reg.D.cc (g := 16) (args := #[.slice A0 l0.length c0, .agg #[.int .i64 x9.f0, .int .i64 x9.f1, .int .i64 x9.f2, .string x9.f3, .slice A9 x9.f4.length c9]]) hB (by go_simp; try rfl) ?_
   exact TypeR_calls l0 x9 ⟨u0, u1, u2⟩ hT9 A0 c0 A9 c9 W hc0 (Kd.yI hr0 (yD HX.out.below hB)) (Kd.R_reads' RX9.out).2.1 (Kd.yI (Kd.R_reads' RX9.out).2.2 hB)
  rotate_right 2
  all_goals try exact Reg.D.mv hB
  all_goals (refine Reg.D.cv hB ?_; go_simp; try (first | done | rfl | (simp [C46.out]; done) | (rw [← C46.out]; simp; done) | (rw [← C46.out, decide_not]; rfl) | (simp; omega)))
 intro ρ W4 S hB hft hap hΦ
 simp only [Reg.SV, val_ln, Reg.SF, Nat.reduceAdd]
 have HX := HX.cl hB
 replace RX9 := yC.mk (Kd.yJ RX9.out hB)
 replace RX10 := yC.mk (Kd.yJ RX10.out hB)
 clear hΦ hft hap 
 go_upto_if 46 with (fail)
 go_cut [] (fun wd => ∃ (X : S29) (AX : Option Addr) (cX : Nat) (U : S49), yC (Bxs w wd [(g10, 29, #[.int .i64 x10.f0, .int .i64 x10.f1, .int .i64 x10.f2, .string x10.f3, .slice A10 x10.f4.length c10]), (g9, 29, #[.int .i64 X.f0, .int .i64 X.f1, .int .i64 X.f2, .string X.f3, .slice AX X.f4.length cX]), (g16, 9, #[.string (⟨#[32]⟩ : ByteArray), .string (⟨#[44]⟩ : ByteArray), .string (⟨#[46]⟩ : ByteArray), .string (⟨#[97]⟩ : ByteArray)]), (g6, 29, #[.int .i64 0, .int .i64 0, .int .i64 0, .string (⟨#[]⟩ : ByteArray), .slice none 0 0]), (g5, 72, #[.int .i64 n, .int .i64 p])]) ∧ yC (Kd.R k29 29 wd W2.heap.size (fun k => k ≠ g9 ∧ k ≠ g10 ∧ W2.heap.size ≤ k) (.slice AX X.f4.length cX) X.f4) ∧ yC (Kd.R k29 29 wd W2.heap.size (fun k => k ≠ g9 ∧ k ≠ g10 ∧ W2.heap.size ≤ k) (.slice A10 x10.f4.length c10) x10.f4) ∧ yC (Gd X U ∧ U.f0 = 3 ∧ toR l0 X U))
 case first =>
  cases c46 with
  | false =>
   go_wp2_with fail
   go_meet
   case rel => exact ⟨x9, A9, c9, ⟨u0, u1, u2⟩, HX, RX9, RX10, ⟨hG9, by have := C46.out; simpa using this, hT9⟩⟩
  | true =>
   go_upto_region 5 with (fail)
   try simp only [Reg.SF]
   refine Reg.det [Reg.k 47 (.agg #[.int .i64 1, .int .i64 1, .int .i64 0, .string (⟨#[]⟩ : ByteArray), .slice none 0 0])] [] 78 rfl (by kernel_rfl) (by kernel_rfl) ?s6 ?_
   case s6 =>
    intro iq oq pq hiq hoq hpq ρ ev W S hE hO ec ef hB hft hΦ
    simp only [Reg.SV, val_ln] at hE
    obtain ⟨e47, _⟩ := hE
    obtain rfl : iq = 0 := by have : iq < 1 := hiq; omega
    cases hoq; cases hpq
    all_goals exact Reg.D.cx hB
   intro ρ W5 S hB hft hap hΦ
   simp only [Reg.SV, val_ln, Reg.SF, Nat.reduceAdd]
   have HX := HX.cl hB
   replace RX9 := yC.mk (Kd.yJ RX9.out hB)
   replace RX10 := yC.mk (Kd.yJ RX10.out hB)
   clear hΦ hft hap 
   refine bx_putB (w := w) rfl 29 (.tmp 9) (.tmp 47) rfl rfl (L1 := [_]) (cells := #[.int .i64 1, .int .i64 1, .int .i64 0, .string (⟨#[]⟩ : ByteArray), .slice none 0 0]) HX.out rfl rfl (by kernel_rfl) rfl rfl ?_
   intro W5s hx hput
   have HX := yC.mk hx
   replace RX10 := yC.mk (Kd.R_step RX10.out (fun k hk _ => hput k (by exact hk.1)))
   clear hx hput
   go_wp2_with fail
   go_meet
   case rel => exact ⟨⟨1, 1, 0, ⟨#[]⟩, []⟩, none, 0, ⟨3, 0, false⟩, HX, ⟨R_none⟩, RX10, ⟨hGT, rfl, hTT⟩⟩
 clear HX RX9 RX10
 obtain ⟨X, AX, cX, ⟨t0, t1, t2⟩, HX, RXX, RX10, HXG⟩ := hcut
 generalize wc = W5c at *
 go_upto_region 6 with (fail)
 try simp only [Reg.SF]
 refine Reg.det [Reg.k 48 (.slice A0 l0.length c0), Reg.k 49 (.agg #[.int .i64 x10.f0, .int .i64 x10.f1, .int .i64 x10.f2, .string x10.f3, .slice A10 x10.f4.length c10]), Reg.k 50 (.agg #[.int .i64 v0, .int .i64 v1, .bool v2]), Reg.k 51 (.int .i64 v0), Reg.k 52 (.bool c52)] [] 78 rfl (by kernel_rfl) (by kernel_rfl) ?s7 ?_
 case s7 =>
  intro iq oq pq hiq hoq hpq ρ ev W S hE hO ec ef hB hft hΦ
  have e0 : ev (.tmp 0) = .slice A0 l0.length c0 := hO 0 rfl
  have e10 : ev (.tmp 10) = .pointer (some ⟨g10, 0, none⟩) := hO 10 rfl
  have mg10_0 := HX.pc hB 0 0 (.int .i64 x10.f0) rfl rfl
  have mg10_1 := HX.pc hB 0 1 (.int .i64 x10.f1) rfl rfl
  have mg10_2 := HX.pc hB 0 2 (.int .i64 x10.f2) rfl rfl
  have mg10_3 := HX.pc hB 0 3 (.string x10.f3) rfl rfl
  have mg10_4 := HX.pc hB 0 4 (.slice A10 x10.f4.length c10) rfl rfl
  simp only [Reg.SV, val_ln] at hE
  obtain ⟨e48, e49, e50, e51, e52, _⟩ := hE
  rcases Reg.lt5 hiq with rfl | rfl | rfl | rfl | rfl
  all_goals (cases hoq; cases hpq)
  rotate_left 2
  ·refine Reg.D.cc (g := 16) (args := #[.slice A0 l0.length c0, .agg #[.int .i64 x10.f0, .int .i64 x10.f1, .int .i64 x10.f2, .string x10.f3, .slice A10 x10.f4.length c10]]) hB (by go_simp; try rfl) ?_
   exact TypeR_calls l0 x10 ⟨v0, v1, v2⟩ hT10 A0 c0 A10 c10 W hc0 (Kd.yI hr0 (yD HX.out.below hB)) (Kd.R_reads' RX10.out).2.1 (Kd.yI (Kd.R_reads' RX10.out).2.2 hB)
  rotate_right 2
  all_goals try exact Reg.D.mv hB
  all_goals (refine Reg.D.cv hB ?_; go_simp; try (first | done | rfl | (simp [C52.out]; done) | (rw [← C52.out]; simp; done) | (rw [← C52.out, decide_not]; rfl) | (simp; omega)))
 intro ρ W6 S hB hft hap hΦ
 simp only [Reg.SV, val_ln, Reg.SF, Nat.reduceAdd]
 have HX := HX.cl hB
 replace RXX := yC.mk (Kd.yJ RXX.out hB)
 replace RX10 := yC.mk (Kd.yJ RX10.out hB)
 clear hΦ hft hap 
 go_upto_if 52 with (fail)
 go_cut [] (fun wd => ∃ (Y : S29) (AY : Option Addr) (cY : Nat), yC (Bxs w wd [(g10, 29, #[.int .i64 Y.f0, .int .i64 Y.f1, .int .i64 Y.f2, .string Y.f3, .slice AY Y.f4.length cY]), (g9, 29, #[.int .i64 X.f0, .int .i64 X.f1, .int .i64 X.f2, .string X.f3, .slice AX X.f4.length cX]), (g16, 9, #[.string (⟨#[32]⟩ : ByteArray), .string (⟨#[44]⟩ : ByteArray), .string (⟨#[46]⟩ : ByteArray), .string (⟨#[97]⟩ : ByteArray)]), (g6, 29, #[.int .i64 0, .int .i64 0, .int .i64 0, .string (⟨#[]⟩ : ByteArray), .slice none 0 0]), (g5, 72, #[.int .i64 n, .int .i64 p])]) ∧ yC (Kd.R k29 29 wd W2.heap.size (fun k => k ≠ g9 ∧ k ≠ g10 ∧ W2.heap.size ≤ k) (.slice AX X.f4.length cX) X.f4) ∧ yC (Kd.R k29 29 wd W2.heap.size (fun k => k ≠ g9 ∧ k ≠ g10 ∧ W2.heap.size ≤ k) (.slice AY Y.f4.length cY) Y.f4) ∧ yC (∃ V, Gd Y V ∧ V.f0 = 3))
 case first =>
  cases c52 with
  | false =>
   go_wp2_with fail
   go_meet
   case rel => exact ⟨x10, A10, c10, HX, RXX, RX10, ⟨_, hG10, by have := C52.out; simpa using this⟩⟩
  | true =>
   go_upto_region 7 with (fail)
   try simp only [Reg.SF]
   refine Reg.det [Reg.k 53 (.int .i64 KK), Reg.k 54 (.int .i64 SC), Reg.k 55 (.agg #[.int .i64 3, .int .i64 0, .int .i64 SC, .string (⟨#[]⟩ : ByteArray), .slice none 0 0])] [] 78 rfl (by kernel_rfl) (by kernel_rfl) ?s8 ?_
   case s8 =>
    intro iq oq pq hiq hoq hpq ρ ev W S hE hO ec ef hB hft hΦ
    have e7 : ev (.tmp 7) = .int .i64 KK := hO 7 rfl
    simp only [Reg.SV, val_ln] at hE
    obtain ⟨e53, e54, e55, _⟩ := hE
    rcases Reg.lt3 hiq with rfl | rfl | rfl
    all_goals (cases hoq; cases hpq)
    all_goals try exact Reg.D.mv hB
    all_goals (refine Reg.D.cv hB ?_; go_simp; try (first | done | rfl | (exact hS) | (simp [hS]; done)))
   intro ρ W7 S hB hft hap hΦ
   simp only [Reg.SV, val_ln, Reg.SF, Nat.reduceAdd]
   have HX := HX.cl hB
   replace RXX := yC.mk (Kd.yJ RXX.out hB)
   replace RX10 := yC.mk (Kd.yJ RX10.out hB)
   clear hΦ hft hap 
   refine bx_putB (w := w) rfl 29 (.tmp 10) (.tmp 55) rfl rfl (L1 := []) (cells := #[.int .i64 3, .int .i64 0, .int .i64 SC, .string (⟨#[]⟩ : ByteArray), .slice none 0 0]) HX.out rfl rfl (by kernel_rfl) rfl rfl ?_
   intro W7s hx hput
   have HX := yC.mk hx
   replace RXX := yC.mk (Kd.R_step RXX.out (fun k hk _ => hput k (by exact hk.2.1)))
   clear hx hput
   go_wp2_with fail
   go_meet
   case rel => exact ⟨⟨3, 0, SC, ⟨#[]⟩, []⟩, none, 0, HX, RXX, ⟨R_none⟩, ⟨SU, hGS⟩⟩
 clear HX RX10 RXX
 obtain ⟨Y, AY, cY, HX, RXX, RXY, HYG⟩ := hcut
 generalize wc = W7c at *
 obtain ⟨M, hM⟩ : ∃ M, Int.tmod KK 3 = M := ⟨_, rfl⟩
 rw [hM] at hmode
 obtain ⟨c58, hc58⟩ : ∃ b, decide (M < 2) = b := ⟨_, rfl⟩
 have C58 := yC.mk hc58
 clear hc58
 go_upto_region 8 with (fail)
 try simp only [Reg.SF]
 refine Reg.det [Reg.k 56 (.int .i64 KK), Reg.k 57 (.int .i64 M), Reg.k 58 (.bool c58)] [] 78 rfl (by kernel_rfl) (by kernel_rfl) ?s9 ?_
 case s9 =>
  intro iq oq pq hiq hoq hpq ρ ev W S hE hO ec ef hB hft hΦ
  have e7 : ev (.tmp 7) = .int .i64 KK := hO 7 rfl
  simp only [Reg.SV, val_ln] at hE
  obtain ⟨e56, e57, e58, _⟩ := hE
  rcases Reg.lt3 hiq with rfl | rfl | rfl
  all_goals (cases hoq; cases hpq)
  all_goals try exact Reg.D.mv hB
  all_goals (refine Reg.D.cv hB ?_; go_simp; try (first | done | rfl | (exact hM) | (simp [C58.out]; done) | (simp [hM]; done)))
 intro ρ W8 S hB hft hap hΦ
 simp only [Reg.SV, val_ln, Reg.SF, Nat.reduceAdd]
 have HX := HX.cl hB
 replace RXX := yC.mk (Kd.yJ RXX.out hB)
 replace RXY := yC.mk (Kd.yJ RXY.out hB)
 clear hΦ hft hap 
 cases c58 with
 | true =>
  obtain ⟨J, KD, hJ, hJ2, hKD, hKQ⟩ := two45 (of_decide_eq_true C58.out) hmode
  have RBX := yC.mk (Kd.xE (ok' := fun k => (k ≠ g9 ∧ k ≠ g10 ∧ W2.heap.size ≤ k) ∧ k < W8.heap.size) (Kd.R_bound RXX.out) (fun k hk => ⟨hk.1, hk.2.2.1⟩))
  have RBY := yC.mk (Kd.xE (ok' := fun k => (k ≠ g9 ∧ k ≠ g10 ∧ W2.heap.size ≤ k) ∧ k < W8.heap.size) (Kd.R_bound RXY.out) (fun k hk => ⟨hk.1, hk.2.2.1⟩))
  go_upto_region 9 with (fail)
  try simp only [Reg.SF]
  refine Reg.det [(some 59, Reg.Dv.blk 59 3 2 #[.int .i64 4, .int .i64 5]), Reg.k 60 (.int .i64 KK), Reg.k 61 (.int .i64 (J : Int)), (some 62, Reg.Dv.u [59] (fun l => elemPtr (l.headD undef) J)), Reg.k 63 (.int .i64 KD), Reg.k 64 (.string SP), Reg.k 65 (.agg #[.int .i64 X.f0, .int .i64 X.f1, .int .i64 X.f2, .string X.f3, .slice AX X.f4.length cX]), (some 66, Reg.Dv.blk 66 29 1 #[.int .i64 X.f0, .int .i64 X.f1, .int .i64 X.f2, .string X.f3, .slice AX X.f4.length cX]), (some 67, Reg.Dv.u [66] (fun l => .agg #[.int .i64 KD, .int .i64 0, .int .i64 0, .string SP, (l.headD undef)]))] [] 78 rfl (by kernel_rfl) (by kernel_rfl) ?s10 ?_
  case s10 =>
   intro iq oq pq hiq hoq hpq ρ ev W S hE hO ec ef hB hft hΦ
   have e7 : ev (.tmp 7) = .int .i64 KK := hO 7 rfl
   have e8 : ev (.tmp 8) = .string SP := hO 8 rfl
   have e9 : ev (.tmp 9) = .pointer (some ⟨g9, 0, none⟩) := hO 9 rfl
   have mg9_0 := HX.pc hB 1 0 (.int .i64 X.f0) rfl rfl
   have mg9_1 := HX.pc hB 1 1 (.int .i64 X.f1) rfl rfl
   have mg9_2 := HX.pc hB 1 2 (.int .i64 X.f2) rfl rfl
   have mg9_3 := HX.pc hB 1 3 (.string X.f3) rfl rfl
   have mg9_4 := HX.pc hB 1 4 (.slice AX X.f4.length cX) rfl rfl
   simp only [Reg.SV, val_ln] at hE
   obtain ⟨e59, e60, e61, e62, e63, e64, e65, e66, e67, _⟩ := hE
   rcases Reg.lt9 hiq with rfl | rfl | rfl | rfl | rfl | rfl | rfl | rfl | rfl
   all_goals (cases hoq; cases hpq)
   rotate_left 8
   ·obtain ⟨_, h66, _⟩ := hΦ 7 _ rfl rfl rfl
    replace h66 : ρ 66 = _ := h66
    refine Reg.D.uv hB ?_
    go_simp
    try (first | done | rfl | (rw [hM, hJ]; done) | (rw [hM]; exact congrArg _ hJ) | (rw [h59]; rfl) | (rw [if_pos (show (J : Int) < 2 by omega)]; simp [elemPtr]; done) | (simp [hM, hJ]; done) | (simp [h59, elemPtr]; done))
   rotate_right 8
   rotate_left 7
   ·refine Reg.D.blk hB ?_
    go_simp
    try (first | rfl | exact ⟨rfl, rfl⟩)
   rotate_right 7
   rotate_left 4
   ·obtain ⟨gb, h59, _, _, _, hb59⟩ := hΦ 0 _ rfl rfl rfl
    replace h59 : ρ 59 = .slice (some ⟨gb, 0, none⟩) 2 2 := h59
    have hc59 : W.cell? ⟨gb, J, none⟩ = some (.int .i64 KD) := (yO hb59 J).trans hKD
    rw [h59] at e62
    change ev (.tmp 62) = .pointer (some ⟨gb, 0 + J, none⟩) at e62
    refine Reg.D.cv hB ?_
    go_simp
   rotate_right 4
   rotate_left 3
   ·obtain ⟨_, h59, _⟩ := hΦ 0 _ rfl rfl rfl
    replace h59 : ρ 59 = _ := h59
    refine Reg.D.uv hB ?_
    go_simp
    try (first | done | rfl | (rw [hM, hJ]; done) | (rw [hM]; exact congrArg _ hJ) | (rw [h59]; rfl) | (rw [if_pos (show (J : Int) < 2 by omega)]; simp [elemPtr]; done) | (simp [hM, hJ]; done) | (simp [h59, elemPtr]; done))
   rotate_right 3
   ·refine Reg.D.blk hB ?_
    go_simp
    try (first | rfl | exact ⟨rfl, rfl⟩)
   all_goals try exact Reg.D.mv hB
   all_goals (refine Reg.D.cv hB ?_; go_simp; try (first | done | rfl | (rw [hM, hJ]; done) | (rw [hM]; exact congrArg _ hJ) | (rw [h59]; rfl) | (rw [if_pos (show (J : Int) < 2 by omega)]; simp [elemPtr]; done) | (simp [hM, hJ]; done) | (simp [h59, elemPtr]; done)))
  intro ρ W9 S hB hft hap hΦ
  simp only [Reg.SV, val_ln, Reg.SF, Nat.reduceAdd]
  obtain ⟨g59, e59, s59, hg59, _, b59⟩ := hΦ 0 _ rfl rfl
  replace e59 : ρ 59 = .slice (some ⟨g59, 0, none⟩) 2 2 := e59
  obtain ⟨g66, e66, s66, hg66, _, b66⟩ := hΦ 7 _ rfl rfl
  replace e66 : ρ 66 = .slice (some ⟨g66, 0, none⟩) 1 1 := e66
  try simp only [e59, e66]
  replace b59 : W9.heap[g59]? = some (.cells #[.int .i64 4, .int .i64 5] 3 (0, 0)) := b59
  replace b66 : W9.heap[g66]? = some (.cells #[.int .i64 X.f0, .int .i64 X.f1, .int .i64 X.f2, .string X.f3, .slice AX X.f4.length cX] 29 (0, 0)) := b66
  have HX := yC.mk (HX.out.join ((Bxs.one hB hg59 b59).more hg66 b66 (by intro p hp; simp only [List.mem_cons, List.mem_singleton, List.not_mem_nil, or_false] at hp; rcases hp with rfl <;> (intro e; dsimp only at e; subst e; first | exact absurd (hap _ _ _ s59 s66) (by decide)))))
  replace RXX := yC.mk (Kd.yJ RXX.out hB)
  replace RXY := yC.mk (Kd.yJ RXY.out hB)
  replace RBX := yC.mk (Kd.yJ RBX.out hB)
  replace RBY := yC.mk (Kd.yJ RBY.out hB)
  clear hΦ hft hap 
  refine bx_putB (w := w) rfl 29 (.tmp 6) (.tmp 67) rfl rfl (L1 := [_, _, _, _, _]) (cells := #[.int .i64 KD, .int .i64 0, .int .i64 0, .string SP, .slice (some ⟨g66, 0, none⟩) 1 1]) HX.out rfl rfl (by kernel_rfl) rfl rfl ?_
  intro W9s hx hput
  have HX := yC.mk hx
  replace RBX := yC.mk (Kd.R_step RBX.out (fun k hk _ => hput k (by have := hk.1.2.2; omega)))
  replace RBY := yC.mk (Kd.R_step RBY.out (fun k hk _ => hput k (by have := hk.1.2.2; omega)))
  clear hx hput
  go_wp2_with fail
  refine bodyPost_ret (results_cell_row rfl _ _ g6 29 #[.int .i64 KD, .int .i64 0, .int .i64 0, .string SP, .slice (some ⟨g66, 0, none⟩) 1 1] (0, 0) _ rfl (HX.out.at 5 rfl) hu2 rfl (by kernel_rfl)) rfl ?_
  exact ⟨⟨_, rfl, ⟨KD, 0, 0, SP, [X]⟩, _, rfl, hOne KD _ _ hKQ HXG.out.1 HXG.out.2.1, R_of_blk (HX.out.at 0 rfl) (HX.out.ge 0 rfl) trivial (Reps.c5 (k29_mkM _ _ _ X (Kd.xJ (Kd.xE (ok' := fun j => True ∧ j ≠ g66) RBX.out (fun j hk => ⟨trivial, by have := hk.2; omega⟩)) hw2)) (Reps.none _ _)) (show (1 : Nat) ≤ 9223372036854775807 by decide)⟩, HX.out.below⟩
 | false =>
  go_upto_region 10 with (fail)
  try simp only [Reg.SF]
  refine Reg.det [Reg.k 68 (.slice A0 l0.length c0), Reg.k 69 (.agg #[.int .i64 X.f0, .int .i64 X.f1, .int .i64 X.f2, .string X.f3, .slice AX X.f4.length cX]), Reg.k 70 (.agg #[.int .i64 t0, .int .i64 t1, .bool t2]), Reg.k 71 (.bool t2)] [] 78 rfl (by kernel_rfl) (by kernel_rfl) ?s11 ?_
  case s11 =>
   intro iq oq pq hiq hoq hpq ρ ev W S hE hO ec ef hB hft hΦ
   have e0 : ev (.tmp 0) = .slice A0 l0.length c0 := hO 0 rfl
   have e9 : ev (.tmp 9) = .pointer (some ⟨g9, 0, none⟩) := hO 9 rfl
   have mg9_0 := HX.pc hB 1 0 (.int .i64 X.f0) rfl rfl
   have mg9_1 := HX.pc hB 1 1 (.int .i64 X.f1) rfl rfl
   have mg9_2 := HX.pc hB 1 2 (.int .i64 X.f2) rfl rfl
   have mg9_3 := HX.pc hB 1 3 (.string X.f3) rfl rfl
   have mg9_4 := HX.pc hB 1 4 (.slice AX X.f4.length cX) rfl rfl
   simp only [Reg.SV, val_ln] at hE
   obtain ⟨e68, e69, e70, e71, _⟩ := hE
   rcases Reg.lt4 hiq with rfl | rfl | rfl | rfl
   all_goals (cases hoq; cases hpq)
   rotate_left 2
   ·refine Reg.D.cc (g := 16) (args := #[.slice A0 l0.length c0, .agg #[.int .i64 X.f0, .int .i64 X.f1, .int .i64 X.f2, .string X.f3, .slice AX X.f4.length cX]]) hB (by go_simp; try rfl) ?_
    exact TypeR_calls l0 X ⟨t0, t1, t2⟩ HXG.out.2.2 A0 c0 AX cX W hc0 (Kd.yI hr0 (yD HX.out.below hB)) (Kd.R_reads' RXX.out).2.1 (Kd.yI (Kd.R_reads' RXX.out).2.2 hB)
   rotate_right 2
   all_goals try exact Reg.D.mv hB
   all_goals (refine Reg.D.cv hB ?_; go_simp; try (first | done | rfl | (simp; done)))
  intro ρ W10 S hB hft hap hΦ
  simp only [Reg.SV, val_ln, Reg.SF, Nat.reduceAdd]
  have HX := HX.cl hB
  replace RXX := yC.mk (Kd.yJ RXX.out hB)
  replace RXY := yC.mk (Kd.yJ RXY.out hB)
  clear hΦ hft hap 
  go_upto_if 71 with (fail)
  go_cut [] (fun wd => ∃ (Z : S29) (AZ : Option Addr) (cZ : Nat), yC (Bxs w wd [(g10, 29, #[.int .i64 Y.f0, .int .i64 Y.f1, .int .i64 Y.f2, .string Y.f3, .slice AY Y.f4.length cY]), (g9, 29, #[.int .i64 Z.f0, .int .i64 Z.f1, .int .i64 Z.f2, .string Z.f3, .slice AZ Z.f4.length cZ]), (g16, 9, #[.string (⟨#[32]⟩ : ByteArray), .string (⟨#[44]⟩ : ByteArray), .string (⟨#[46]⟩ : ByteArray), .string (⟨#[97]⟩ : ByteArray)]), (g6, 29, #[.int .i64 0, .int .i64 0, .int .i64 0, .string (⟨#[]⟩ : ByteArray), .slice none 0 0]), (g5, 72, #[.int .i64 n, .int .i64 p])]) ∧ yC (Kd.R k29 29 wd W2.heap.size (fun k => k ≠ g9 ∧ k ≠ g10 ∧ W2.heap.size ≤ k) (.slice AZ Z.f4.length cZ) Z.f4) ∧ yC (Kd.R k29 29 wd W2.heap.size (fun k => k ≠ g9 ∧ k ≠ g10 ∧ W2.heap.size ≤ k) (.slice AY Y.f4.length cY) Y.f4) ∧ yC (∃ V, Gd Z V ∧ V.f0 = 3 ∧ V.f2 = false))
  case first =>
   cases t2 with
   | false =>
    go_wp2_with fail
    go_meet
    case rel => exact ⟨X, AX, cX, HX, RXX, RXY, ⟨_, HXG.out.1, HXG.out.2.1, rfl⟩⟩
   | true =>
    go_upto_region 11 with (fail)
    try simp only [Reg.SF]
    refine Reg.det [Reg.k 72 (.agg #[.int .i64 1, .int .i64 1, .int .i64 0, .string (⟨#[]⟩ : ByteArray), .slice none 0 0])] [] 78 rfl (by kernel_rfl) (by kernel_rfl) ?s12 ?_
    case s12 =>
     intro iq oq pq hiq hoq hpq ρ ev W S hE hO ec ef hB hft hΦ
     simp only [Reg.SV, val_ln] at hE
     obtain ⟨e72, _⟩ := hE
     obtain rfl : iq = 0 := by have : iq < 1 := hiq; omega
     cases hoq; cases hpq
     all_goals exact Reg.D.cx hB
    intro ρ W11 S hB hft hap hΦ
    simp only [Reg.SV, val_ln, Reg.SF, Nat.reduceAdd]
    have HX := HX.cl hB
    replace RXX := yC.mk (Kd.yJ RXX.out hB)
    replace RXY := yC.mk (Kd.yJ RXY.out hB)
    clear hΦ hft hap 
    refine bx_putB (w := w) rfl 29 (.tmp 9) (.tmp 72) rfl rfl (L1 := [_]) (cells := #[.int .i64 1, .int .i64 1, .int .i64 0, .string (⟨#[]⟩ : ByteArray), .slice none 0 0]) HX.out rfl rfl (by kernel_rfl) rfl rfl ?_
    intro W11s hx hput
    have HX := yC.mk hx
    replace RXY := yC.mk (Kd.R_step RXY.out (fun k hk _ => hput k (by exact hk.1)))
    clear hx hput
    go_wp2_with fail
    go_meet
    case rel => exact ⟨⟨1, 1, 0, ⟨#[]⟩, []⟩, none, 0, HX, ⟨R_none⟩, RXY, ⟨_, hGT, rfl, rfl⟩⟩
  clear HX RXX RXY
  obtain ⟨Z, AZ, cZ, HX, RXZ, RXY, HZG⟩ := hcut
  generalize wc = W11c at *
  obtain ⟨VY, hVY⟩ := HYG.out
  obtain ⟨VZ, hVZ⟩ := HZG.out
  have RXX := RXZ
  have RBX := yC.mk (Kd.xE (ok' := fun k => (k ≠ g9 ∧ k ≠ g10 ∧ W2.heap.size ≤ k) ∧ k < W11c.heap.size) (Kd.R_bound RXX.out) (fun k hk => ⟨hk.1, hk.2.2.1⟩))
  have RBY := yC.mk (Kd.xE (ok' := fun k => (k ≠ g9 ∧ k ≠ g10 ∧ W2.heap.size ≤ k) ∧ k < W11c.heap.size) (Kd.R_bound RXY.out) (fun k hk => ⟨hk.1, hk.2.2.1⟩))
  go_upto_region 12 with (fail)
  try simp only [Reg.SF]
  refine Reg.det [Reg.k 73 (.string SP), Reg.k 74 (.agg #[.int .i64 Z.f0, .int .i64 Z.f1, .int .i64 Z.f2, .string Z.f3, .slice AZ Z.f4.length cZ]), Reg.k 75 (.agg #[.int .i64 Y.f0, .int .i64 Y.f1, .int .i64 Y.f2, .string Y.f3, .slice AY Y.f4.length cY]), (some 76, Reg.Dv.blk 76 29 2 #[.int .i64 Z.f0, .int .i64 Z.f1, .int .i64 Z.f2, .string Z.f3, .slice AZ Z.f4.length cZ, .int .i64 Y.f0, .int .i64 Y.f1, .int .i64 Y.f2, .string Y.f3, .slice AY Y.f4.length cY]), (some 77, Reg.Dv.u [76] (fun l => .agg #[.int .i64 6, .int .i64 0, .int .i64 0, .string SP, (l.headD undef)]))] [] 78 rfl (by kernel_rfl) (by kernel_rfl) ?s13 ?_
  case s13 =>
   intro iq oq pq hiq hoq hpq ρ ev W S hE hO ec ef hB hft hΦ
   have e8 : ev (.tmp 8) = .string SP := hO 8 rfl
   have e9 : ev (.tmp 9) = .pointer (some ⟨g9, 0, none⟩) := hO 9 rfl
   have e10 : ev (.tmp 10) = .pointer (some ⟨g10, 0, none⟩) := hO 10 rfl
   have mg9_0 := HX.pc hB 1 0 (.int .i64 Z.f0) rfl rfl
   have mg9_1 := HX.pc hB 1 1 (.int .i64 Z.f1) rfl rfl
   have mg9_2 := HX.pc hB 1 2 (.int .i64 Z.f2) rfl rfl
   have mg9_3 := HX.pc hB 1 3 (.string Z.f3) rfl rfl
   have mg9_4 := HX.pc hB 1 4 (.slice AZ Z.f4.length cZ) rfl rfl
   have mg10_0 := HX.pc hB 0 0 (.int .i64 Y.f0) rfl rfl
   have mg10_1 := HX.pc hB 0 1 (.int .i64 Y.f1) rfl rfl
   have mg10_2 := HX.pc hB 0 2 (.int .i64 Y.f2) rfl rfl
   have mg10_3 := HX.pc hB 0 3 (.string Y.f3) rfl rfl
   have mg10_4 := HX.pc hB 0 4 (.slice AY Y.f4.length cY) rfl rfl
   simp only [Reg.SV, val_ln] at hE
   obtain ⟨e73, e74, e75, e76, e77, _⟩ := hE
   rcases Reg.lt5 hiq with rfl | rfl | rfl | rfl | rfl
   all_goals (cases hoq; cases hpq)
   rotate_left 4
   ·obtain ⟨_, h76, _⟩ := hΦ 3 _ rfl rfl rfl
    replace h76 : ρ 76 = _ := h76
    refine Reg.D.uv hB ?_
    go_simp
    try (first | done | rfl | (simp; done) | (intro h; omega))
   rotate_right 4
   rotate_left 3
   ·refine Reg.D.blk hB ?_
    go_simp
    try (first | rfl | exact ⟨rfl, rfl⟩)
   rotate_right 3
   all_goals try exact Reg.D.mv hB
   all_goals exact Reg.D.cx hB
  intro ρ W12 S hB hft hap hΦ
  simp only [Reg.SV, val_ln, Reg.SF, Nat.reduceAdd]
  obtain ⟨g76, e76, s76, hg76, _, b76⟩ := hΦ 3 _ rfl rfl
  replace e76 : ρ 76 = .slice (some ⟨g76, 0, none⟩) 2 2 := e76
  try simp only [e76]
  replace b76 : W12.heap[g76]? = some (.cells #[.int .i64 Z.f0, .int .i64 Z.f1, .int .i64 Z.f2, .string Z.f3, .slice AZ Z.f4.length cZ, .int .i64 Y.f0, .int .i64 Y.f1, .int .i64 Y.f2, .string Y.f3, .slice AY Y.f4.length cY] 29 (0, 0)) := b76
  have HX := yC.mk (HX.out.join (Bxs.one hB hg76 b76))
  replace RBX := yC.mk (Kd.yJ RBX.out hB)
  replace RBY := yC.mk (Kd.yJ RBY.out hB)
  clear hΦ hft hap 
  refine bx_putB (w := w) rfl 29 (.tmp 6) (.tmp 77) rfl rfl (L1 := [_, _, _, _]) (cells := #[.int .i64 6, .int .i64 0, .int .i64 0, .string SP, .slice (some ⟨g76, 0, none⟩) 2 2]) HX.out rfl rfl (by kernel_rfl) rfl rfl ?_
  intro W12s hx hput
  have HX := yC.mk hx
  replace RBX := yC.mk (Kd.R_step RBX.out (fun k hk _ => hput k (by have := hk.1.2.2; omega)))
  replace RBY := yC.mk (Kd.R_step RBY.out (fun k hk _ => hput k (by have := hk.1.2.2; omega)))
  clear hx hput
  go_wp2_with fail
  refine bodyPost_ret (results_cell_row rfl _ _ g6 29 #[.int .i64 6, .int .i64 0, .int .i64 0, .string SP, .slice (some ⟨g76, 0, none⟩) 2 2] (0, 0) _ rfl (HX.out.at 4 rfl) hu2 rfl (by kernel_rfl)) rfl ?_
  exact ⟨⟨_, rfl, ⟨6, 0, 0, SP, [Z, Y]⟩, _, rfl, hTwo _ _ _ _ hVZ.1 hVZ.2.1 hVZ.2.2 hVY.1 hVY.2, R_of_blk (HX.out.at 0 rfl) (HX.out.ge 0 rfl) trivial (Reps.c5 (k29_mkM _ _ _ Z (Kd.xJ (Kd.xE (ok' := fun j => True ∧ j ≠ g76) RBX.out (fun j hk => ⟨trivial, by have := hk.2; omega⟩)) hw2)) (Reps.c5 (k29_mkM _ _ _ Y (Kd.xJ (Kd.xE (ok' := fun j => True ∧ j ≠ g76) RBY.out (fun j hk => ⟨trivial, by have := hk.2; omega⟩)) hw2)) (Reps.none _ _))) (show (2 : Nat) ≤ 9223372036854775807 by decide)⟩, HX.out.below⟩
end
section
open Go.RowKit YtmebkjdknhknbaaGreatDoor.A YtmebkjdknhknbaaGreatDoor.C
def aOk (a : S57) : Prop := (a.f1 = 0 ∨ (a.f1 = 1 ∧ a.f0.f0 = 2 ∧ a.f0.f2 = false)) ∧ ((a.f0.f0 = 2 ∧ a.f0.f1 = 6) ∨ (a.f0.f0 = 3 ∧ a.f0.f1 = 0) ∨ (a.f0.f0 = 1 ∧ a.f0.f1 = 0))
def cellK (nu : Bool) (kt : Int) (v : S39) : Prop := (nu = true ∧ v = ⟨0, 0, ⟨#[]⟩⟩) ∨ (kt = 1 ∧ (v = ⟨1, 0, ⟨#[]⟩⟩ ∨ v = ⟨1, 1, ⟨#[]⟩⟩)) ∨ (kt = 2 ∧ ∃ x : Int, -100000000000000 ≤ x ∧ x ≤ 100000000000000 ∧ v = ⟨2, x, ⟨#[]⟩⟩) ∨ (kt = 3 ∧ ∃ s : ByteArray, s.size ≤ 40 ∧ xD s.data.toList = true ∧ v = ⟨3, 0, s⟩)
def cellOk (a : S57) (v : S39) : Prop := cellK a.f0.f2 a.f0.f0 v
def atOk (l0 : List S57) : Prop := 3 ≤ l0.length ∧ l0.length ≤ 6 ∧ (∀ i : Nat, i < l0.length → aOk (xC l0 (i : Int))) ∧ (xC l0 0).f0 = ⟨2, 6, false⟩ ∧ (xC l0 1).f0 = ⟨3, 0, false⟩
def cellsOk (l0 : List S57) (l : List S39) : Prop := ∀ i : Nat, i < l.length → cellOk (xC l0 (i : Int)) (yP l (i : Int))
theorem nil_ok : ((⟨#[]⟩ : ByteArray).toList == ([] : List UInt8)) = true := by rw [nil_toList]; rfl
theorem ck_cell {a : S57} {v : S39} {m : Int} (hm : m = 1000000000000000 ∨ m = 4000000000000000000) (h : cellOk a v) : ckB v.f0 v.f1 v.f2 m = true := by
 rw [ck_eq]
 rcases h with ⟨_, rfl⟩ | ⟨_, rfl | rfl⟩ | ⟨_, x, h0, h1, rfl⟩ | ⟨_, s, h0, h1, rfl⟩
 ·rw [if_pos rfl, nil_ok]; rfl
 ·rw [if_neg (by decide), if_pos rfl, if_pos (by decide), nil_ok]
 ·rw [if_neg (by decide), if_pos rfl, if_pos (by decide), nil_ok]
 ·have h2 : x ≥ wrap64 (-m) := by unfold wrap64; rcases hm with rfl | rfl <;> omega
  have h3 : x ≤ m := by rcases hm with rfl | rfl <;> omega
  rw [if_neg (show ¬ (2 : Int) = 0 by decide), if_neg (show ¬ (2 : Int) = 1 by decide), if_pos rfl, if_pos h2, if_pos h3, nil_ok]
 ·rw [if_neg (show ¬ (3 : Int) = 0 by decide), if_neg (show ¬ (3 : Int) = 1 by decide), if_neg (show ¬ (3 : Int) = 2 by decide), if_pos rfl, if_pos rfl, if_pos (show (s.size : Int) ≤ 40 by omega)]; exact h1
theorem places6 (x : Int) : placesB x 6 = true := by
 unfold placesB
 rw [if_pos (by decide), show stepOf 6 = 1 from rfl, Int.tmod_one]; rfl
theorem cell_fit {a : S57} {v : S39} (ha : aOk a) (hv : cellOk a v) : fitB a v = true := by
 have h1 : wwB v.f0 v.f1 v.f2 = true := ck_cell (.inr rfl) hv
 have h2 : vvB v.f0 v.f1 v.f2 = true := ck_cell (.inl rfl) hv
 unfold fitB
 split
 ·rename_i h
  obtain ⟨h3, h4⟩ : a.f0.f0 = 2 ∧ a.f0.f2 = false := by
   rcases ha.1 with h5 | h5
   ·omega
   ·exact h5.2
  have h5 : a.f0.f1 = 6 := by rcases ha.2 with h | h | h <;> omega
  have h6 : v.f0 = 2 := by
   rcases hv with ⟨h, _⟩ | ⟨h, _⟩ | ⟨_, x, _, _, rfl⟩ | ⟨h, _⟩
   ·rw [h4] at h; cases h
   ·omega
   ·rfl
   ·omega
  rw [h1, h5, places6, h6]; rfl
 ·unfold hasB
  have h3 : vtB a.f0.f0 a.f0.f1 = true := by
   unfold vtB
   rcases ha.2 with ⟨h, h'⟩ | ⟨h, h'⟩ | ⟨h, h'⟩ <;> rw [h, h'] <;> decide
  rw [h2, h3, Bool.true_and, Bool.true_and]
  rcases hv with ⟨h, rfl⟩ | ⟨h, rfl | rfl⟩ | ⟨h, x, _, _, rfl⟩ | ⟨h, s, _, _, rfl⟩
  ·rw [if_pos rfl]; exact h
  ·rw [if_neg (by decide), if_neg (by decide), h]; rfl
  ·rw [if_neg (by decide), if_neg (by decide), h]; rfl
  ·have h5 : a.f0.f1 = 6 := by rcases ha.2 with h | h | h <;> omega
   rw [if_neg (show ¬ (2 : Int) = 0 by decide), if_pos rfl, if_pos h, h5, show stepOf 6 = 1 from rfl, Int.tmod_one]; rfl
  ·rw [if_neg (show ¬ (3 : Int) = 0 by decide), if_neg (show ¬ (3 : Int) = 2 by decide), h]; rfl
theorem cells_fit {l0 : List S57} {l : List S39} (ha : atOk l0) (hl : l.length = l0.length) (hc : cellsOk l0 l) : fitL l0 l = true := by
 unfold fitL fitAll
 rw [decide_eq_true hl.symm, Bool.true_and, List.all_eq_true]
 intro i hi
 have hi' : i < l.length := List.mem_range.1 hi
 exact cell_fit (ha.2.2.1 i (by omega)) (hc i hi')
def at0 : S57 := ⟨⟨2, 6, false⟩, 0, ⟨2, 0, ⟨#[]⟩⟩⟩
def at1 : S57 := ⟨⟨3, 0, false⟩, 0, ⟨3, 0, ⟨#[120]⟩⟩⟩
def mOk (l : List S57) (i : Nat) : Prop := l.length = 2 + i ∧ (∀ a, a ∈ l → aOk a) ∧ l[0]? = some at0 ∧ l[1]? = some at1
theorem mOk_start : mOk [at0, at1] 0 := ⟨rfl, fun a h => by
 simp only [List.mem_cons, List.not_mem_nil, or_false] at h
 rcases h with rfl | rfl
 ·exact ⟨.inl rfl, .inl ⟨rfl, rfl⟩⟩
 ·exact ⟨.inl rfl, .inr (.inl ⟨rfl, rfl⟩)⟩, rfl, rfl⟩
theorem mOk_add {l : List S57} {i : Nat} {a : S57} (h : mOk l i) (ha : aOk a) : mOk (l ++ [a]) (i + 1) := by
 obtain ⟨h0, h1, h2, h3⟩ := h
 refine ⟨by simp [h0]; omega, fun b hb => ?_, ?_, ?_⟩
 ·rcases List.mem_append.1 hb with hb | hb
  ·exact h1 b hb
  ·rw [List.mem_singleton.1 hb]; exact ha
 ·rw [List.getElem?_append_left (by omega)]; exact h2
 ·rw [List.getElem?_append_left (by omega)]; exact h3
theorem mOk_at {l : List S57} {m : Nat} (h : mOk l m) (h1 : 1 ≤ m) (h4 : m ≤ 4) : atOk l := by
 obtain ⟨h0, h2, h3, h5⟩ := h
 refine ⟨by omega, by omega, fun i hi => ?_, ?_, ?_⟩
 ·have : xC l (i : Int) = l[i] := by unfold xC; rw [Int.toNat_natCast, List.getD_eq_getElem?_getD, List.getElem?_eq_getElem hi]; rfl
  rw [this]; exact h2 _ (List.getElem_mem hi)
 ·have : xC l 0 = at0 := by unfold xC; rw [show Int.toNat 0 = 0 from rfl, List.getD_eq_getElem?_getD, h3]; rfl
  rw [this]; rfl
 ·have : xC l 1 = at1 := by unfold xC; rw [show Int.toNat 1 = 1 from rfl, List.getD_eq_getElem?_getD, h5]; rfl
  rw [this]; rfl
def cOk (l0 : List S57) (l : List S39) (i : Nat) : Prop := l.length = i ∧ cellsOk l0 l
theorem cOk_add {l0 : List S57} {l : List S39} {i : Nat} {v : S39} (h : cOk l0 l i) (hv : cellOk (xC l0 (i : Int)) v) : cOk l0 (l ++ [v]) (i + 1) := by
 obtain ⟨h0, h1⟩ := h
 refine ⟨by simp [h0], fun j hj => ?_⟩
 rw [List.length_append, List.length_singleton] at hj
 by_cases hl : j < l.length
 ·have h2 := h1 j hl
  have : yP (l ++ [v]) (j : Int) = yP l (j : Int) := by unfold yP; rw [Int.toNat_natCast, List.getD_eq_getElem?_getD, List.getD_eq_getElem?_getD, List.getElem?_append_left hl]
  rw [this]; exact h2
 ·obtain rfl : j = i := by omega
  have : yP (l ++ [v]) (j : Int) = v := by unfold yP; rw [Int.toNat_natCast, List.getD_eq_getElem?_getD, List.getElem?_append_right (by omega), h0, Nat.sub_self]; rfl
  rw [this]; exact hv
end
section
open Go.RowKit YtmebkjdknhknbaaGreatDoor.A YtmebkjdknhknbaaGreatDoor.C YtmebkjdknhknbaaGreatDoor.G
def byteV (lb : List Int) (i : Int) : Int := (chapmanref16_Byte.f lb i).getD 0
theorem byteV_in {lb : List Int} (hb : ∀ x, x ∈ lb → 0 ≤ x ∧ x ≤ 255) (i : Int) : 0 ≤ byteV lb i ∧ byteV lb i ≤ 255 := by
 unfold byteV chapmanref16_Byte.f
 split
 ·exact ⟨by decide, by decide⟩
 ·split
  ·split
   ·rename_i h1 h2
    have hr : 0 ≤ rd lb (Int.tmod i (lb.length : Int)) ∧ rd lb (Int.tmod i (lb.length : Int)) ≤ 255 := by
     unfold rd
     rw [List.getD_eq_getElem?_getD, List.getElem?_eq_getElem (show (Int.tmod i (lb.length : Int)).toNat < lb.length by omega)]
     exact hb _ (List.getElem_mem _)
    show 0 ≤ wrap64 _ ∧ wrap64 _ ≤ 255
    unfold wrap64
    omega
   ·exact ⟨by decide, by decide⟩
  ·exact ⟨by decide, by decide⟩
theorem byte_f (lb : List Int) {i : Int} (h : 0 ≤ i) : chapmanref16_Byte.f lb i = some (byteV lb i) := by
 unfold byteV chapmanref16_Byte.f
 split
 ·rfl
 ·rename_i h0
  have h1 : 0 ≤ Int.tmod i (lb.length : Int) := Int.tmod_nonneg _ h
  have h2 : Int.tmod i (lb.length : Int) < (lb.length : Int) := Int.tmod_lt_of_pos _ (by omega)
  rw [if_pos h1, if_pos h2]; rfl
theorem byte_calls {B : Option Addr} {cb : Nat} {lb : List Int} {w : World} (hr : Kd.C (Kd.int .u8) w B lb.length lb) (hc : lb.length ≤ cb) : yC (∀ i : Int, 0 ≤ i → i ≤ 100 → ∀ w', Below w.heap.size w w' → Calls Tryz.prog 36 #[.slice B lb.length cb, .int .i64 i] w' fun e w'' => e = .returned (.int .i64 (byteV lb i)) ∧ Below w'.heap.size w' w'') :=
 ⟨fun i h0 _ w' hb => (chapmanref16_Byte.calls B cb lb i _ w' (Kd.yI hr hb) hc (byte_f lb h0)).mono fun e w'' h => ⟨h.1, xS h.2⟩⟩
theorem power_calls : yC (∀ e : Int, 0 ≤ e → e ≤ 11 → ∃ P : Int, (1 ≤ P ∧ P ≤ 100000000000) ∧ ∀ w', Calls Tryz.prog 37 #[.int .i64 e] w' fun r w'' => r = .returned (.int .i64 P) ∧ Below w'.heap.size w' w'') := by
 refine ⟨fun e h0 h1 => ?_⟩
 have key : ∃ P : Int, (1 ≤ P ∧ P ≤ 100000000000) ∧ chapmanref16_power.f 14 e = some P := by
  have : e = 0 ∨ e = 1 ∨ e = 2 ∨ e = 3 ∨ e = 4 ∨ e = 5 ∨ e = 6 ∨ e = 7 ∨ e = 8 ∨ e = 9 ∨ e = 10 ∨ e = 11 := by omega
  rcases this with rfl | rfl | rfl | rfl | rfl | rfl | rfl | rfl | rfl | rfl | rfl | rfl
  ·exact ⟨1, ⟨by decide, by decide⟩, by kernel_rfl⟩
  ·exact ⟨10, ⟨by decide, by decide⟩, by kernel_rfl⟩
  ·exact ⟨100, ⟨by decide, by decide⟩, by kernel_rfl⟩
  ·exact ⟨1000, ⟨by decide, by decide⟩, by kernel_rfl⟩
  ·exact ⟨10000, ⟨by decide, by decide⟩, by kernel_rfl⟩
  ·exact ⟨100000, ⟨by decide, by decide⟩, by kernel_rfl⟩
  ·exact ⟨1000000, ⟨by decide, by decide⟩, by kernel_rfl⟩
  ·exact ⟨10000000, ⟨by decide, by decide⟩, by kernel_rfl⟩
  ·exact ⟨100000000, ⟨by decide, by decide⟩, by kernel_rfl⟩
  ·exact ⟨1000000000, ⟨by decide, by decide⟩, by kernel_rfl⟩
  ·exact ⟨10000000000, ⟨by decide, by decide⟩, by kernel_rfl⟩
  ·exact ⟨100000000000, ⟨by decide, by decide⟩, by kernel_rfl⟩
 obtain ⟨P, hP, hf⟩ := key
 exact ⟨P, hP, fun w' => (chapmanref16_power.calls 14 e P w' hf).mono fun r w'' h => ⟨h.1, xS h.2⟩⟩
theorem gr_app {a b : ByteArray} (ha : xD a.data.toList = true) (hb : xD b.data.toList = true) : xD (a ++ b).data.toList = true := by
 unfold xD at *
 rw [ByteArray.data_append, Array.toList_append, List.all_append, ha, hb]; rfl
theorem gr_cut {a : ByteArray} (ha : xD a.data.toList = true) (n : Nat) : xD (a.extract 0 n).data.toList = true := by
 unfold xD at *
 rw [ByteArray.data_extract, Array.toList_extract]
 rw [List.all_eq_true] at ha ⊢
 intro x hx
 exact ha x (List.mem_of_mem_take (i := n) (by simpa [List.extract] using hx))
theorem cut_done {s : ByteArray} (hs : s.size ≤ 1000) (hg : xD s.data.toList = true) : ∃ r, (if 0 ≤ (mn (s.size : Int) 40) then (if (mn (s.size : Int) 40) ≤ (s.size : Int) then (some (s.extract 0 ((mn (s.size : Int) 40) : Int).toNat)) else none) else none) = some r ∧ r.size ≤ 40 ∧ xD r.data.toList = true := by
 have h0 : 0 ≤ mn (s.size : Int) 40 := by unfold mn; split <;> omega
 have h1 : mn (s.size : Int) 40 ≤ s.size := by unfold mn; split <;> omega
 have h2 : (mn (s.size : Int) 40).toNat ≤ 40 := by unfold mn; split <;> omega
 rw [if_pos h0, if_pos h1]
 exact ⟨_, rfl, by rw [ByteArray.size_extract]; omega, gr_cut hg _⟩
theorem word_l1 (x0 : Int) : ∀ (m : Nat) (s : ByteArray) (k : Nat), 40 ≤ s.size + m → m < k → s.size ≤ 1000 → xD s.data.toList = true → ∃ r, chapmanref16_word.l1 k x0 s = some r ∧ r.size ≤ 40 ∧ xD r.data.toList = true := by
 intro m
 induction m with
 | zero =>
  intro s k h1 h2 h3 h4
  obtain ⟨k, rfl⟩ : ∃ j, k = j + 1 := ⟨k - 1, by omega⟩
  rw [chapmanref16_word.l1]
  split
  ·rw [if_neg (by omega)]; exact cut_done h3 h4
  ·exact cut_done h3 h4
 | succ m ih =>
  intro s k h1 h2 h3 h4
  obtain ⟨k, rfl⟩ : ∃ j, k = j + 1 := ⟨k - 1, by omega⟩
  rw [chapmanref16_word.l1]
  split
  ·split
   ·rw [if_pos (by omega)]
    have hz : (s ++ (⟨#[122]⟩ : ByteArray)).size = s.size + 1 := by rw [ByteArray.size_append]; rfl
    exact ih _ k (by rw [hz]; omega) (by omega) (by rw [hz]; omega) (gr_app h4 (by decide))
   ·exact cut_done h3 h4
  ·exact cut_done h3 h4
theorem eight (j : Int) (h0 : 0 ≤ j) (h1 : j < 8) : (rdOf ByteArray.empty [(⟨#[97]⟩ : ByteArray), (⟨#[98]⟩ : ByteArray), (⟨#[32]⟩ : ByteArray), (⟨#[44]⟩ : ByteArray), (⟨#[49]⟩ : ByteArray), (⟨#[46, 53]⟩ : ByteArray), (⟨#[45]⟩ : ByteArray), (⟨#[32, 97]⟩ : ByteArray)] j).size ≤ 2 ∧ xD (rdOf ByteArray.empty [(⟨#[97]⟩ : ByteArray), (⟨#[98]⟩ : ByteArray), (⟨#[32]⟩ : ByteArray), (⟨#[44]⟩ : ByteArray), (⟨#[49]⟩ : ByteArray), (⟨#[46, 53]⟩ : ByteArray), (⟨#[45]⟩ : ByteArray), (⟨#[32, 97]⟩ : ByteArray)] j).data.toList = true := by
 have : j = 0 ∨ j = 1 ∨ j = 2 ∨ j = 3 ∨ j = 4 ∨ j = 5 ∨ j = 6 ∨ j = 7 := by omega
 rcases this with rfl | rfl | rfl | rfl | rfl | rfl | rfl | rfl <;> exact ⟨by decide, by decide⟩
theorem word_l0 {a b : Int} (ha0 : 0 ≤ a) (ha : a ≤ 1000) (hb0 : 0 ≤ b) (hb : b ≤ 255) : ∀ (m : Nat) (s : ByteArray) (i k : Nat), i + m = 8 → m + 60 < k → s.size ≤ 2 * i → xD s.data.toList = true → ∃ r, chapmanref16_word.l0 k a b s (i : Int) = some r ∧ r.size ≤ 40 ∧ xD r.data.toList = true := by
 intro m
 have ht : Int.tmod a 8 = a % 8 := Int.tmod_eq_emod_of_nonneg ha0
 induction m with
 | zero =>
  intro s i k h1 h2 h3 h4
  obtain ⟨k, rfl⟩ : ∃ j, k = j + 1 := ⟨k - 1, by omega⟩
  rw [chapmanref16_word.l0, if_neg (by rw [ht]; omega)]
  exact word_l1 a 40 s k (by omega) (by omega) (by omega) h4
 | succ m ih =>
  intro s i k h1 h2 h3 h4
  obtain ⟨k, rfl⟩ : ∃ j, k = j + 1 := ⟨k - 1, by omega⟩
  rw [chapmanref16_word.l0]
  split
  ·have hw : wrap64 ((i : Int) + 1) = ((i + 1 : Nat) : Int) := by unfold wrap64; omega
   have hp0 : 0 ≤ b * ((i + 1 : Nat) : Int) := Int.mul_nonneg hb0 (by omega)
   have hp1 : b * ((i + 1 : Nat) : Int) ≤ 255 * 8 := Int.le_trans (Int.mul_le_mul_of_nonneg_right hb (by omega)) (by omega)
   rw [hw, Option.bind_some]
   generalize b * ((i + 1 : Nat) : Int) = p at *
   have hd : Int.tdiv a 8 = a / 8 := Int.tdiv_eq_ediv_of_nonneg ha0
   have hx : 0 ≤ wrap64 (wrap64 (Int.tdiv a 8) + wrap64 p) := by rw [hd]; unfold wrap64; omega
   generalize wrap64 (wrap64 (Int.tdiv a 8) + wrap64 p) = x at *
   have hj0 : 0 ≤ Int.tmod x 8 := Int.tmod_nonneg _ hx
   have hj1 : Int.tmod x 8 < 8 := Int.tmod_lt_of_pos _ (by decide)
   obtain ⟨e1, e2⟩ := eight (Int.tmod x 8) hj0 hj1
   rw [if_pos hj0]
   split
   rotate_left
   ·rename_i hn; exact absurd hj1 hn
   rw [if_pos (by omega)]
   exact ih _ (i + 1) k (by omega) (by omega) (by rw [ByteArray.size_append]; omega) (gr_app h4 e2)
  ·exact word_l1 a 40 s k (by omega) (by omega) (by omega) h4
theorem word_calls : yC (∀ a b : Int, 0 ≤ a → a ≤ 255 → 0 ≤ b → b ≤ 255 → ∃ s : ByteArray, (s.size ≤ 40 ∧ xD s.data.toList = true) ∧ ∀ w', Calls Tryz.prog 39 #[.int .i64 a, .int .i64 b] w' fun r w'' => r = .returned (.string s) ∧ Below w'.heap.size w' w'') := by
 refine ⟨fun a b h0 h1 h2 h3 => ?_⟩
 obtain ⟨r, hr, hs, hg⟩ := word_l0 h0 (by omega) h2 h3 8 ⟨#[]⟩ 0 100 (by omega) (by omega) (by decide) (by decide)
 exact ⟨r, ⟨hs, hg⟩, fun w' => chapmanref16_word.calls 100 a b r w' hr⟩
end
section
open Go.RowKit YtmebkjdknhknbaaGreatDoor.G
theorem sep_at (I : Nat) (h : I < 4) : ∃ SP : ByteArray, (#[.string (⟨#[32]⟩ : ByteArray), .string (⟨#[44]⟩ : ByteArray), .string (⟨#[46]⟩ : ByteArray), .string (⟨#[97]⟩ : ByteArray)] : Array Value)[I]? = some (.string SP) ∧ sepOk SP := by
 have : I = 0 ∨ I = 1 ∨ I = 2 ∨ I = 3 := by omega
 rcases this with rfl | rfl | rfl | rfl
 ·exact ⟨_, rfl, by decide, by decide, by decide⟩
 ·exact ⟨_, rfl, by decide, by decide, by decide⟩
 ·exact ⟨_, rfl, by decide, by decide, by decide⟩
 ·exact ⟨_, rfl, by decide, by decide, by decide⟩
theorem leaf (l0 : List S57) (hat : atOk l0) (A0 : Option Addr) (c0 : Nat) (B : Option Addr) (cb : Nat) (lb : List Int) (hlb : ∀ x, x ∈ lb → 0 ≤ x ∧ x ≤ 255) (hc0 : l0.length ≤ c0) (hcb : lb.length ≤ cb) (n : Nat) (hn : n ≤ 3) (p : Int) (hp0 : 0 ≤ p) (hp9 : p ≤ 90) (w : World) (hr0 : Kd.C k57 w A0 l0.length l0) (hrb : Kd.C (Kd.int .u8) w B lb.length lb)
  (HCo : 1 < n → ∀ w', Below w.heap.size w w' → Calls Tryz.prog 52 #[.slice A0 l0.length c0, .slice B lb.length cb, .agg #[.int .i64 (n : Int), .int .i64 p]] w' fun e w'' => (∃ v, e = .returned v ∧ lnP (vOk (max n 1) l0) v w'.heap.size w'' (fun _ => True)) ∧ Below w'.heap.size w' w'') :
  Calls Tryz.prog 31 #[.slice A0 l0.length c0, .slice B lb.length cb, .agg #[.int .i64 (n : Int), .int .i64 p]] w fun e w' => (∃ v, e = .returned v ∧ lnP (vOk (max n 1) l0) v w.heap.size w' (fun _ => True)) ∧ Below w.heap.size w w' := by
 have hK := byteV_in hlb p
 have hT := byteV_in hlb (p + 1)
 have HK := (byte_calls hrb hcb).out p hp0 (by omega)
 have HT := (byte_calls hrb hcb).out (p + 1) (by omega) (by omega)
 generalize byteV lb p = K at hK HK
 generalize byteV lb (p + 1) = T at hT HT
 have h3 := hat.1
 have ha : Int.tmod T (l0.length : Int) = T % (l0.length : Int) := Int.tmod_eq_emod_of_nonneg hT.1
 have ha0 : 0 ≤ Int.tmod T (l0.length : Int) := Int.tmod_nonneg _ hT.1
 have ha1 : Int.tmod T (l0.length : Int) < (l0.length : Int) := Int.tmod_lt_of_pos _ (by omega)
 obtain ⟨AT, hAT⟩ : ∃ z, Int.tmod T (l0.length : Int) = z := ⟨_, rfl⟩
 rw [hAT] at ha0 ha1
 have ed : Int.tdiv K 2 = K / 2 := Int.tdiv_eq_ediv_of_nonneg hK.1
 have ed6 : Int.tdiv K 6 = K / 6 := Int.tdiv_eq_ediv_of_nonneg hK.1
 have ej : Int.tmod (Int.tdiv K 2) 3 = K / 2 % 3 := by rw [ed]; exact Int.tmod_eq_emod_of_nonneg (by omega)
 have hs : 0 ≤ Int.tmod (Int.tdiv K 6) 7 ∧ Int.tmod (Int.tdiv K 6) 7 ≤ 6 := by rw [ed6, Int.tmod_eq_emod_of_nonneg (by omega)]; omega
 obtain ⟨k, hk⟩ : ∃ k, max n 1 = k + 1 := ⟨max n 1 - 1, by omega⟩
 rw [hk] at HCo ⊢
 obtain ⟨ad, e, hq, _⟩ := at_T57 hr0 AT ha0 ha1
 subst e
 exact any_walk (vOk (k + 1) l0) ad (ad.add (AT.toNat * 7)) B l0.length c0 lb.length cb (n : Int) p (p + 1) K T AT (xC l0 AT).f0.f0 (Int.tmod (Int.tdiv K 6) 7) _ _ _ _ w (by rw [IntKind.wrap_i64]; omega) (by omega) hAT ha0 ha1 ⟨rfl⟩ ⟨rfl⟩ ⟨rfl⟩ ⟨rfl⟩ ⟨by rw [ej]; omega⟩ (by rw [IntKind.wrap_i64, ed]; omega) (by rw [IntKind.wrap_i64, ed6]; omega) rfl
  (vOk_val (by omega) ha0 ha1).1 (fun h2 => ⟨vOk_scale (by omega) ha0 ha1 h2 hs.1 hs.2, (vOk_show (by omega) ha0 ha1 h2 hs.1 hs.2).1⟩)
  (fun h w' hb => HCo (by rw [Bool.and_eq_true] at h; have := of_decide_eq_true h.1; omega) w' hb) ⟨HK⟩ ⟨HT⟩ rfl ⟨hq⟩
theorem Any_all (l0 : List S57) (hat : atOk l0) (A0 : Option Addr) (c0 : Nat) (B : Option Addr) (cb : Nat) (lb : List Int) (hlb : ∀ x, x ∈ lb → 0 ≤ x ∧ x ≤ 255) (hc0 : l0.length ≤ c0) (hcb : lb.length ≤ cb) : ∀ (n : Nat), n ≤ 3 → ∀ (p : Int), 0 ≤ p → p + 7 * n ≤ 90 → ∀ (w : World), Kd.C k57 w A0 l0.length l0 → Kd.C (Kd.int .u8) w B lb.length lb →
  Calls Tryz.prog 31 #[.slice A0 l0.length c0, .slice B lb.length cb, .agg #[.int .i64 (n : Int), .int .i64 p]] w fun e w' => (∃ v, e = .returned v ∧ lnP (vOk (max n 1) l0) v w.heap.size w' (fun _ => True)) ∧ Below w.heap.size w w' := by
 obtain ⟨h3, h6, hall, hz0, hz1⟩ := id hat
 have hr0' : (xC l0 0).f0.f0 = 2 := by rw [hz0]
 intro n
 induction n with
 | zero =>
  intro hn p h0 h9 w hr0 hrb
  exact leaf l0 hat A0 c0 B cb lb hlb hc0 hcb 0 (by omega) p h0 (by omega) w hr0 hrb (fun h => absurd h (by decide))
 | succ m ih =>
  intro hn p hp0 h9 w hr0 hrb
  refine leaf l0 hat A0 c0 B cb lb hlb hc0 hcb (m + 1) hn p hp0 (by omega) w hr0 hrb (fun hm w' hb => ?_)
  have hm1 : 1 ≤ m := by omega
  rw [show max (m + 1) 1 = m + 1 by omega]
  have ih' : ∀ q : Int, 0 ≤ q → q + 7 * m ≤ 90 → yC (∀ w'', Below w'.heap.size w' w'' → Calls Tryz.prog 31 #[.slice A0 l0.length c0, .slice B lb.length cb, .agg #[.int .i64 (m : Int), .int .i64 q]] w'' fun e w3 => (∃ v, e = .returned v ∧ lnP (vOk m l0) v w''.heap.size w3 (fun _ => True)) ∧ Below w''.heap.size w'' w3) := fun q hq0 hq1 =>
   ⟨fun w'' hb' => by
    have := ih (by omega) q hq0 hq1 w'' (Kd.yI (Kd.yI hr0 hb) hb') (Kd.yI (Kd.yI hrb hb) hb')
    rwa [show max m 1 = m by omega] at this⟩
  have hB := byteV_in hlb p
  have HB := (byte_calls (Kd.yI hrb hb) hcb).out p hp0 (by omega)
  generalize byteV lb p = K at hB HB
  have ed : Int.tdiv K 2 = K / 2 := Int.tdiv_eq_ediv_of_nonneg hB.1
  have ed3 : Int.tdiv (Int.tdiv K 2) 3 = K / 2 / 3 := by rw [ed]; exact Int.tdiv_eq_ediv_of_nonneg (by omega)
  have ei : Int.tmod (Int.tdiv (Int.tdiv K 2) 3) 4 = (((K / 2 / 3) % 4).toNat : Int) := by rw [ed3, Int.tmod_eq_emod_of_nonneg (by omega)]; omega
  have hi4 : ((K / 2 / 3) % 4).toNat < 4 := by omega
  generalize ((K / 2 / 3) % 4).toNat = I at ei hi4
  obtain ⟨SP, hSP, hsep⟩ := sep_at I hi4
  have hT : ∀ k, 1 ≤ k → k ≤ 9 → vOk k l0 ⟨1, 1, 0, ⟨#[]⟩, []⟩ ∧ (tailV (k - 1) l0 ⟨1, 1, 0, ⟨#[]⟩, []⟩).1 = ⟨3, 0, false⟩ := fun k hk hk9 => by
   obtain ⟨j, rfl⟩ : ∃ j, k = j + 1 := ⟨k - 1, by omega⟩
   have h := vOk_val (k := j) (l0 := l0) (a := 1) (by omega) (by decide) (by omega)
   refine ⟨h.1, ?_⟩
   rw [show j + 1 - 1 = j from rfl, h.2, ← hz1]
  refine composed_calls l0 A0 B c0 lb.length cb I ((m + 1 : Nat) : Int) p (m : Int) (p + 2) (p + 7) K (Int.tdiv K 2) SP (Int.tmod (Int.tdiv K 2) 7) (vOk m l0) (vOk (m + 1) l0) (fun x T => vOk m l0 x ∧ (tailV (m - 1) l0 x).1 = T) w' (by rw [IntKind.wrap_i64]; omega) (by rw [IntKind.wrap_i64]; omega) (by rw [IntKind.wrap_i64]; omega) (by rw [IntKind.wrap_i64, ed]; omega) (by rw [IntKind.wrap_i64, ed3]; omega) ei hi4 hSP ?_ rfl ?_ ?_ ?_ ?_ ?_ ?_ hc0 (Kd.yI hr0 hb) ⟨HB⟩ (ih' (p + 2) (by omega) (by omega)) (ih' (p + 7) (by omega) (by omega))
  ·rw [ed, Int.tmod_eq_emod_of_nonneg (by omega)]; omega
  ·exact fun x hx => ⟨_, OfR_all l0 m x (by omega) hx, hx, rfl⟩
  ·have h := OfR_all l0 m _ (by omega) (hT m hm1 (by omega)).1
   rwa [(hT m hm1 (by omega)).2] at h
  ·exact hT m hm1 (by omega)
  ·obtain ⟨j, rfl⟩ : ∃ j, m = j + 1 := ⟨m - 1, by omega⟩
   have hs : 0 ≤ Int.tmod (Int.tdiv K 2) 7 ∧ Int.tmod (Int.tdiv K 2) 7 ≤ 6 := by rw [ed, Int.tmod_eq_emod_of_nonneg (by omega)]; omega
   have h := vOk_show (k := j) (l0 := l0) (a := 0) (s := Int.tmod (Int.tdiv K 2) 7) (by omega) (by decide) (by omega) hr0' hs.1 hs.2
   exact ⟨_, ⟨h.1, rfl⟩, h.2⟩
  ·rintro K' x T hK ⟨hx, rfl⟩ ht
   exact vOk_one (by omega) hK hsep hx ht
  ·rintro x T y U ⟨hx, rfl⟩ ht hn2 ⟨hy, rfl⟩ hu
   exact vOk_two (by omega) hsep hx ht hn2 hy hu
end
section
open Go.RowKit YtmebkjdknhknbaaGreatDoor.G
theorem info57s : (Tryz.prog.info? 57).map (·.size) = some 7 := by kernel_rfl
theorem info57k : (Tryz.prog.info? 57).map (fun i => (i.zero, i.size, i.bytes)) = some (some (.agg #[(.int .i64 0), (.int .i64 0), (.bool false), (.int .i64 0), (.int .i64 0), (.int .i64 0), (.string ⟨#[]⟩)]), k57.sz, 64) := info57
theorem setCell_other {W : World} {g j k T : Nat} {cs : Array Value} (hc : W.heap[g]? = some (.cells cs T (0, 0))) (v : Value) (hk : k ≠ g) : (W.setCell ⟨g, j, none⟩ v).heap[k]? = W.heap[k]? := by
 rw [setCell_eq_setRow W g j cs T (0, 0) v hc]
 exact setRow_other W g k _ hk
theorem R_setB {α : Type} {d : Kd α} {e : Nat} {W : World} {base B : Nat} {v : Value} {xs : List α} (h : d.R e W base (fun k => k < B) v xs) {g T : Nat} {cs : Array Value} (hb : W.heap[g]? = some (.cells cs T (0, 0))) (hg : B ≤ g) (j : Nat) (u : Value) : d.R e (W.setCell ⟨g, j, none⟩ u) base (fun k => k < B) v xs :=
 Kd.R_step h (fun k hk _ => setCell_other hb u (by omega))
theorem five (K : Int) (h : 0 ≤ K) : ∃ (I : Nat) (KT : Int), Int.tmod K 5 = (I : Int) ∧ I < 5 ∧ (#[.int .i64 2, .int .i64 3, .int .i64 3, .int .i64 1, .int .i64 2] : Array Value)[I]? = some (.int .i64 KT) ∧ (I = 4 → KT = 2) ∧ (KT = 2 ∨ KT = 3 ∨ KT = 1) := by
 rw [Int.tmod_eq_emod_of_nonneg h]
 have : K % 5 = 0 ∨ K % 5 = 1 ∨ K % 5 = 2 ∨ K % 5 = 3 ∨ K % 5 = 4 := by omega
 rcases this with e | e | e | e | e <;> rw [e]
 ·exact ⟨0, 2, rfl, by decide, rfl, by decide, by decide⟩
 ·exact ⟨1, 3, rfl, by decide, rfl, by decide, by decide⟩
 ·exact ⟨2, 3, rfl, by decide, rfl, by decide, by decide⟩
 ·exact ⟨3, 1, rfl, by decide, rfl, by decide, by decide⟩
 ·exact ⟨4, 2, rfl, by decide, rfl, by decide, by decide⟩
theorem made_aOk {KT sc ru d0 : Int} {nl : Bool} {I : Nat} {s : ByteArray} (h : (KT = 2 ∧ sc = 6) ∨ (KT ≠ 2 ∧ sc = 0)) (hr : ru = 0 ∨ (ru = 1 ∧ I = 4 ∧ nl = false)) (h4 : I = 4 → KT = 2) (hk : KT = 2 ∨ KT = 3 ∨ KT = 1) : aOk ⟨⟨KT, sc, nl⟩, ru, ⟨d0, 0, s⟩⟩ := by
 refine ⟨?_, ?_⟩
 ·rcases hr with hr | ⟨h1, h2, h3⟩
  ·exact .inl hr
  ·exact .inr ⟨h1, h4 h2, h3⟩
 ·show (KT = 2 ∧ sc = 6) ∨ (KT = 3 ∧ sc = 0) ∨ (KT = 1 ∧ sc = 0)
  rcases hk with rfl | rfl | rfl <;> simp at h ⊢ <;> exact h
theorem four (K : Int) (h : 0 ≤ K) : ∃ m : Nat, IntKind.i64.wrap (1 + Int.tmod K 4) = (m : Int) ∧ 1 ≤ m ∧ m ≤ 4 := by
 rw [Int.tmod_eq_emod_of_nonneg h]
 exact ⟨(1 + K % 4).toNat, by rw [IntKind.wrap_i64]; omega, by omega, by omega⟩
theorem Made_calls (B : Option Addr) (nb cb : Nat) (kv : Int → Int) (hkv : ∀ i, 0 ≤ kv i ∧ kv i ≤ 255) (w : World)
  (HBy : yC (∀ i : Int, 0 ≤ i → i ≤ 100 → ∀ w', Below w.heap.size w w' → Calls Tryz.prog 36 #[.slice B nb cb, .int .i64 i] w' fun e w'' => e = .returned (.int .i64 (kv i)) ∧ Below w'.heap.size w' w'')) :
  Calls Tryz.prog 20 #[.slice B nb cb] w fun e w' => ∃ v l0, e = .returned v ∧ Kd.R k57 57 w' w.heap.size (fun _ => True) v l0 ∧ atOk l0 ∧ Below w.heap.size w w' := by
 have hu := Tryz.underlying39
 have hu3 := Tryz.underlying49
 have hu4 := Tryz.underlying57
 have HK00 := yC.mk (HBy.out 0 (by decide) (by decide))
 have hr0 := hkv 0
 obtain ⟨K0, hK0⟩ : ∃ K, kv 0 = K := ⟨_, rfl⟩
 rw [hK0] at HK00 hr0
 have HK0 := HK00
 clear HK00 hK0
 obtain ⟨m, hm, hm1, hm4⟩ := four K0 hr0.1
 have HX := yC.mk (Bxs.start w)
 go_enter Tryz.func20, Tryz.ntmps20
 go_upto_region 0 with (fail)
 refine Reg.det [Reg.k 2 (.slice none 0 0)] [] 62 rfl (by kernel_rfl) (by kernel_rfl) ?s1 ?_
 case s1 =>
  intro iq oq pq hiq hoq hpq ρ ev W S hE hO ec ef hB hft hΦ
  simp only [Reg.SV] at hE
  obtain ⟨e2, _⟩ := hE
  obtain rfl : iq = 0 := by have : iq < 1 := hiq; omega
  cases hoq; cases hpq
  all_goals try exact Reg.D.mv hB
  all_goals exact Reg.D.cx hB
 intro ρ W0 S hB hft hap hΦ
 simp only [Reg.SV, Reg.SF, Nat.reduceAdd]
 have HX := HX.cl hB
 clear hΦ hft hap 
 go_upto_region 1 with (fail)
 try simp only [Reg.SF]
 refine Reg.det [Reg.k 8 (.agg #[.int .i64 2, .int .i64 6, .bool false]), Reg.k 9 (.agg #[.int .i64 2, .int .i64 0, .string (⟨#[]⟩ : ByteArray)]), Reg.k 10 (.agg #[.int .i64 2, .int .i64 6, .bool false, .int .i64 0, .int .i64 2, .int .i64 0, .string (⟨#[]⟩ : ByteArray)]), Reg.k 11 (.agg #[.int .i64 3, .int .i64 0, .bool false]), Reg.k 12 (.agg #[.int .i64 3, .int .i64 0, .string (⟨#[120]⟩ : ByteArray)]), Reg.k 13 (.agg #[.int .i64 3, .int .i64 0, .bool false, .int .i64 0, .int .i64 3, .int .i64 0, .string (⟨#[120]⟩ : ByteArray)]), (some 14, Reg.Dv.blk 14 57 2 #[.int .i64 2, .int .i64 6, .bool false, .int .i64 0, .int .i64 2, .int .i64 0, .string (⟨#[]⟩ : ByteArray), .int .i64 3, .int .i64 0, .bool false, .int .i64 0, .int .i64 3, .int .i64 0, .string (⟨#[120]⟩ : ByteArray)]), (some 3, Reg.Dv.u [14] (fun l => (l.headD undef)))] [] 62 rfl (by kernel_rfl) (by kernel_rfl) ?s2 ?_
 case s2 =>
  intro iq oq pq hiq hoq hpq ρ ev W S hE hO ec ef hB hft hΦ
  simp only [Reg.SV] at hE
  obtain ⟨e8, e9, e10, e11, e12, e13, e14, e3, _⟩ := hE
  rcases Reg.lt8 hiq with rfl | rfl | rfl | rfl | rfl | rfl | rfl | rfl
  all_goals (cases hoq; cases hpq)
  rotate_left 7
  ·obtain ⟨_, h14, _⟩ := hΦ 6 _ rfl rfl rfl
   replace h14 : ρ 14 = _ := h14
   refine Reg.D.uv hB ?_
   go_simp
   try (first | done | rfl | (simp; done) | (intro h; omega))
  rotate_right 7
  rotate_left 6
  ·refine Reg.D.blk hB ?_
   go_simp
   try (first | rfl | exact ⟨rfl, rfl⟩)
  rotate_right 6
  rotate_left 4
  ·refine Reg.D.cc (g := 29) (args := #[.string (⟨#[120]⟩ : ByteArray)]) hB (by go_simp; try rfl) ?_
   exact chapmanref16_Texted.calls (⟨#[120]⟩ : ByteArray) 3 0 (⟨#[120]⟩ : ByteArray) W rfl
  rotate_right 4
  all_goals exact Reg.D.cx hB
 intro ρ W1 S hB hft hap hΦ
 simp only [Reg.SV, Reg.SF, Nat.reduceAdd]
 obtain ⟨g14, e14, s14, hg14, _, b14⟩ := hΦ 6 _ rfl rfl
 replace e14 : ρ 14 = .slice (some ⟨g14, 0, none⟩) 2 2 := e14
 try simp only [e14]
 replace b14 : W1.heap[g14]? = some (.cells #[.int .i64 2, .int .i64 6, .bool false, .int .i64 0, .int .i64 2, .int .i64 0, .string (⟨#[]⟩ : ByteArray), .int .i64 3, .int .i64 0, .bool false, .int .i64 0, .int .i64 3, .int .i64 0, .string (⟨#[120]⟩ : ByteArray)] 57 (0, 0)) := b14
 have HX := yC.mk (HX.out.join (Bxs.one hB hg14 b14))
 clear hΦ hft hap 
 have HR : yC (Kd.R k57 57 W1 w.heap.size (fun _ => True) (.slice (some ⟨g14, 0, none⟩) 2 2) [at0, at1]) := ⟨R_of_blk (HX.out.at 0 rfl) (HX.out.ge 0 rfl) trivial (Reps.c7 (k57_mkM _ _ _ at0) (Reps.c7 (k57_mkM _ _ _ at1) (Reps.none _ _))) (show (2 : Nat) ≤ 9223372036854775807 by decide)⟩
 have HX2 : yC (Bxs w W1 []) := ⟨⟨HX.out.below, fun _ h => absurd h List.not_mem_nil, List.nodup_nil⟩⟩
 go_wp2_with fail
 obtain ⟨v3, hv3⟩ : ∃ v, v = (.slice (some ⟨g14, 0, none⟩) 2 2 : Value) := ⟨_, rfl⟩
 rw [← hv3] at HR ⊢
 clear hv3 HX b14
 have HX := HX2
 clear HX2
 go_loopg [3, 4] m (fun kq v3 v4 w' => ∃ (i : Nat) (l : List S57), v4 = .int .i64 i ∧ yC (kq + i = m) ∧ yC (Kd.R k57 57 w' w.heap.size (fun _ => True) v3 l) ∧ yC (mOk l i) ∧ yC (Bxs w w' []))
 case atStart => exact ⟨0, [at0, at1], rfl, ⟨by omega⟩, HR, ⟨mOk_start⟩, HX⟩
 case round =>
  clear HX HR
  obtain ⟨i, l, rfl, HKQ, HO, HL, HX⟩ := hrel
  obtain ⟨A3, c3, rfl⟩ := Kd.R_slice HO.out
  have hle : i ≤ m := by have := HKQ.out; omega
  have w2 : IntKind.i64.wrap ((i : Int) + 1) = (i : Int) + 1 := by rw [IntKind.wrap_i64]; omega
  by_cases hi : i < m
  ·have d1 : decide ((i : Int) < (m : Int)) = true := decide_eq_true (by omega)
   have HK1 := yC.mk (HBy.out ((i : Int) + 1) (by omega) (by omega))
   have hr1 := hkv ((i : Int) + 1)
   obtain ⟨K, hK⟩ : ∃ K, kv ((i : Int) + 1) = K := ⟨_, rfl⟩
   rw [hK] at HK1 hr1
   have HK := HK1
   clear HK1 hK
   have hd5 : IntKind.i64.wrap (Int.tdiv K 5) = Int.tdiv K 5 := by rw [IntKind.wrap_i64, Int.tdiv_eq_ediv_of_nonneg hr1.1]; omega
   have h5 := five K hr1.1
   go_upto_region 3 with (fail)
   try simp only [Reg.SF]
   refine Reg.det [Reg.k 15 (.int .i64 (i : Int)), Reg.k 16 (.slice B nb cb), Reg.k 17 (.int .i64 K0), Reg.k 18 (.int .i64 (Int.tmod K0 4)), Reg.k 19 (.int .i64 (m : Int)), Reg.k 20 (.bool true)] [] 62 rfl (by kernel_rfl) (by kernel_rfl) ?s3 ?_
   case s3 =>
    intro iq oq pq hiq hoq hpq ρ ev W S hE hO ec ef hB hft hΦ
    have e0 : ev (.tmp 0) = .slice B nb cb := hO 0 rfl
    have e4 : ev (.tmp 4) = .int .i64 (i : Int) := hO 4 rfl
    simp only [Reg.SV] at hE
    obtain ⟨e15, e16, e17, e18, e19, e20, _⟩ := hE
    rcases Reg.lt6 hiq with rfl | rfl | rfl | rfl | rfl | rfl
    all_goals (cases hoq; cases hpq)
    rotate_left 2
    ·refine Reg.D.cc (g := 36) (args := #[.slice B nb cb, .int .i64 0]) hB (by go_simp; try rfl) ?_
     exact HK0.out W (yD HX.out.below hB)
    rotate_right 2
    all_goals try exact Reg.D.mv hB
    all_goals (refine Reg.D.cv hB ?_; go_simp; try (first | done | rfl | (exact hm) | (exact d1) | (exact w2) | (simp [hm]; done) | (simp [d1]; done) | (simp; omega)))
   intro ρ W3 S hB hft hap hΦ
   simp only [Reg.SV, Reg.SF, Nat.reduceAdd]
   have HX := HX.cl hB
   replace HO := yC.mk (Kd.yJ HO.out hB)
   clear hΦ hft hap 
   go_upto_region 5 with (fail)
   try simp only [Reg.SF]
   refine Reg.det [Reg.k 23 (.slice B nb cb), Reg.k 24 (.int .i64 (i : Int)), Reg.k 25 (.int .i64 ((i : Int) + 1)), Reg.k 26 (.int .i64 K), Reg.k 5 (.int .i64 K)] [] 62 rfl (by kernel_rfl) (by kernel_rfl) ?s4 ?_
   case s4 =>
    intro iq oq pq hiq hoq hpq ρ ev W S hE hO ec ef hB hft hΦ
    have e0 : ev (.tmp 0) = .slice B nb cb := hO 0 rfl
    have e4 : ev (.tmp 4) = .int .i64 (i : Int) := hO 4 rfl
    simp only [Reg.SV] at hE
    obtain ⟨e23, e24, e25, e26, e5, _⟩ := hE
    rcases Reg.lt5 hiq with rfl | rfl | rfl | rfl | rfl
    all_goals (cases hoq; cases hpq)
    rotate_left 3
    ·refine Reg.D.cc (g := 36) (args := #[.slice B nb cb, .int .i64 ((i : Int) + 1)]) hB (by go_simp; try rfl) ?_
     exact HK.out W (yD HX.out.below hB)
    rotate_right 3
    all_goals try exact Reg.D.mv hB
    all_goals (refine Reg.D.cv hB ?_; go_simp; try (first | done | rfl | (exact hm) | (exact d1) | (exact w2) | (simp [hm]; done) | (simp [d1]; done) | (simp; omega)))
   intro ρ W5 S hB hft hap hΦ
   simp only [Reg.SV, Reg.SF, Nat.reduceAdd]
   have HX := HX.cl hB
   replace HO := yC.mk (Kd.yJ HO.out hB)
   clear hΦ hft hap 
   have RA := yC.mk (Kd.xE (ok' := fun k => k < W5.heap.size) (Kd.R_bound HO.out) (fun k hk => hk.2.2.1))
   clear HO
   obtain ⟨I, KT, hI, hI5, hKA, hT4, hKB⟩ := h5
   obtain ⟨nul, hN⟩ : ∃ b, (Int.tmod (Int.tdiv K 5) 2 == 1) = b := ⟨_, rfl⟩
   obtain ⟨c7, hc7⟩ : ∃ b, (KT == 2) = b := ⟨_, rfl⟩
   obtain ⟨c10, hc10⟩ : ∃ b, ((I : Int) == 4) = b := ⟨_, rfl⟩
   have HN := yC.mk hN
   have C7 := yC.mk hc7
   have C10 := yC.mk hc10
   clear hN hc7 hc10
   go_upto_region 6 with (fail)
   try simp only [Reg.SF]
   refine Reg.det [(some 27, Reg.Dv.blk 27 3 5 #[.int .i64 2, .int .i64 3, .int .i64 3, .int .i64 1, .int .i64 2]), Reg.k 28 (.int .i64 K), Reg.k 29 (.int .i64 (I : Int)), (some 30, Reg.Dv.u [27] (fun l => elemPtr (l.headD undef) I)), Reg.k 31 (.int .i64 KT), Reg.k 32 (.int .i64 K), Reg.k 33 (.int .i64 (Int.tdiv K 5)), Reg.k 34 (.int .i64 (Int.tmod (Int.tdiv K 5) 2)), Reg.k 35 (.bool nul), Reg.k 36 (.agg #[.int .i64 KT, .int .i64 0, .bool nul]), (some 6, Reg.Dv.box 6 49 (fun _ => #[.int .i64 0, .int .i64 0, .bool false]) [] true), (none, Reg.Dv.box 6 49 (fun _ => #[.int .i64 KT, .int .i64 0, .bool nul]) [] false)] [(10, 11)] 62 rfl (by kernel_rfl) (by kernel_rfl) ?s5 ?_
   case s5 =>
    intro iq oq pq hiq hoq hpq ρ ev W S hE hO ec ef hB hft hΦ
    have e5 : ev (.tmp 5) = .int .i64 K := hO 5 rfl
    simp only [Reg.SV] at hE
    obtain ⟨e27, e28, e29, e30, e31, e32, e33, e34, e35, e36, e6, _⟩ := hE
    rcases Reg.lt12 hiq with rfl | rfl | rfl | rfl | rfl | rfl | rfl | rfl | rfl | rfl | rfl | rfl
    all_goals (cases hoq; cases hpq)
    rotate_left 11
    ·exact Reg.D.fill 10 49 (.tmp 6) (.tmp 36) hB e6 (by first | assumption | rfl | (simp [*]; done)) (hΦ 10 _ rfl rfl rfl) info49s (by first | rfl | (simp only [Reg.SV]; rfl))
    rotate_right 11
    rotate_left 10
    ·refine Reg.D.box hB ?_
     go_simp
     try rfl
    rotate_right 10
    rotate_left 4
    ·obtain ⟨gb, h27, _, _, _, hb27⟩ := hΦ 0 _ rfl rfl rfl
     replace h27 : ρ 27 = .slice (some ⟨gb, 0, none⟩) 5 5 := h27
     have hc27 : W.cell? ⟨gb, I, none⟩ = some (.int .i64 KT) := (yO hb27 I).trans hKA
     rw [h27] at e30
     change ev (.tmp 30) = .pointer (some ⟨gb, 0 + I, none⟩) at e30
     refine Reg.D.cv hB ?_
     go_simp
    rotate_right 4
    rotate_left 3
    ·obtain ⟨_, h27, _⟩ := hΦ 0 _ rfl rfl rfl
     replace h27 : ρ 27 = _ := h27
     refine Reg.D.uv hB ?_
     go_simp
     try (first | done | rfl | (exact hI) | (exact hd5) | (rw [h27]; rfl) | (rw [if_pos (show (I : Int) < 5 by omega)]; simp [elemPtr]; done) | (simp [h27, elemPtr]; done) | (simp [hI]; done) | (simp [HN.out]; done) | (simp; omega))
    rotate_right 3
    ·refine Reg.D.blk hB ?_
     go_simp
     try (first | rfl | exact ⟨rfl, rfl⟩)
    all_goals try exact Reg.D.mv hB
    all_goals (refine Reg.D.cv hB ?_; go_simp; try (first | done | rfl | (exact hI) | (exact hd5) | (rw [h27]; rfl) | (rw [if_pos (show (I : Int) < 5 by omega)]; simp [elemPtr]; done) | (simp [h27, elemPtr]; done) | (simp [hI]; done) | (simp [HN.out]; done) | (simp; omega)))
   intro ρ W6 S hB hft hap hΦ
   simp only [Reg.SV, Reg.SF, Nat.reduceAdd]
   obtain ⟨g27, e27, s27, hg27, _, b27⟩ := hΦ 0 _ rfl rfl
   replace e27 : ρ 27 = .slice (some ⟨g27, 0, none⟩) 5 5 := e27
   obtain ⟨g6, e6, s6, hg6, _, b6⟩ := hΦ 11 _ rfl rfl
   replace e6 : ρ 6 = .pointer (some ⟨g6, 0, none⟩) := e6
   try simp only [e27, e6]
   replace b27 : W6.heap[g27]? = some (.cells #[.int .i64 2, .int .i64 3, .int .i64 3, .int .i64 1, .int .i64 2] 3 (0, 0)) := b27
   replace b6 : W6.heap[g6]? = some (.cells #[.int .i64 KT, .int .i64 0, .bool nul] 49 (0, 0)) := b6
   have HX := yC.mk (HX.out.join ((Bxs.one hB hg27 b27).more hg6 b6 (by intro p hp; simp only [List.mem_cons, List.mem_singleton, List.not_mem_nil, or_false] at hp; rcases hp with rfl <;> (intro e; dsimp only at e; subst e; first | exact absurd (hap _ _ _ s27 s6) (by decide)))))
   replace RA := yC.mk (Kd.yJ RA.out hB)
   clear hΦ hft hap 
   go_upto_region 7 with (fail)
   try simp only [Reg.SF]
   refine Reg.det [Reg.k 37 (.pointer (some ⟨g6, 0, none⟩)), Reg.k 38 (.int .i64 KT), Reg.k 39 (.bool c7)] [] 62 rfl (by kernel_rfl) (by kernel_rfl) ?s6 ?_
   case s6 =>
    intro iq oq pq hiq hoq hpq ρ ev W S hE hO ec ef hB hft hΦ
    have e6 : ev (.tmp 6) = .pointer (some ⟨g6, 0, none⟩) := hO 6 rfl
    have mg6_0 := HX.pc hB 0 0 (.int .i64 KT) rfl rfl
    simp only [Reg.SV] at hE
    obtain ⟨e37, e38, e39, _⟩ := hE
    rcases Reg.lt3 hiq with rfl | rfl | rfl
    all_goals (cases hoq; cases hpq)
    all_goals (refine Reg.D.cv hB ?_; go_simp; try (first | done | rfl | (simp [C7.out]; done) | (simp; omega)))
   intro ρ W7 S hB hft hap hΦ
   simp only [Reg.SV, Reg.SF, Nat.reduceAdd]
   have HX := HX.cl hB
   replace RA := yC.mk (Kd.yJ RA.out hB)
   clear hΦ hft hap 
   go_upto_if 39 with (fail)
   go_cut [] (fun wd => ∃ sc : Int, yC (Bxs w wd [(g6, 49, #[.int .i64 KT, .int .i64 sc, .bool nul]), (g27, 3, #[.int .i64 2, .int .i64 3, .int .i64 3, .int .i64 1, .int .i64 2])]) ∧ yC (Kd.R k57 57 wd w.heap.size (fun k => k < W5.heap.size) (.slice A3 l.length c3) l) ∧ yC ((KT = 2 ∧ sc = 6) ∨ (KT ≠ 2 ∧ sc = 0)))
   case first =>
    cases c7 with
    | true =>
     go_upto_region 8 with (fail)
     try simp only [Reg.SF]
     refine Reg.det [Reg.k 40 (.pointer (some ⟨g6, 1, none⟩))] [] 62 rfl (by kernel_rfl) (by kernel_rfl) ?s7 ?_
     case s7 =>
      intro iq oq pq hiq hoq hpq ρ ev W S hE hO ec ef hB hft hΦ
      have e6 : ev (.tmp 6) = .pointer (some ⟨g6, 0, none⟩) := hO 6 rfl
      simp only [Reg.SV] at hE
      obtain ⟨e40, _⟩ := hE
      obtain rfl : iq = 0 := by have : iq < 1 := hiq; omega
      cases hoq; cases hpq
      all_goals (refine Reg.D.cv hB ?_; go_simp; try (first | done | rfl | (simp [C7.out]; done) | (simp; omega)))
     intro ρ W8 S hB hft hap hΦ
     simp only [Reg.SV, Reg.SF, Nat.reduceAdd]
     have HX := HX.cl hB
     replace RA := yC.mk (Kd.yJ RA.out hB)
     clear hΦ hft hap 
     have fz1_ := HX.out.frz 0 1 rfl
     have cl1_ := HX.out.cell 0 1 rfl rfl
     go_wp2_with fail
     go_meet
     have HY0 := HX.out.set (L1 := []) 1 (.int .i64 6)
     have RY0 := R_setB RA.out (HX.out.at 0 rfl) hg6 1 (.int .i64 6)
     case rel => exact ⟨6, ⟨HY0⟩, ⟨RY0⟩, ⟨.inl ⟨by have := C7.out; simpa using this, rfl⟩⟩⟩
    | false =>
     go_wp2_with fail
     go_meet
     case rel => exact ⟨0, HX, RA, ⟨.inr ⟨by have := C7.out; simpa using this, rfl⟩⟩⟩
   clear HX RA
   obtain ⟨sc, HX, RA, HSC⟩ := hcut
   generalize wc = W8c at *
   have RC := yC.mk (Kd.xE (ok' := fun k => k < W8c.heap.size) (Kd.R_bound RA.out) (fun k hk => hk.2.2.1))
   clear RA
   go_upto_region 9 with (fail)
   try simp only [Reg.SF]
   refine Reg.det [Reg.k 41 (.agg #[.int .i64 KT, .int .i64 sc, .bool nul]), Reg.k 42 (.agg #[.int .i64 KT, .int .i64 sc, .bool nul, .int .i64 0, .int .i64 0, .int .i64 0, .string (⟨#[]⟩ : ByteArray)]), (some 7, Reg.Dv.box 7 57 (fun _ => #[.int .i64 0, .int .i64 0, .bool false, .int .i64 0, .int .i64 0, .int .i64 0, .string (⟨#[]⟩ : ByteArray)]) [] true), (none, Reg.Dv.box 7 57 (fun _ => #[.int .i64 KT, .int .i64 sc, .bool nul, .int .i64 0, .int .i64 0, .int .i64 0, .string (⟨#[]⟩ : ByteArray)]) [] false)] [(2, 3)] 62 rfl (by kernel_rfl) (by kernel_rfl) ?s8 ?_
   case s8 =>
    intro iq oq pq hiq hoq hpq ρ ev W S hE hO ec ef hB hft hΦ
    have e6 : ev (.tmp 6) = .pointer (some ⟨g6, 0, none⟩) := hO 6 rfl
    have mg6_0 := HX.pc hB 0 0 (.int .i64 KT) rfl rfl
    have mg6_1 := HX.pc hB 0 1 (.int .i64 sc) rfl rfl
    have mg6_2 := HX.pc hB 0 2 (.bool nul) rfl rfl
    simp only [Reg.SV] at hE
    obtain ⟨e41, e42, e7, _⟩ := hE
    rcases Reg.lt4 hiq with rfl | rfl | rfl | rfl
    all_goals (cases hoq; cases hpq)
    rotate_left 3
    ·exact Reg.D.fill 2 57 (.tmp 7) (.tmp 42) hB e7 (by first | assumption | rfl | (simp [*]; done)) (hΦ 2 _ rfl rfl rfl) info57s (by first | rfl | (simp only [Reg.SV]; rfl))
    rotate_right 3
    rotate_left 2
    ·refine Reg.D.box hB ?_
     go_simp
     try rfl
    rotate_right 2
    all_goals (refine Reg.D.cv hB ?_; go_simp; try (first | done | rfl | (simp [C7.out]; done) | (simp; omega)))
   intro ρ W9 S hB hft hap hΦ
   simp only [Reg.SV, Reg.SF, Nat.reduceAdd]
   obtain ⟨g7, e7, s7, hg7, _, b7⟩ := hΦ 3 _ rfl rfl
   replace e7 : ρ 7 = .pointer (some ⟨g7, 0, none⟩) := e7
   try simp only [e7]
   replace b7 : W9.heap[g7]? = some (.cells #[.int .i64 KT, .int .i64 sc, .bool nul, .int .i64 0, .int .i64 0, .int .i64 0, .string (⟨#[]⟩ : ByteArray)] 57 (0, 0)) := b7
   have HX := yC.mk (HX.out.join (Bxs.one hB hg7 b7))
   replace RC := yC.mk (Kd.yJ RC.out hB)
   clear hΦ hft hap 
   go_upto_region 10 with (fail)
   try simp only [Reg.SF]
   refine Reg.det [Reg.k 43 (.int .i64 K), Reg.k 44 (.int .i64 (I : Int)), Reg.k 45 (.bool c10)] [] 62 rfl (by kernel_rfl) (by kernel_rfl) ?s9 ?_
   case s9 =>
    intro iq oq pq hiq hoq hpq ρ ev W S hE hO ec ef hB hft hΦ
    have e5 : ev (.tmp 5) = .int .i64 K := hO 5 rfl
    simp only [Reg.SV] at hE
    obtain ⟨e43, e44, e45, _⟩ := hE
    rcases Reg.lt3 hiq with rfl | rfl | rfl
    all_goals (cases hoq; cases hpq)
    all_goals try exact Reg.D.mv hB
    all_goals (refine Reg.D.cv hB ?_; go_simp; try (first | done | rfl | (exact hI) | (simp [hI]; done) | (simp [C10.out]; done) | (simp; omega)))
   intro ρ W10 S hB hft hap hΦ
   simp only [Reg.SV, Reg.SF, Nat.reduceAdd]
   have HX := HX.cl hB
   replace RC := yC.mk (Kd.yJ RC.out hB)
   clear hΦ hft hap 
   go_upto_if 45 with (fail)
   go_cut [] (fun wd => ∃ (nl : Bool) (ru : Int), yC (Bxs w wd [(g7, 57, #[.int .i64 KT, .int .i64 sc, .bool nl, .int .i64 ru, .int .i64 0, .int .i64 0, .string (⟨#[]⟩ : ByteArray)]), (g6, 49, #[.int .i64 KT, .int .i64 sc, .bool nul]), (g27, 3, #[.int .i64 2, .int .i64 3, .int .i64 3, .int .i64 1, .int .i64 2])]) ∧ yC (Kd.R k57 57 wd w.heap.size (fun k => k < W8c.heap.size) (.slice A3 l.length c3) l) ∧ yC (ru = 0 ∨ (ru = 1 ∧ I = 4 ∧ nl = false)))
   case first =>
    cases c10 with
    | true =>
     go_upto_region 11 with (fail)
     try simp only [Reg.SF]
     refine Reg.det [Reg.k 46 (.pointer (some ⟨g7, 3, none⟩))] [] 62 rfl (by kernel_rfl) (by kernel_rfl) ?s10 ?_
     case s10 =>
      intro iq oq pq hiq hoq hpq ρ ev W S hE hO ec ef hB hft hΦ
      have e7 : ev (.tmp 7) = .pointer (some ⟨g7, 0, none⟩) := hO 7 rfl
      simp only [Reg.SV] at hE
      obtain ⟨e46, _⟩ := hE
      obtain rfl : iq = 0 := by have : iq < 1 := hiq; omega
      cases hoq; cases hpq
      all_goals (refine Reg.D.cv hB ?_; go_simp; try (first | done | rfl | (exact hI) | (simp [hI]; done) | (simp [C10.out]; done) | (simp; omega)))
     intro ρ W11 S hB hft hap hΦ
     simp only [Reg.SV, Reg.SF, Nat.reduceAdd]
     have HX := HX.cl hB
     replace RC := yC.mk (Kd.yJ RC.out hB)
     clear hΦ hft hap 
     have fz3_ := HX.out.frz 0 3 rfl
     have cl3_ := HX.out.cell 0 3 rfl rfl
     go_upto_region 12 with (fail)
     try simp only [Reg.SF]
     have HY0 := HX.out.set (L1 := []) 3 (.int .i64 1)
     have RY0 := R_setB RC.out (HX.out.at 0 rfl) hg7 3 (.int .i64 1)
     clear HX RC fz3_ cl3_ 
     generalize World.setCell _ ⟨g7, 3, none⟩ (.int .i64 1) = W11s at *
     have HX := yC.mk HY0
     have RC := yC.mk RY0
     clear HY0 RY0
     go_upto_region 12 with (fail)
     try simp only [Reg.SF]
     refine Reg.det [Reg.k 47 (.pointer (some ⟨g7, 0, none⟩)), Reg.k 48 (.pointer (some ⟨g7, 2, none⟩))] [] 62 rfl (by kernel_rfl) (by kernel_rfl) ?s11 ?_
     case s11 =>
      intro iq oq pq hiq hoq hpq ρ ev W S hE hO ec ef hB hft hΦ
      have e7 : ev (.tmp 7) = .pointer (some ⟨g7, 0, none⟩) := hO 7 rfl
      simp only [Reg.SV] at hE
      obtain ⟨e47, e48, _⟩ := hE
      rcases Reg.lt2 hiq with rfl | rfl
      all_goals (cases hoq; cases hpq)
      all_goals (refine Reg.D.cv hB ?_; go_simp; try (first | done | rfl | (exact hI) | (simp [hI]; done) | (simp [C10.out]; done) | (simp; omega)))
     intro ρ W12 S hB hft hap hΦ
     simp only [Reg.SV, Reg.SF, Nat.reduceAdd]
     have HX := HX.cl hB
     replace RC := yC.mk (Kd.yJ RC.out hB)
     clear hΦ hft hap 
     have fz2_ := HX.out.frz 0 2 rfl
     have cl2_ := HX.out.cell 0 2 rfl rfl
     go_wp2_with fail
     go_meet
     have HY0 := HX.out.set (L1 := []) 2 (.bool false)
     have RY0 := R_setB RC.out (HX.out.at 0 rfl) hg7 2 (.bool false)
     case rel => exact ⟨false, 1, ⟨HY0⟩, ⟨RY0⟩, ⟨.inr ⟨rfl, by have := C10.out; simp at this; omega, rfl⟩⟩⟩
    | false =>
     go_wp2_with fail
     go_meet
     case rel => exact ⟨nul, 0, HX, RC, ⟨.inl rfl⟩⟩
   clear HX RC
   obtain ⟨nl, ru, HX, RC, HRU⟩ := hcut
   generalize wc = W12c at *
   go_upto_region 13 with (fail)
   try simp only [Reg.SF]
   refine Reg.det [Reg.k 49 (.pointer (some ⟨g7, 0, none⟩)), Reg.k 50 (.pointer (some ⟨g7, 2, none⟩)), Reg.k 51 (.bool nl), Reg.k 52 (.bool (!nl))] [] 62 rfl (by kernel_rfl) (by kernel_rfl) ?s12 ?_
   case s12 =>
    intro iq oq pq hiq hoq hpq ρ ev W S hE hO ec ef hB hft hΦ
    have e7 : ev (.tmp 7) = .pointer (some ⟨g7, 0, none⟩) := hO 7 rfl
    have mg7_2 := HX.pc hB 0 2 (.bool nl) rfl rfl
    simp only [Reg.SV] at hE
    obtain ⟨e49, e50, e51, e52, _⟩ := hE
    rcases Reg.lt4 hiq with rfl | rfl | rfl | rfl
    all_goals (cases hoq; cases hpq)
    all_goals exact Reg.D.cx hB
   intro ρ W13 S hB hft hap hΦ
   simp only [Reg.SV, Reg.SF, Nat.reduceAdd]
   have HX := HX.cl hB
   replace RC := yC.mk (Kd.yJ RC.out hB)
   clear hΦ hft hap 
   go_upto_if 52 with (fail)
   go_cut [] (fun wd => ∃ d0 : Int, yC (Bxs w wd [(g7, 57, #[.int .i64 KT, .int .i64 sc, .bool nl, .int .i64 ru, .int .i64 d0, .int .i64 0, .string (⟨#[]⟩ : ByteArray)]), (g6, 49, #[.int .i64 KT, .int .i64 sc, .bool nul]), (g27, 3, #[.int .i64 2, .int .i64 3, .int .i64 3, .int .i64 1, .int .i64 2])]) ∧ yC (Kd.R k57 57 wd w.heap.size (fun k => k < W8c.heap.size) (.slice A3 l.length c3) l))
   case first =>
    cases nl with
    | false =>
     go_upto_region 14 with (fail)
     try simp only [Reg.SF]
     refine Reg.det [Reg.k 53 (.pointer (some ⟨g6, 0, none⟩)), Reg.k 54 (.int .i64 KT), Reg.k 55 (.agg #[.int .i64 KT, .int .i64 0, .string (⟨#[]⟩ : ByteArray)]), Reg.k 56 (.pointer (some ⟨g7, 4, none⟩))] [] 62 rfl (by kernel_rfl) (by kernel_rfl) ?s13 ?_
     case s13 =>
      intro iq oq pq hiq hoq hpq ρ ev W S hE hO ec ef hB hft hΦ
      have e6 : ev (.tmp 6) = .pointer (some ⟨g6, 0, none⟩) := hO 6 rfl
      have e7 : ev (.tmp 7) = .pointer (some ⟨g7, 0, none⟩) := hO 7 rfl
      have mg6_0 := HX.pc hB 1 0 (.int .i64 KT) rfl rfl
      simp only [Reg.SV] at hE
      obtain ⟨e53, e54, e55, e56, _⟩ := hE
      rcases Reg.lt4 hiq with rfl | rfl | rfl | rfl
      all_goals (cases hoq; cases hpq)
      all_goals exact Reg.D.cx hB
     intro ρ W14 S hB hft hap hΦ
     simp only [Reg.SV, Reg.SF, Nat.reduceAdd]
     have HX := HX.cl hB
     replace RC := yC.mk (Kd.yJ RC.out hB)
     clear hΦ hft hap 
     have fz4_ := HX.out.frz 0 4 rfl
     have cl4_ := HX.out.cell 0 4 rfl rfl
     have fz5_ := HX.out.frz 0 5 rfl
     have cl5_ := HX.out.cell 0 5 rfl rfl
     have fz6_ := HX.out.frz 0 6 rfl
     have cl6_ := HX.out.cell 0 6 rfl rfl
     go_wp2_with fail
     go_meet
     have HY0 := HX.out.set (L1 := []) 4 (.int .i64 KT)
     have RY0 := R_setB RC.out (HX.out.at 0 rfl) hg7 4 (.int .i64 KT)
     have HY1 := HY0.set (L1 := []) 5 (.int .i64 0)
     have RY1 := R_setB RY0 (HY0.at 0 rfl) hg7 5 (.int .i64 0)
     have HY2 := HY1.set (L1 := []) 6 (.string (⟨#[]⟩ : ByteArray))
     have RY2 := R_setB RY1 (HY1.at 0 rfl) hg7 6 (.string (⟨#[]⟩ : ByteArray))
     case rel => exact ⟨KT, ⟨HY2⟩, ⟨RY2⟩⟩
    | true =>
     go_wp2_with fail
     go_meet
     case rel => exact ⟨0, HX, RC⟩
   clear HX RC
   obtain ⟨d0, HX, RC⟩ := hcut
   generalize wc = W14c at *
   have HO : yC (Kd.R k57 57 W14c w.heap.size (fun _ => True) (.slice A3 l.length c3) l) := ⟨Kd.xE RC.out (fun _ _ => trivial)⟩
   have m0 : _ = some (.int .i64 KT : Value) := HX.out.cell 0 0 rfl rfl
   have m1 : _ = some (.int .i64 sc : Value) := HX.out.cell 0 1 rfl rfl
   have m2 : _ = some (.bool nl : Value) := HX.out.cell 0 2 rfl rfl
   have m3 : _ = some (.int .i64 ru : Value) := HX.out.cell 0 3 rfl rfl
   have m4 : _ = some (.int .i64 d0 : Value) := HX.out.cell 0 4 rfl rfl
   have m5 : _ = some (.int .i64 0 : Value) := HX.out.cell 0 5 rfl rfl
   have m6 : _ = some (.string (⟨#[]⟩ : ByteArray) : Value) := HX.out.cell 0 6 rfl rfl
   go_wp2_with (first | ((with_reducible refine gate_builtin (b := .append) (xs := #[.tmp 57, .tmp 59]) rfl ?_); at_builtin; refine Kd.R_append k57 (w0 := w) w.heap.size rfl (.tmp 57) (.tmp 59) 26 57 (.agg #[(.int .i64 0), (.int .i64 0), (.bool false), (.int .i64 0), (.int .i64 0), (.int .i64 0), (.string ⟨#[]⟩)]) 64 rfl Tryz.underlying26 info57k rfl (by decide) (by decide) _ l (⟨⟨KT, sc, nl⟩, ru, ⟨d0, 0, (⟨#[]⟩ : ByteArray)⟩⟩ : S57) [.int .i64 KT, .int .i64 sc, .bool nl, .int .i64 ru, .int .i64 d0, .int .i64 0, .string (⟨#[]⟩ : ByteArray)] (fun _ => True) (fun _ => False) rfl rfl (k57_mkM _ _ _ (⟨⟨KT, sc, nl⟩, ru, ⟨d0, 0, (⟨#[]⟩ : ByteArray)⟩⟩ : S57)) (fun _ hk => hk.elim) (fun _ _ => trivial) HO.out HX.out.below HX.out.below.size (by have h := HL.out.1; omega) ?_; intro v60 W60 hr1 hb1 hg1 hat1; have HO2 := yC.mk hr1; clear HX HO RC; have HX := yC.mk hb1; clear hr1 hb1 hg1 hat1))
   have hA : aOk (⟨⟨KT, sc, nl⟩, ru, ⟨d0, 0, (⟨#[]⟩ : ByteArray)⟩⟩ : S57) := made_aOk HSC.out HRU.out hT4 hKB
   cases gk with
   | zero => exact absurd HKQ.out (by omega)
   | succ gk1 =>
   go_roundg gk1
   case measure => omega
   case rel => exact ⟨i + 1, l ++ [(⟨⟨KT, sc, nl⟩, ru, ⟨d0, 0, (⟨#[]⟩ : ByteArray)⟩⟩ : S57)], by simp, ⟨by have := HKQ.out; omega⟩, HO2, ⟨mOk_add HL.out hA⟩, ⟨⟨HX.out, fun _ h => absurd h List.not_mem_nil, List.nodup_nil⟩⟩⟩
  ·have d1 : decide ((i : Int) < (m : Int)) = false := decide_eq_false (by omega)
   go_upto_region 3 with (fail)
   try simp only [Reg.SF]
   refine Reg.det [Reg.k 15 (.int .i64 (i : Int)), Reg.k 16 (.slice B nb cb), Reg.k 17 (.int .i64 K0), Reg.k 18 (.int .i64 (Int.tmod K0 4)), Reg.k 19 (.int .i64 (m : Int)), Reg.k 20 (.bool false)] [] 62 rfl (by kernel_rfl) (by kernel_rfl) ?s14 ?_
   case s14 =>
    intro iq oq pq hiq hoq hpq ρ ev W S hE hO ec ef hB hft hΦ
    have e0 : ev (.tmp 0) = .slice B nb cb := hO 0 rfl
    have e4 : ev (.tmp 4) = .int .i64 (i : Int) := hO 4 rfl
    simp only [Reg.SV] at hE
    obtain ⟨e15, e16, e17, e18, e19, e20, _⟩ := hE
    rcases Reg.lt6 hiq with rfl | rfl | rfl | rfl | rfl | rfl
    all_goals (cases hoq; cases hpq)
    rotate_left 2
    ·refine Reg.D.cc (g := 36) (args := #[.slice B nb cb, .int .i64 0]) hB (by go_simp; try rfl) ?_
     exact HK0.out W (yD HX.out.below hB)
    rotate_right 2
    all_goals try exact Reg.D.mv hB
    all_goals (refine Reg.D.cv hB ?_; go_simp; try (first | done | rfl | (exact hm) | (exact d1) | (exact w2) | (simp [hm]; done) | (simp [d1]; done) | (simp; omega)))
   intro ρ W3 S hB hft hap hΦ
   simp only [Reg.SV, Reg.SF, Nat.reduceAdd]
   have HX := HX.cl hB
   have HO2 := yC.mk (Kd.yJ HO.out hB)
   clear hΦ hft hap 
   obtain rfl : i = m := by omega
   go_wp2_with fail
   go_ret
   exact ⟨_, l, rfl, HO2.out, mOk_at HL.out hm1 hm4, HX.out.below⟩
end
section
open Go.RowKit YtmebkjdknhknbaaGreatDoor.G
theorem kt_of {a : S57} (h : aOk a) : a.f0.f0 = 2 ∨ a.f0.f0 = 3 ∨ a.f0.f0 = 1 := by
 rcases h.2 with h | h | h
 ·exact .inl h.1
 ·exact .inr (.inl h.1)
 ·exact .inr (.inr h.1)
theorem mul_in {a b : Int} (h0 : -128 ≤ a) (h1 : a ≤ 127) (h2 : 1 ≤ b) (h3 : b ≤ 100000000000) : -100000000000000 ≤ a * b ∧ a * b ≤ 100000000000000 := by
 have h4 : a * b ≤ 127 * b := Int.mul_le_mul_of_nonneg_right h1 (by omega)
 have h5 : -128 * b ≤ a * b := Int.mul_le_mul_of_nonneg_right h0 (by omega)
 omega
theorem Cells_calls (l0 : List S57) (hat : atOk l0) (A0 : Option Addr) (c0 : Nat) (B : Option Addr) (nb cb : Nat) (kv : Int → Int) (hkv : ∀ i, 0 ≤ kv i ∧ kv i ≤ 255) (w : World) (hr0 : Kd.C k57 w A0 l0.length l0)
  (HBy : yC (∀ i : Int, 0 ≤ i → i ≤ 100 → ∀ w', Below w.heap.size w w' → Calls Tryz.prog 36 #[.slice B nb cb, .int .i64 i] w' fun e w'' => e = .returned (.int .i64 (kv i)) ∧ Below w'.heap.size w' w''))
  (HPo : yC (∀ e : Int, 0 ≤ e → e ≤ 11 → ∃ P : Int, (1 ≤ P ∧ P ≤ 100000000000) ∧ ∀ w', Calls Tryz.prog 37 #[.int .i64 e] w' fun r w'' => r = .returned (.int .i64 P) ∧ Below w'.heap.size w' w''))
  (HWo : yC (∀ a b : Int, 0 ≤ a → a ≤ 255 → 0 ≤ b → b ≤ 255 → ∃ s : ByteArray, (s.size ≤ 40 ∧ xD s.data.toList = true) ∧ ∀ w', Calls Tryz.prog 39 #[.int .i64 a, .int .i64 b] w' fun r w'' => r = .returned (.string s) ∧ Below w'.heap.size w' w'')) :
  Calls Tryz.prog 18 #[.slice A0 l0.length c0, .slice B nb cb] w fun e w' => ∃ v l, e = .returned v ∧ Kd.R k39 39 w' w.heap.size (fun _ => True) v l ∧ (l.length = l0.length ∧ cellsOk l0 l) ∧ Below w.heap.size w w' := by
 have hu := Tryz.underlying39
 have hu3 := Tryz.underlying49
 have hu4 := Tryz.underlying57
 obtain ⟨ad, ead, _⟩ := at_T57 hr0 0 (by decide) (by have := hat.1; omega)
 subst ead
 have HAT := yC.mk hat
 have HR0 := yC.mk hr0
 obtain ⟨n0, hn0⟩ : ∃ n, l0.length = n := ⟨_, rfl⟩
 have HN : yC (n0 ≤ 6 ∧ l0.length = n0) := ⟨by rw [← hn0]; exact hat.2.1, hn0⟩
 rw [hn0] at HR0 ⊢
 clear hat hr0 hn0
 go_enter Tryz.func18, Tryz.ntmps18
 go_wp2_with (first | ((with_reducible refine yK (N := 9) rfl ?_); refine Kd.R_lit k39 (w0 := w) w.heap.size 39 ?hg (N := 9) ?hd (xs := ([] : List S39)) (inner := []) (ok := fun _ => True) (okp := fun _ => True) ?hr ?hp (fun _ hk => hk) trivial (Below.refl _ _) (Nat.le_refl _) (by simp) ?_; (case hd | hg => rfl); (case hr => go_simp; try rfl); (case hp => exact (Reps.none _ _)); intro v9 W9 ho hb hg_ hnew_; clear hg_ hnew_; have HR := yC.mk ho; have HB := yC.mk hb; clear ho hb))
 go_loopg [5, 6] n0 (fun kq v5 v6 w' => ∃ (i : Nat) (l : List S39), v6 = .int .i64 i ∧ yC (kq + i = n0) ∧ yC (Kd.R k39 39 w' w.heap.size (fun _ => True) v5 l) ∧ yC (cOk l0 l i) ∧ yC (Bxs w w' []))
 case atStart => exact ⟨0, [], rfl, ⟨by omega⟩, HR, ⟨rfl, fun i hi => absurd hi (Nat.not_lt_zero _)⟩, ⟨⟨HB.out, fun _ h => absurd h List.not_mem_nil, List.nodup_nil⟩⟩⟩
 case round =>
  clear HB HR
  obtain ⟨i, l, rfl, HKQ, HO, HL, HX⟩ := hrel
  obtain ⟨A5, c5, rfl⟩ := Kd.R_slice HO.out
  have hn6 := HN.out.1
  have w2 : IntKind.i64.wrap ((i : Int) + 1) = (i : Int) + 1 := by have := HKQ.out; rw [IntKind.wrap_i64]; omega
  by_cases hi : i < n0
  ·have d1 : decide ((i : Int) < (n0 : Int)) = true := decide_eq_true (by omega)
   have HK1 := yC.mk (HBy.out (2 * (i : Int)) (by omega) (by omega))
   have HT1 := yC.mk (HBy.out (2 * (i : Int) + 1) (by omega) (by omega))
   have hrk := hkv (2 * (i : Int))
   have hrt := hkv (2 * (i : Int) + 1)
   obtain ⟨K, hK⟩ : ∃ K, kv (2 * (i : Int)) = K := ⟨_, rfl⟩
   obtain ⟨T, hT⟩ : ∃ K, kv (2 * (i : Int) + 1) = K := ⟨_, rfl⟩
   rw [hK] at HK1 hrk
   rw [hT] at HT1 hrt
   have HK := HK1
   have HT := HT1
   clear HK1 HT1 hK hT
   have hm12 : 0 ≤ Int.tmod T 12 ∧ Int.tmod T 12 ≤ 11 := by rw [Int.tmod_eq_emod_of_nonneg hrt.1]; omega
   obtain ⟨PW, hPW, hP⟩ := HPo.out (Int.tmod T 12) hm12.1 hm12.2
   obtain ⟨WS, hWS, hW_⟩ := HWo.out K T hrk.1 hrk.2 hrt.1 hrt.2
   have HP := yC.mk hP
   have HW_ := yC.mk hW_
   have HWS := yC.mk hWS
   have HPW := yC.mk (mul_in (a := K - 128) (by omega) (by omega) hPW.1 hPW.2)
   obtain ⟨K2, hK2, hK2'⟩ : ∃ z, Int.tmod K 2 = z ∧ (z = 0 ∨ z = 1) := ⟨_, rfl, by rw [Int.tmod_eq_emod_of_nonneg hrk.1]; omega⟩
   have HK2 := yC.mk hK2'
   clear hK2'
   have w3 : IntKind.i64.wrap (2 * (i : Int)) = 2 * (i : Int) := by rw [IntKind.wrap_i64]; omega
   have w4 : IntKind.i64.wrap (2 * (i : Int) + 1) = 2 * (i : Int) + 1 := by rw [IntKind.wrap_i64]; omega
   have w5 : IntKind.i64.wrap (K - 128) = K - 128 := by rw [IntKind.wrap_i64]; omega
   have w6 : IntKind.i64.wrap ((K - 128) * PW) = (K - 128) * PW := by have := HPW.out; rw [IntKind.wrap_i64]; generalize (K - 128) * PW = z at *; omega
   clear hP hW_ hWS hPW hm12
   obtain ⟨ad', ead, q0, _, q2, _⟩ := at_T57 HR0.out (i : Int) (by omega) (by omega)
   cases ead
   rw [Int.toNat_natCast] at q0 q2
   have hA : ∀ v, cellK (xC l0 (i : Int)).f0.f2 (xC l0 (i : Int)).f0.f0 v → cellOk (xC l0 (i : Int)) v := fun v h => h
   have hnc := kt_of (HAT.out.2.2.1 i (by rw [HN.out.2]; exact hi))
   generalize (xC l0 (i : Int)).f0.f0 = KT at *
   generalize (xC l0 (i : Int)).f0.f2 = NU at *
   have HA := yC.mk hA
   clear hA
   obtain ⟨qa, hq⟩ : ∃ q, ad.add (i * 7) = q := ⟨_, rfl⟩
   rw [hq] at q0 q2
   obtain ⟨q2a, hq2⟩ : ∃ q : Addr, (⟨qa.block, qa.off + 2, none⟩ : Addr) = q := ⟨_, rfl⟩
   rw [hq2] at q2
   have Q0 := yC.mk q0
   have Q2 := yC.mk q2
   clear q0 q2
   obtain ⟨c45, hc45⟩ : ∃ b, (Int.tmod K 4 == 0) = b := ⟨_, rfl⟩
   have C45 := yC.mk hc45
   clear hc45
   go_upto_region 3 with (fail)
   try simp only [Reg.SF]
   refine Reg.det [Reg.k 10 (.int .i64 (i : Int)), Reg.k 11 (.slice (some ad) n0 c0), Reg.k 12 (.int .i64 n0), Reg.k 13 (.bool true)] [] 75 rfl (by kernel_rfl) (by kernel_rfl) ?s1 ?_
   case s1 =>
    intro iq oq pq hiq hoq hpq ρ ev W S hE hO ec ef hB hft hΦ
    have e0 : ev (.tmp 0) = .slice (some ad) n0 c0 := hO 0 rfl
    have e6 : ev (.tmp 6) = .int .i64 (i : Int) := hO 6 rfl
    simp only [Reg.SV] at hE
    obtain ⟨e10, e11, e12, e13, _⟩ := hE
    rcases Reg.lt4 hiq with rfl | rfl | rfl | rfl
    all_goals (cases hoq; cases hpq)
    all_goals try exact Reg.D.mv hB
    all_goals (refine Reg.D.cv hB ?_; go_simp; try (first | done | rfl | (exact hK2) | (simp [hK2]; done) | (exact d1) | (exact w2) | (exact w3) | (exact w4) | (exact w5) | (exact w6) | (rw [← hq]; rfl) | (rw [← hq2]; rfl) | (simp [d1]; done) | (simp [C45.out]; done) | (simp; omega)))
   intro ρ W3 S hB hft hap hΦ
   simp only [Reg.SV, Reg.SF, Nat.reduceAdd]
   have HX := HX.cl hB
   replace HO := yC.mk (Kd.yJ HO.out hB)
   clear hΦ hft hap 
   go_upto_region 5 with (fail)
   try simp only [Reg.SF]
   refine Reg.det [Reg.k 16 (.slice B nb cb), Reg.k 17 (.int .i64 (i : Int)), Reg.k 18 (.int .i64 (2 * (i : Int))), Reg.k 19 (.int .i64 K), Reg.k 7 (.int .i64 K)] [] 75 rfl (by kernel_rfl) (by kernel_rfl) ?s2 ?_
   case s2 =>
    intro iq oq pq hiq hoq hpq ρ ev W S hE hO ec ef hB hft hΦ
    have e1 : ev (.tmp 1) = .slice B nb cb := hO 1 rfl
    have e6 : ev (.tmp 6) = .int .i64 (i : Int) := hO 6 rfl
    simp only [Reg.SV] at hE
    obtain ⟨e16, e17, e18, e19, e7, _⟩ := hE
    rcases Reg.lt5 hiq with rfl | rfl | rfl | rfl | rfl
    all_goals (cases hoq; cases hpq)
    rotate_left 3
    ·refine Reg.D.cc (g := 36) (args := #[.slice B nb cb, .int .i64 (2 * (i : Int))]) hB (by go_simp; try rfl) ?_
     exact HK.out W (yD HX.out.below hB)
    rotate_right 3
    all_goals try exact Reg.D.mv hB
    all_goals (refine Reg.D.cv hB ?_; go_simp; try (first | done | rfl | (exact hK2) | (simp [hK2]; done) | (exact d1) | (exact w2) | (exact w3) | (exact w4) | (exact w5) | (exact w6) | (rw [← hq]; rfl) | (rw [← hq2]; rfl) | (simp [d1]; done) | (simp [C45.out]; done) | (simp; omega)))
   intro ρ W5 S hB hft hap hΦ
   simp only [Reg.SV, Reg.SF, Nat.reduceAdd]
   have HX := HX.cl hB
   replace HO := yC.mk (Kd.yJ HO.out hB)
   clear hΦ hft hap 
   have RA := yC.mk (Kd.xE (ok' := fun k => k < W5.heap.size) (Kd.R_bound HO.out) (fun k hk => hk.2.2.1))
   clear HO
   have ma := yB HX.out.below Q0.out
   go_upto_region 6 with (fail)
   try simp only [Reg.SF]
   refine Reg.det [Reg.k 20 (.slice (some ad) n0 c0), Reg.k 21 (.int .i64 (i : Int)), Reg.k 22 (.pointer (some qa)), Reg.k 23 (.pointer (some qa)), Reg.k 24 (.pointer (some qa)), Reg.k 25 (.int .i64 KT), Reg.k 26 (.agg #[.int .i64 KT, .int .i64 0, .string (⟨#[]⟩ : ByteArray)]), (some 8, Reg.Dv.box 8 39 (fun _ => #[.int .i64 0, .int .i64 0, .string (⟨#[]⟩ : ByteArray)]) [] true), (none, Reg.Dv.box 8 39 (fun _ => #[.int .i64 KT, .int .i64 0, .string (⟨#[]⟩ : ByteArray)]) [] false)] [(7, 8)] 75 rfl (by kernel_rfl) (by kernel_rfl) ?s3 ?_
   case s3 =>
    intro iq oq pq hiq hoq hpq ρ ev W S hE hO ec ef hB hft hΦ
    have e0 : ev (.tmp 0) = .slice (some ad) n0 c0 := hO 0 rfl
    have e6 : ev (.tmp 6) = .int .i64 (i : Int) := hO 6 rfl
    have ma' := yB hB ma
    simp only [Reg.SV] at hE
    obtain ⟨e20, e21, e22, e23, e24, e25, e26, e8, _⟩ := hE
    rcases Reg.lt9 hiq with rfl | rfl | rfl | rfl | rfl | rfl | rfl | rfl | rfl
    all_goals (cases hoq; cases hpq)
    rotate_left 8
    ·exact Reg.D.fill 7 39 (.tmp 8) (.tmp 26) hB e8 (by first | assumption | rfl | (simp [*]; done)) (hΦ 7 _ rfl rfl rfl) info39s (by first | rfl | (simp only [Reg.SV]; rfl))
    rotate_right 8
    rotate_left 7
    ·refine Reg.D.box hB ?_
     go_simp
     try rfl
    rotate_right 7
    all_goals try exact Reg.D.mv hB
    all_goals (refine Reg.D.cv hB ?_; go_simp; try (first | done | rfl | (exact hK2) | (simp [hK2]; done) | (exact d1) | (exact w2) | (exact w3) | (exact w4) | (exact w5) | (exact w6) | (rw [← hq]; rfl) | (rw [← hq2]; rfl) | (simp [d1]; done) | (simp [C45.out]; done) | (simp; omega)))
   intro ρ W6 S hB hft hap hΦ
   simp only [Reg.SV, Reg.SF, Nat.reduceAdd]
   obtain ⟨g8, e8, s8, hg8, _, b8⟩ := hΦ 8 _ rfl rfl
   replace e8 : ρ 8 = .pointer (some ⟨g8, 0, none⟩) := e8
   try simp only [e8]
   replace b8 : W6.heap[g8]? = some (.cells #[.int .i64 KT, .int .i64 0, .string (⟨#[]⟩ : ByteArray)] 39 (0, 0)) := b8
   have HX := yC.mk (HX.out.join (Bxs.one hB hg8 b8))
   replace RA := yC.mk (Kd.yJ RA.out hB)
   clear hΦ hft hap 
   go_upto_block 2 with (fail)
   go_cut [] (fun wd => ∃ v : S39, yC (Bxs w wd [(g8, 39, #[.int .i64 v.f0, .int .i64 v.f1, .string v.f2])]) ∧ yC (Kd.R k39 39 wd w.heap.size (fun k => k < W5.heap.size) (.slice A5 l.length c5) l) ∧ yC (cellK NU KT v))
   case first =>
    go_upto_region 8 with (fail)
    go_cut [35] (fun v35 wd => v35 = .bool (NU && c45) ∧ yC (Bxs w wd [(g8, 39, #[.int .i64 KT, .int .i64 0, .string (⟨#[]⟩ : ByteArray)])]) ∧ yC (Kd.R k39 39 wd w.heap.size (fun k => k < W5.heap.size) (.slice A5 l.length c5) l))
    case first =>
     have mb := yB HX.out.below Q2.out
     cases NU with
     | true =>
      go_upto_region 8 with (fail)
      try simp only [Reg.SF]
      refine Reg.det [Reg.k 36 (.slice (some ad) n0 c0), Reg.k 37 (.int .i64 (i : Int)), Reg.k 38 (.pointer (some qa)), Reg.k 39 (.pointer (some qa)), Reg.k 40 (.pointer (some q2a)), Reg.k 41 (.bool true), Reg.k 42 (.bool true), Reg.k 43 (.int .i64 K), Reg.k 44 (.int .i64 (Int.tmod K 4)), Reg.k 45 (.bool c45), Reg.k 46 (.bool c45), Reg.k 35 (.bool c45)] [] 75 rfl (by kernel_rfl) (by kernel_rfl) ?s4 ?_
      case s4 =>
       intro iq oq pq hiq hoq hpq ρ ev W S hE hO ec ef hB hft hΦ
       have e0 : ev (.tmp 0) = .slice (some ad) n0 c0 := hO 0 rfl
       have e6 : ev (.tmp 6) = .int .i64 (i : Int) := hO 6 rfl
       have e7 : ev (.tmp 7) = .int .i64 K := hO 7 rfl
       have mb' := yB hB mb
       simp only [Reg.SV] at hE
       obtain ⟨e36, e37, e38, e39, e40, e41, e42, e43, e44, e45, e46, e35, _⟩ := hE
       rcases Reg.lt12 hiq with rfl | rfl | rfl | rfl | rfl | rfl | rfl | rfl | rfl | rfl | rfl | rfl
       all_goals (cases hoq; cases hpq)
       all_goals try exact Reg.D.mv hB
       all_goals (refine Reg.D.cv hB ?_; go_simp; try (first | done | rfl | (exact hK2) | (simp [hK2]; done) | (exact d1) | (exact w2) | (exact w3) | (exact w4) | (exact w5) | (exact w6) | (rw [← hq]; rfl) | (rw [← hq2]; rfl) | (simp [d1]; done) | (simp [C45.out]; done) | (simp; omega)))
      intro ρ W8 S hB hft hap hΦ
      simp only [Reg.SV, Reg.SF, Nat.reduceAdd]
      have HX := HX.cl hB
      replace RA := yC.mk (Kd.yJ RA.out hB)
      clear hΦ hft hap 
      go_wp2_with fail
      go_meet
      case rel => exact ⟨by first | rfl | simp, HX, RA⟩
     | false =>
      go_upto_region 8 with (fail)
      try simp only [Reg.SF]
      refine Reg.det [Reg.k 36 (.slice (some ad) n0 c0), Reg.k 37 (.int .i64 (i : Int)), Reg.k 38 (.pointer (some qa)), Reg.k 39 (.pointer (some qa)), Reg.k 40 (.pointer (some q2a)), Reg.k 41 (.bool false), Reg.k 42 (.bool false), Reg.u 43, Reg.u 44, Reg.u 45, Reg.k 46 (.bool false), Reg.k 35 (.bool false)] [] 75 rfl (by kernel_rfl) (by kernel_rfl) ?s5 ?_
      case s5 =>
       intro iq oq pq hiq hoq hpq ρ ev W S hE hO ec ef hB hft hΦ
       have e0 : ev (.tmp 0) = .slice (some ad) n0 c0 := hO 0 rfl
       have e6 : ev (.tmp 6) = .int .i64 (i : Int) := hO 6 rfl
       have e7 : ev (.tmp 7) = .int .i64 K := hO 7 rfl
       have mb' := yB hB mb
       simp only [Reg.SV] at hE
       obtain ⟨e36, e37, e38, e39, e40, e41, e42, e43, e44, e45, e46, e35, _⟩ := hE
       rcases Reg.lt12 hiq with rfl | rfl | rfl | rfl | rfl | rfl | rfl | rfl | rfl | rfl | rfl | rfl
       all_goals (cases hoq; cases hpq)
       all_goals (first | exact Reg.D.sk hB | skip)
       all_goals try exact Reg.D.mv hB
       all_goals (refine Reg.D.cv hB ?_; go_simp; try (first | done | rfl | (exact hK2) | (simp [hK2]; done) | (exact d1) | (exact w2) | (exact w3) | (exact w4) | (exact w5) | (exact w6) | (rw [← hq]; rfl) | (rw [← hq2]; rfl) | (simp [d1]; done) | (simp [C45.out]; done) | (simp; omega)))
      intro ρ W8 S hB hft hap hΦ
      simp only [Reg.SV, Reg.SF, Nat.reduceAdd]
      have HX := HX.cl hB
      replace RA := yC.mk (Kd.yJ RA.out hB)
      clear hΦ hft hap 
      go_wp2_with fail
      go_meet
      case rel => exact ⟨by first | rfl | simp, HX, RA⟩
    clear HX RA
    obtain ⟨hv35, HX, RA⟩ := hcut
    generalize wc = W8c at *
    subst hv35
    have HNC := yC.mk hnc
    obtain ⟨b35, hb35⟩ : ∃ b, (NU && c45) = b := ⟨_, rfl⟩
    rw [hb35]
    have HB35 := yC.mk hb35
    clear hb35 hnc
    cases b35 with
    | true =>
     go_upto_region 9 with (fail)
     try simp only [Reg.SF]
     refine Reg.det [Reg.k 47 (.agg #[.int .i64 0, .int .i64 0, .string (⟨#[]⟩ : ByteArray)])] [] 75 rfl (by kernel_rfl) (by kernel_rfl) ?s6 ?_
     case s6 =>
      intro iq oq pq hiq hoq hpq ρ ev W S hE hO ec ef hB hft hΦ
      simp only [Reg.SV] at hE
      obtain ⟨e47, _⟩ := hE
      obtain rfl : iq = 0 := by have : iq < 1 := hiq; omega
      cases hoq; cases hpq
      all_goals (refine Reg.D.cv hB ?_; go_simp; try (first | done | rfl | (exact hK2) | (simp [hK2]; done) | (exact d1) | (exact w2) | (exact w3) | (exact w4) | (exact w5) | (exact w6) | (rw [← hq]; rfl) | (rw [← hq2]; rfl) | (simp [d1]; done) | (simp [C45.out]; done) | (simp; omega)))
     intro ρ W9 S hB hft hap hΦ
     simp only [Reg.SV, Reg.SF, Nat.reduceAdd]
     have HX := HX.cl hB
     replace RA := yC.mk (Kd.yJ RA.out hB)
     clear hΦ hft hap 
     refine bx_putB (w := w) rfl 39 (.tmp 8) (.tmp 47) rfl rfl (L1 := []) (cells := #[.int .i64 0, .int .i64 0, .string (⟨#[]⟩ : ByteArray)]) HX.out rfl rfl (by kernel_rfl) rfl rfl ?_
     intro W9s hx hput
     have HX := yC.mk hx
     replace RA := yC.mk (Kd.R_step RA.out (fun k hk _ => hput k (by have := hk; have := hg8; omega)))
     clear hx hput
     go_wp2_with fail
     go_meet
     case rel => exact ⟨⟨0, 0, ⟨#[]⟩⟩, HX, RA, ⟨.inl ⟨by have := HB35.out; revert this; cases NU <;> simp, rfl⟩⟩⟩
    | false =>
     rcases HNC.out with rfl | rfl | rfl
     ·skip
      go_upto_region 10 with (fail)
      try simp only [Reg.SF]
      refine Reg.det [Reg.k 49 (.pointer (some ⟨g8, 0, none⟩)), Reg.k 50 (.int .i64 2), Reg.k 51 (.bool false), Reg.k 48 (.bool false)] [] 75 rfl (by kernel_rfl) (by kernel_rfl) ?s7 ?_
      case s7 =>
       intro iq oq pq hiq hoq hpq ρ ev W S hE hO ec ef hB hft hΦ
       have e8 : ev (.tmp 8) = .pointer (some ⟨g8, 0, none⟩) := hO 8 rfl
       have mg8_0 := HX.pc hB 0 0 (.int .i64 2) rfl rfl
       simp only [Reg.SV] at hE
       obtain ⟨e49, e50, e51, e48, _⟩ := hE
       rcases Reg.lt4 hiq with rfl | rfl | rfl | rfl
       all_goals (cases hoq; cases hpq)
       all_goals try exact Reg.D.mv hB
       all_goals (refine Reg.D.cv hB ?_; go_simp; try (first | done | rfl | (exact hK2) | (simp [hK2]; done) | (exact d1) | (exact w2) | (exact w3) | (exact w4) | (exact w5) | (exact w6) | (rw [← hq]; rfl) | (rw [← hq2]; rfl) | (simp [d1]; done) | (simp [C45.out]; done) | (simp; omega)))
      intro ρ W10 S hB hft hap hΦ
      simp only [Reg.SV, Reg.SF, Nat.reduceAdd]
      have HX := HX.cl hB
      replace RA := yC.mk (Kd.yJ RA.out hB)
      clear hΦ hft hap 
      go_upto_region 12 with (fail)
      try simp only [Reg.SF]
      refine Reg.det [Reg.k 56 (.pointer (some ⟨g8, 0, none⟩)), Reg.k 57 (.int .i64 2), Reg.k 58 (.bool true), Reg.k 55 (.bool true)] [] 75 rfl (by kernel_rfl) (by kernel_rfl) ?s8 ?_
      case s8 =>
       intro iq oq pq hiq hoq hpq ρ ev W S hE hO ec ef hB hft hΦ
       have e8 : ev (.tmp 8) = .pointer (some ⟨g8, 0, none⟩) := hO 8 rfl
       have mg8_0 := HX.pc hB 0 0 (.int .i64 2) rfl rfl
       simp only [Reg.SV] at hE
       obtain ⟨e56, e57, e58, e55, _⟩ := hE
       rcases Reg.lt4 hiq with rfl | rfl | rfl | rfl
       all_goals (cases hoq; cases hpq)
       all_goals try exact Reg.D.mv hB
       all_goals (refine Reg.D.cv hB ?_; go_simp; try (first | done | rfl | (exact hK2) | (simp [hK2]; done) | (exact d1) | (exact w2) | (exact w3) | (exact w4) | (exact w5) | (exact w6) | (rw [← hq]; rfl) | (rw [← hq2]; rfl) | (simp [d1]; done) | (simp [C45.out]; done) | (simp; omega)))
      intro ρ W12 S hB hft hap hΦ
      simp only [Reg.SV, Reg.SF, Nat.reduceAdd]
      have HX := HX.cl hB
      replace RA := yC.mk (Kd.yJ RA.out hB)
      clear hΦ hft hap 
      go_upto_region 13 with (fail)
      try simp only [Reg.SF]
      refine Reg.det [Reg.k 59 (.int .i64 K), Reg.k 60 (.int .i64 (K - 128)), Reg.k 61 (.slice B nb cb), Reg.k 62 (.int .i64 (i : Int)), Reg.k 63 (.int .i64 (2 * (i : Int))), Reg.k 64 (.int .i64 (2 * (i : Int) + 1)), Reg.k 65 (.int .i64 T), Reg.k 66 (.int .i64 (Int.tmod T 12)), Reg.k 67 (.int .i64 PW), Reg.k 68 (.int .i64 ((K - 128) * PW)), Reg.k 69 (.pointer (some ⟨g8, 1, none⟩))] [] 75 rfl (by kernel_rfl) (by kernel_rfl) ?s9 ?_
      case s9 =>
       intro iq oq pq hiq hoq hpq ρ ev W S hE hO ec ef hB hft hΦ
       have e1 : ev (.tmp 1) = .slice B nb cb := hO 1 rfl
       have e6 : ev (.tmp 6) = .int .i64 (i : Int) := hO 6 rfl
       have e7 : ev (.tmp 7) = .int .i64 K := hO 7 rfl
       have e8 : ev (.tmp 8) = .pointer (some ⟨g8, 0, none⟩) := hO 8 rfl
       simp only [Reg.SV] at hE
       obtain ⟨e59, e60, e61, e62, e63, e64, e65, e66, e67, e68, e69, _⟩ := hE
       rcases Reg.lt11 hiq with rfl | rfl | rfl | rfl | rfl | rfl | rfl | rfl | rfl | rfl | rfl
       all_goals (cases hoq; cases hpq)
       rotate_left 8
       ·refine Reg.D.cc (g := 37) (args := #[.int .i64 (Int.tmod T 12)]) hB (by go_simp; try rfl) ?_
        exact HP.out W
       rotate_right 8
       rotate_left 6
       ·refine Reg.D.cc (g := 36) (args := #[.slice B nb cb, .int .i64 (2 * (i : Int) + 1)]) hB (by go_simp; try rfl) ?_
        exact HT.out W (yD HX.out.below hB)
       rotate_right 6
       all_goals try exact Reg.D.mv hB
       all_goals (refine Reg.D.cv hB ?_; go_simp; try (first | done | rfl | (exact hK2) | (simp [hK2]; done) | (exact d1) | (exact w2) | (exact w3) | (exact w4) | (exact w5) | (exact w6) | (rw [← hq]; rfl) | (rw [← hq2]; rfl) | (simp [d1]; done) | (simp [C45.out]; done) | (simp; omega)))
      intro ρ W13 S hB hft hap hΦ
      simp only [Reg.SV, Reg.SF, Nat.reduceAdd]
      have HX := HX.cl hB
      replace RA := yC.mk (Kd.yJ RA.out hB)
      clear hΦ hft hap 
      have fz1_ := HX.out.frz 0 1 rfl
      have cl1_ := HX.out.cell 0 1 rfl rfl
      go_wp2_with fail
      go_meet
      have HY0 := HX.out.set (L1 := []) 1 (.int .i64 ((K - 128) * PW))
      have RY0 := R_setB RA.out (HX.out.at 0 rfl) hg8 1 (.int .i64 ((K - 128) * PW))
      case rel => exact ⟨⟨2, (K - 128) * PW, ⟨#[]⟩⟩, ⟨HY0⟩, ⟨RY0⟩, ⟨.inr (.inr (.inl ⟨rfl, _, HPW.out.1, HPW.out.2, rfl⟩))⟩⟩
     ·skip
      go_upto_region 10 with (fail)
      try simp only [Reg.SF]
      refine Reg.det [Reg.k 49 (.pointer (some ⟨g8, 0, none⟩)), Reg.k 50 (.int .i64 3), Reg.k 51 (.bool false), Reg.k 48 (.bool false)] [] 75 rfl (by kernel_rfl) (by kernel_rfl) ?s10 ?_
      case s10 =>
       intro iq oq pq hiq hoq hpq ρ ev W S hE hO ec ef hB hft hΦ
       have e8 : ev (.tmp 8) = .pointer (some ⟨g8, 0, none⟩) := hO 8 rfl
       have mg8_0 := HX.pc hB 0 0 (.int .i64 3) rfl rfl
       simp only [Reg.SV] at hE
       obtain ⟨e49, e50, e51, e48, _⟩ := hE
       rcases Reg.lt4 hiq with rfl | rfl | rfl | rfl
       all_goals (cases hoq; cases hpq)
       all_goals try exact Reg.D.mv hB
       all_goals (refine Reg.D.cv hB ?_; go_simp; try (first | done | rfl | (exact hK2) | (simp [hK2]; done) | (exact d1) | (exact w2) | (exact w3) | (exact w4) | (exact w5) | (exact w6) | (rw [← hq]; rfl) | (rw [← hq2]; rfl) | (simp [d1]; done) | (simp [C45.out]; done) | (simp; omega)))
      intro ρ W10 S hB hft hap hΦ
      simp only [Reg.SV, Reg.SF, Nat.reduceAdd]
      have HX := HX.cl hB
      replace RA := yC.mk (Kd.yJ RA.out hB)
      clear hΦ hft hap 
      go_upto_region 12 with (fail)
      try simp only [Reg.SF]
      refine Reg.det [Reg.k 56 (.pointer (some ⟨g8, 0, none⟩)), Reg.k 57 (.int .i64 3), Reg.k 58 (.bool false), Reg.k 55 (.bool false)] [] 75 rfl (by kernel_rfl) (by kernel_rfl) ?s11 ?_
      case s11 =>
       intro iq oq pq hiq hoq hpq ρ ev W S hE hO ec ef hB hft hΦ
       have e8 : ev (.tmp 8) = .pointer (some ⟨g8, 0, none⟩) := hO 8 rfl
       have mg8_0 := HX.pc hB 0 0 (.int .i64 3) rfl rfl
       simp only [Reg.SV] at hE
       obtain ⟨e56, e57, e58, e55, _⟩ := hE
       rcases Reg.lt4 hiq with rfl | rfl | rfl | rfl
       all_goals (cases hoq; cases hpq)
       all_goals try exact Reg.D.mv hB
       all_goals (refine Reg.D.cv hB ?_; go_simp; try (first | done | rfl | (exact hK2) | (simp [hK2]; done) | (exact d1) | (exact w2) | (exact w3) | (exact w4) | (exact w5) | (exact w6) | (rw [← hq]; rfl) | (rw [← hq2]; rfl) | (simp [d1]; done) | (simp [C45.out]; done) | (simp; omega)))
      intro ρ W12 S hB hft hap hΦ
      simp only [Reg.SV, Reg.SF, Nat.reduceAdd]
      have HX := HX.cl hB
      replace RA := yC.mk (Kd.yJ RA.out hB)
      clear hΦ hft hap 
      go_upto_region 7 with (fail)
      try simp only [Reg.SF]
      refine Reg.det [Reg.k 27 (.int .i64 K), Reg.k 28 (.slice B nb cb), Reg.k 29 (.int .i64 (i : Int)), Reg.k 30 (.int .i64 (2 * (i : Int))), Reg.k 31 (.int .i64 (2 * (i : Int) + 1)), Reg.k 32 (.int .i64 T), Reg.k 33 (.string WS), Reg.k 34 (.agg #[.int .i64 3, .int .i64 0, .string WS])] [] 75 rfl (by kernel_rfl) (by kernel_rfl) ?s12 ?_
      case s12 =>
       intro iq oq pq hiq hoq hpq ρ ev W S hE hO ec ef hB hft hΦ
       have e1 : ev (.tmp 1) = .slice B nb cb := hO 1 rfl
       have e6 : ev (.tmp 6) = .int .i64 (i : Int) := hO 6 rfl
       have e7 : ev (.tmp 7) = .int .i64 K := hO 7 rfl
       simp only [Reg.SV] at hE
       obtain ⟨e27, e28, e29, e30, e31, e32, e33, e34, _⟩ := hE
       rcases Reg.lt8 hiq with rfl | rfl | rfl | rfl | rfl | rfl | rfl | rfl
       all_goals (cases hoq; cases hpq)
       rotate_left 7
       ·refine Reg.D.cc (g := 29) (args := #[.string WS]) hB (by go_simp; try rfl) ?_
        exact chapmanref16_Texted.calls WS 3 0 WS W rfl
       rotate_right 7
       rotate_left 6
       ·refine Reg.D.cc (g := 39) (args := #[.int .i64 K, .int .i64 T]) hB (by go_simp; try rfl) ?_
        exact HW_.out W
       rotate_right 6
       rotate_left 5
       ·refine Reg.D.cc (g := 36) (args := #[.slice B nb cb, .int .i64 (2 * (i : Int) + 1)]) hB (by go_simp; try rfl) ?_
        exact HT.out W (yD HX.out.below hB)
       rotate_right 5
       all_goals try exact Reg.D.mv hB
       all_goals (refine Reg.D.cv hB ?_; go_simp; try (first | done | rfl | (exact hK2) | (simp [hK2]; done) | (exact d1) | (exact w2) | (exact w3) | (exact w4) | (exact w5) | (exact w6) | (rw [← hq]; rfl) | (rw [← hq2]; rfl) | (simp [d1]; done) | (simp [C45.out]; done) | (simp; omega)))
      intro ρ W7 S hB hft hap hΦ
      simp only [Reg.SV, Reg.SF, Nat.reduceAdd]
      have HX := HX.cl hB
      replace RA := yC.mk (Kd.yJ RA.out hB)
      clear hΦ hft hap 
      refine bx_putB (w := w) rfl 39 (.tmp 8) (.tmp 34) rfl rfl (L1 := []) (cells := #[.int .i64 3, .int .i64 0, .string WS]) HX.out rfl rfl (by kernel_rfl) rfl rfl ?_
      intro W7s hx hput
      have HX := yC.mk hx
      replace RA := yC.mk (Kd.R_step RA.out (fun k hk _ => hput k (by have := hk; have := hg8; omega)))
      clear hx hput
      go_wp2_with fail
      go_meet
      case rel => exact ⟨⟨3, 0, WS⟩, HX, RA, ⟨.inr (.inr (.inr ⟨rfl, _, HWS.out.1, HWS.out.2, rfl⟩))⟩⟩
     ·skip
      go_upto_region 10 with (fail)
      try simp only [Reg.SF]
      refine Reg.det [Reg.k 49 (.pointer (some ⟨g8, 0, none⟩)), Reg.k 50 (.int .i64 1), Reg.k 51 (.bool true), Reg.k 48 (.bool true)] [] 75 rfl (by kernel_rfl) (by kernel_rfl) ?s13 ?_
      case s13 =>
       intro iq oq pq hiq hoq hpq ρ ev W S hE hO ec ef hB hft hΦ
       have e8 : ev (.tmp 8) = .pointer (some ⟨g8, 0, none⟩) := hO 8 rfl
       have mg8_0 := HX.pc hB 0 0 (.int .i64 1) rfl rfl
       simp only [Reg.SV] at hE
       obtain ⟨e49, e50, e51, e48, _⟩ := hE
       rcases Reg.lt4 hiq with rfl | rfl | rfl | rfl
       all_goals (cases hoq; cases hpq)
       all_goals try exact Reg.D.mv hB
       all_goals (refine Reg.D.cv hB ?_; go_simp; try (first | done | rfl | (exact hK2) | (simp [hK2]; done) | (exact d1) | (exact w2) | (exact w3) | (exact w4) | (exact w5) | (exact w6) | (rw [← hq]; rfl) | (rw [← hq2]; rfl) | (simp [d1]; done) | (simp [C45.out]; done) | (simp; omega)))
      intro ρ W10 S hB hft hap hΦ
      simp only [Reg.SV, Reg.SF, Nat.reduceAdd]
      have HX := HX.cl hB
      replace RA := yC.mk (Kd.yJ RA.out hB)
      clear hΦ hft hap 
      go_upto_region 11 with (fail)
      try simp only [Reg.SF]
      refine Reg.det [Reg.k 52 (.int .i64 K), Reg.k 53 (.int .i64 K2), Reg.k 54 (.pointer (some ⟨g8, 1, none⟩))] [] 75 rfl (by kernel_rfl) (by kernel_rfl) ?s14 ?_
      case s14 =>
       intro iq oq pq hiq hoq hpq ρ ev W S hE hO ec ef hB hft hΦ
       have e7 : ev (.tmp 7) = .int .i64 K := hO 7 rfl
       have e8 : ev (.tmp 8) = .pointer (some ⟨g8, 0, none⟩) := hO 8 rfl
       simp only [Reg.SV] at hE
       obtain ⟨e52, e53, e54, _⟩ := hE
       rcases Reg.lt3 hiq with rfl | rfl | rfl
       all_goals (cases hoq; cases hpq)
       all_goals try exact Reg.D.mv hB
       all_goals (refine Reg.D.cv hB ?_; go_simp; try (first | done | rfl | (exact hK2) | (simp [hK2]; done) | (exact d1) | (exact w2) | (exact w3) | (exact w4) | (exact w5) | (exact w6) | (rw [← hq]; rfl) | (rw [← hq2]; rfl) | (simp [d1]; done) | (simp [C45.out]; done) | (simp; omega)))
      intro ρ W11 S hB hft hap hΦ
      simp only [Reg.SV, Reg.SF, Nat.reduceAdd]
      have HX := HX.cl hB
      replace RA := yC.mk (Kd.yJ RA.out hB)
      clear hΦ hft hap 
      have fz1_ := HX.out.frz 0 1 rfl
      have cl1_ := HX.out.cell 0 1 rfl rfl
      go_wp2_with fail
      go_meet
      have HY0 := HX.out.set (L1 := []) 1 (.int .i64 K2)
      have RY0 := R_setB RA.out (HX.out.at 0 rfl) hg8 1 (.int .i64 K2)
      case rel => exact ⟨⟨1, K2, ⟨#[]⟩⟩, ⟨HY0⟩, ⟨RY0⟩, ⟨.inr (.inl ⟨rfl, by rcases HK2.out with e | e <;> rw [e] <;> simp⟩)⟩⟩
   clear HX RA
   obtain ⟨v, HX, RA, HV⟩ := hcut
   generalize wc = W8d at *
   have HO : yC (Kd.R k39 39 W8d w.heap.size (fun _ => True) (.slice A5 l.length c5) l) := ⟨Kd.xE RA.out (fun _ _ => trivial)⟩
   have m0 : _ = some (.int .i64 v.f0 : Value) := HX.out.cell 0 0 rfl rfl
   have m1 : _ = some (.int .i64 v.f1 : Value) := HX.out.cell 0 1 rfl rfl
   have m2 : _ = some (.string v.f2 : Value) := HX.out.cell 0 2 rfl rfl
   go_wp2_with (first | ((with_reducible refine gate_builtin (b := .append) (xs := #[.tmp 70, .tmp 72]) rfl ?_); at_builtin; refine Kd.R_append k39 (w0 := w) w.heap.size rfl (.tmp 70) (.tmp 72) 30 39 (.agg #[(.int .i64 0), (.int .i64 0), (.string ⟨#[]⟩)]) 32 rfl Tryz.underlying30 info39k rfl (by decide) (by decide) _ l v [.int .i64 v.f0, .int .i64 v.f1, .string v.f2] (fun _ => True) (fun _ => False) rfl rfl (k39_mkM _ _ _ v) (fun _ hk => hk.elim) (fun _ _ => trivial) HO.out HX.out.below HX.out.below.size (by have h := HL.out.1; have := HN.out.1; omega) ?_; intro v73 W73 hr1 hb1 hg1 hat1; have HO2 := yC.mk hr1; clear HX HO RA; have HX := yC.mk hb1; clear hr1 hb1 hg1 hat1))
   cases gk with
   | zero => exact absurd HKQ.out (by omega)
   | succ gk1 =>
   go_roundg gk1
   case measure => omega
   case rel => exact ⟨i + 1, l ++ [v], by simp, ⟨by have := HKQ.out; omega⟩, HO2, ⟨cOk_add HL.out (HA.out v HV.out)⟩, ⟨⟨HX.out, fun _ h => absurd h List.not_mem_nil, List.nodup_nil⟩⟩⟩
  ·have d1 : decide ((i : Int) < (n0 : Int)) = false := decide_eq_false (by omega)
   go_upto_region 3 with (fail)
   try simp only [Reg.SF]
   refine Reg.det [Reg.k 10 (.int .i64 (i : Int)), Reg.k 11 (.slice (some ad) n0 c0), Reg.k 12 (.int .i64 n0), Reg.k 13 (.bool false)] [] 75 rfl (by kernel_rfl) (by kernel_rfl) ?s15 ?_
   case s15 =>
    intro iq oq pq hiq hoq hpq ρ ev W S hE hO ec ef hB hft hΦ
    have e0 : ev (.tmp 0) = .slice (some ad) n0 c0 := hO 0 rfl
    have e6 : ev (.tmp 6) = .int .i64 (i : Int) := hO 6 rfl
    simp only [Reg.SV] at hE
    obtain ⟨e10, e11, e12, e13, _⟩ := hE
    rcases Reg.lt4 hiq with rfl | rfl | rfl | rfl
    all_goals (cases hoq; cases hpq)
    all_goals try exact Reg.D.mv hB
    all_goals (refine Reg.D.cv hB ?_; go_simp; try (first | done | rfl | (exact hK2) | (simp [hK2]; done) | (exact d1) | (exact w2) | (exact w3) | (exact w4) | (exact w5) | (exact w6) | (rw [← hq]; rfl) | (rw [← hq2]; rfl) | (simp [d1]; done) | (simp [C45.out]; done) | (simp; omega)))
   intro ρ W3 S hB hft hap hΦ
   simp only [Reg.SV, Reg.SF, Nat.reduceAdd]
   have HX := HX.cl hB
   have HO2 := yC.mk (Kd.yJ HO.out hB)
   clear hΦ hft hap 
   obtain rfl : i = n0 := by have := HKQ.out; omega
   go_wp2_with fail
   go_ret
   exact ⟨_, l, rfl, HO2.out, ⟨HL.out.1, HL.out.2⟩, HX.out.below⟩
end
section
open Go.RowKit YtmebkjdknhknbaaGreatDoor.G
theorem info36s : (Tryz.prog.info? 36).map (·.size) = some 2 := by kernel_rfl
theorem info32s : (Tryz.prog.info? 32).map (·.size) = some 7 := by kernel_rfl
def exA : List S57 := [⟨⟨2, 6, false⟩, 0, ⟨0, 0, ⟨#[]⟩⟩⟩, ⟨⟨3, 0, false⟩, 0, ⟨0, 0, ⟨#[]⟩⟩⟩]
theorem example_calls (w : World) : Calls Tryz.prog 28 #[] w fun e w' => ∃ v, e = .returned v ∧ Kd.R k57 57 w' w.heap.size (fun _ => True) v exA ∧ Below w.heap.size w w' := by
 have hu := Tryz.underlying49
 have hu2 := Tryz.underlying57
 have HX := yC.mk (Bxs.start w)
 go_enter Tryz.func28, Tryz.ntmps28
 go_upto_region 0 with (fail)
 refine Reg.det [Reg.k 0 (.slice none 0 0)] [] 6 rfl (by kernel_rfl) (by kernel_rfl) ?s1 ?_
 case s1 =>
  intro iq oq pq hiq hoq hpq ρ ev W S hE hO ec ef hB hft hΦ
  simp only [Reg.SV] at hE
  obtain ⟨e0, _⟩ := hE
  obtain rfl : iq = 0 := by have : iq < 1 := hiq; omega
  cases hoq; cases hpq
  all_goals try exact Reg.D.mv hB
  all_goals exact Reg.D.cx hB
 intro ρ W0 S hB hft hap hΦ
 simp only [Reg.SV, Reg.SF, Nat.reduceAdd]
 have HX := HX.cl hB
 clear hΦ hft hap 
 go_upto_region 1 with (fail)
 try simp only [Reg.SF]
 refine Reg.det [Reg.k 1 (.agg #[.int .i64 2, .int .i64 6, .bool false]), Reg.k 2 (.agg #[.int .i64 2, .int .i64 6, .bool false, .int .i64 0, .int .i64 0, .int .i64 0, .string (⟨#[]⟩ : ByteArray)]), Reg.k 3 (.agg #[.int .i64 3, .int .i64 0, .bool false]), Reg.k 4 (.agg #[.int .i64 3, .int .i64 0, .bool false, .int .i64 0, .int .i64 0, .int .i64 0, .string (⟨#[]⟩ : ByteArray)]), (some 5, Reg.Dv.row 5 k57 57 (exA)), (some 0, Reg.Dv.u [5] (fun l => (l.headD undef)))] [] 6 rfl (by kernel_rfl) (by kernel_rfl) ?s2 ?_
 case s2 =>
  intro iq oq pq hiq hoq hpq ρ ev W S hE hO ec ef hB hft hΦ
  simp only [Reg.SV] at hE
  obtain ⟨e1, e2, e3, e4, e5, e0, _⟩ := hE
  rcases Reg.lt6 hiq with rfl | rfl | rfl | rfl | rfl | rfl
  all_goals (cases hoq; cases hpq)
  rotate_left 5
  ·obtain ⟨_, _, h5⟩ := Kd.R_slice (hΦ 4 _ rfl rfl rfl)
   replace h5 : ρ 5 = _ := h5
   refine Reg.D.uv hB ?_
   go_simp
   try (first | done | rfl | (simp; done) | (intro h; omega))
  rotate_right 5
  rotate_left 4
  ·refine Reg.DStep.lit (inner := [.int .i64 2, .int .i64 6, .bool false, .int .i64 0, .int .i64 0, .int .i64 0, .string (⟨#[]⟩ : ByteArray), .int .i64 3, .int .i64 0, .bool false, .int .i64 0, .int .i64 0, .int .i64 0, .string (⟨#[]⟩ : ByteArray)]) (by first | exact .inl rfl | exact .inr ⟨_, _, _, rfl, rfl, (by assumption)⟩) hB ?_ ?_ (by first | decide | (simp; done))
   ·go_simp
    try (first | rfl | exact ⟨rfl, rfl⟩)
   ·exact Reps.c7 (k57_mkM _ _ _ ⟨⟨2, 6, false⟩, 0, ⟨0, 0, ⟨#[]⟩⟩⟩) (Reps.c7 (k57_mkM _ _ _ ⟨⟨3, 0, false⟩, 0, ⟨0, 0, ⟨#[]⟩⟩⟩) (Reps.none _ _))
  rotate_right 4
  all_goals exact Reg.D.cx hB
 intro ρ W1 S hB hft hap hΦ
 simp only [Reg.SV, Reg.SF, Nat.reduceAdd]
 have r5 : Kd.R k57 57 W1 _ _ (ρ 5) (exA) := hΦ 4 _ rfl rfl
 obtain ⟨A5, c5, e5⟩ := Kd.R_slice r5
 replace e5 : ρ 5 = .slice A5 2 c5 := e5
 rw [e5] at r5
 replace r5 := Kd.xE (ok' := fun _ => True) (Kd.xJ r5 HX.out.below.size) (fun _ _ => trivial)
 try simp only [e5]
 have HX := HX.cl hB
 clear hΦ hft hap 
 go_wp2_with fail
 go_ret
 exact ⟨_, rfl, r5, HX.out.below⟩
end
section
open Go.RowKit YtmebkjdknhknbaaGreatDoor.G
def gotOut (A1 : Option Addr) (c1 : Nat) (l : List S39) (r : Option (List S39)) (w w' : World) (e : Ending) : Prop :=
 Below w.heap.size w w' ∧ match r with | some l' => ∃ A2 c2, e = .returned (.agg #[.slice A2 l'.length c2, .int .i64 0]) ∧ Row2 A1 c1 l w' w.heap.size A2 c2 l' | none => e = .returned (.agg #[.slice none 0 0, .int .i64 160])
theorem put_calls (l0 : List S57) (l : List S39) (x : S29) (v : S39) (R : Option (List S39)) (hp : PutTo 54 l0 l x v R) (A0 : Option Addr) (c0 : Nat) (A1 : Option Addr) (c1 : Nat) (A : Option Addr) (c : Nat) (w : World) (hgl : Gl w) (hc0 : l0.length ≤ c0) (hr0 : Kd.C k57 w A0 l0.length l0) (hc1 : l.length ≤ c1) (hr : Kd.C k39 w A1 l.length l) (hlc : x.f4.length ≤ c) (hC : k29.C w A x.f4.length x.f4) :
  Calls Tryz.prog 11 #[.slice A0 l0.length c0, .agg (lC x A c), .agg #[.slice A1 l.length c1, .int .i64 v.f0, .int .i64 v.f1, .string v.f2]] w fun e w' => gotOut A1 c1 l R w w' e := by
 have hu := Tryz.underlying39
 have hu2 := Tryz.underlying29
 have hu3 := Tryz.underlying36
 have hu4 := Tryz.underlying42
 have HX := yC.mk (Bxs.start w)
 have HP : yC (∀ (w' : World), Below w.heap.size w w' → Calls Tryz.prog 32 #[.slice A0 l0.length c0, .agg (lC x A c), .slice A1 l.length c1, .agg (vC v)] w' fun e w'' => putOut A1 c1 l R w' w'' e) :=
  ⟨fun w' hb => Put_calls l0 l x v R hp A0 c0 A1 c1 A c w' (hgl.below hb) hc0 (Kd.yI hr0 hb) hc1 (Kd.yI hr hb) hlc (Kd.yI hC hb)⟩
 obtain ⟨k, a, s, sep, l4⟩ := x
 obtain ⟨V0, V1, V2⟩ := v
 unfold lC vC at *
 dsimp only at HP ⊢
 generalize l4.length = n4 at *
 obtain ⟨n1, hn1⟩ : ∃ n, l.length = n := ⟨_, rfl⟩
 rw [hn1] at HP ⊢
 generalize l0.length = n0 at *
 clear hr hC hlc hgl hr0 hn1 hp
 go_enter Tryz.func11, Tryz.ntmps11
 go_upto_region 1 with (first | ((with_reducible refine yK (N := 4) rfl ?_); refine yQ (w := w) ?hg (N := 4) ?hd (cs := #[.int .i64 k, .int .i64 a, .int .i64 s, .string sep, .slice A n4 c]) (t := 29) HX.out ?hr ?_; (case hd | hg => rfl); (case hr => go_simp; try rfl); intro g4 W4 hx; replace HX := yC.mk hx; clear hx) | ((with_reducible refine yK (N := 5) rfl ?_); refine yQ (w := w) ?hg (N := 5) ?hd (cs := #[.slice A1 n1 c1, .int .i64 V0, .int .i64 V1, .string V2]) (t := 42) HX.out ?hr ?_; (case hd | hg => rfl); (case hr => go_simp; try rfl); intro g5 W5 hx; replace HX := yC.mk hx; clear hx) | ((with_reducible refine yK (N := 6) rfl ?_); refine yQ (w := w) ?hg (N := 6) ?hd (cs := #[.slice none 0 0, .int .i64 0]) (t := 36) HX.out ?hr ?_; (case hd | hg => rfl); (case hr => go_simp; try rfl); intro g6 W6 hx; replace HX := yC.mk hx; clear hx))
 try simp only [Act.put, List.setIfInBounds_toArray, List.set_cons_zero, List.set_cons_succ]
 have b0 := HX.out.cell 2 0 rfl rfl; have b1 := HX.out.cell 2 1 rfl rfl; have b2 := HX.out.cell 2 2 rfl rfl; have b3 := HX.out.cell 2 3 rfl rfl; have b4 := HX.out.cell 2 4 rfl rfl
 have v0 := HX.out.cell 1 0 rfl rfl; have v1 := HX.out.cell 1 1 rfl rfl; have v2 := HX.out.cell 1 2 rfl rfl; have v3 := HX.out.cell 1 3 rfl rfl
 rcases R with _ | l2
 ·go_wp2_with (first | (go_at_call 32; (with_reducible refine (HP.out _ HX.out.below).mono ?_); rintro e WX ⟨hb, rfl⟩; have hx := HX.out.call hb; clear HX hb b0 b1 b2 b3 b4 v0 v1 v2 v3; have HX := yC.mk hx; clear hx; have p0 := HX.out.cell 0 0 rfl rfl; have p1 := HX.out.cell 0 1 rfl rfl; have y0 := HX.out.frz 0 0 rfl; have y1 := HX.out.frz 0 1 rfl))
  have HY := (HX.out.set (L1 := []) 0 (.slice none 0 0)).set (L1 := []) 1 (.int .i64 160)
  refine bodyPost_ret (results_cell_row rfl _ _ g6 36 #[.slice none 0 0, .int .i64 160] (0, 0) _ rfl (HY.at 0 rfl) hu3 rfl (by kernel_rfl)) rfl ?_
  exact ⟨HY.below, rfl⟩
 ·go_wp2_with (first | (go_at_call 32; (with_reducible refine (HP.out _ HX.out.below).mono ?_); rintro e WX ⟨hb, A2, c2, rfl, hr⟩; have HQ := yC.mk (hr.lower HX.out.below.size); have hx := HX.out.call hb; clear HX hb hr b0 b1 b2 b3 b4 v0 v1 v2 v3; have HX := yC.mk hx; clear hx; have p0 := HX.out.cell 0 0 rfl rfl; have p1 := HX.out.cell 0 1 rfl rfl; have y0 := HX.out.frz 0 0 rfl; have y1 := HX.out.frz 0 1 rfl))
  have HY := (HX.out.set (L1 := []) 0 (.slice A2 l2.length c2)).set (L1 := []) 1 (.int .i64 0)
  refine bodyPost_ret (results_cell_row rfl _ _ g6 36 #[.slice A2 l2.length c2, .int .i64 0] (0, 0) _ rfl (HY.at 0 rfl) hu3 rfl (by kernel_rfl)) rfl ?_
  exact ⟨HY.below, A2, c2, rfl, (HQ.out.set (HX.out.at 0 rfl) (by decide) _ _).set ((HX.out.set (L1 := []) 0 (.slice A2 l2.length c2)).at 0 rfl) (by decide) _ _⟩
end
section
open Go.RowKit YtmebkjdknhknbaaGreatDoor.G
def rowE {α : Type} (k : Kd α) (e : Nat) (P : List α → Prop) (v : Value) (B : Nat) (W : World) (S : Nat → Prop) : Prop := ∃ xs, Kd.R k e W B S v xs ∧ P xs
theorem rowE_st {α : Type} {k : Kd α} {e : Nat} {P : List α → Prop} {v : Value} {B : Nat} {W W' : World} {S : Nat → Prop} (hz : W.heap.size ≤ W'.heap.size) (hk : ∀ k, k < W.heap.size → S k → W'.heap[k]? = W.heap[k]?) (h : rowE k e P v B W S) : rowE k e P v B W' S := by
 obtain ⟨xs, hR, hP⟩ := h
 exact ⟨xs, Kd.R_step hR (fun k hS hlt => hk k hlt hS), hP⟩
def rowEDv {α : Type} (d : Nat) (k : Kd α) (e : Nat) (P : List α → Prop) : Reg.Dv := Reg.Dv.n d (rowE k e P) rowE_st
theorem yV {α : Type} (d : Nat) (k : Kd α) (e : Nat) (P : List α → Prop) (n : Nat) (ρ : Nat → Value) : (rowEDv d k e P).val n ρ = ρ n := rfl
theorem rowE_step {α : Type} {k : Kd α} {E : Nat} {P : List α → Prop} {f d : Nat} {eats : List (Nat × Nat)} {i : Nat} {ρ : Nat → Value} {S : Nat → Nat → Prop} {w W : World} {args : Array Value} (hB : Below w.heap.size w W) (h : Calls Tryz.prog f args W fun e w' => ∃ v, e = .returned v ∧ rowE k E P v W.heap.size w' (fun _ => True) ∧ Below W.heap.size W w') :
  Calls Tryz.prog f args W fun e w' => ∃ v, e = .returned v ∧ Reg.Kv eats w i (some d) (rowEDv d k E P) ρ W S v w' := by
 refine h.mono fun e w' h => ?_
 obtain ⟨v, rfl, ⟨xs, hR, hP⟩, hb⟩ := h
 exact ⟨_, rfl, Reg.Kv.n (Φ := rowE k E P) (st := rowE_st) (fun k => W.heap.size ≤ k ∧ k < w'.heap.size) hB hb (fun k hk => hk) ⟨xs, Reg.R_new2 hR hB.size, hP⟩⟩
def mdP (v : Value) (B : Nat) (W : World) (S : Nat → Prop) : Prop := ∃ l0 x l v0 v4 v2, v = .agg #[v0, .int .i64 x.f0, .int .i64 x.f1, .int .i64 x.f2, .string x.f3, v4, v2] ∧ (atOk l0 ∧ vOk 3 l0 x ∧ l.length = l0.length ∧ cellsOk l0 l) ∧ Kd.R k57 57 W B S v0 l0 ∧ Kd.R k29 29 W B S v4 x.f4 ∧ Kd.R k39 39 W B S v2 l
theorem mdP_st {v : Value} {B : Nat} {W W' : World} {S : Nat → Prop} (hz : W.heap.size ≤ W'.heap.size) (hk : ∀ k, k < W.heap.size → S k → W'.heap[k]? = W.heap[k]?) (h : mdP v B W S) : mdP v B W' S := by
 obtain ⟨l0, x, l, v0, v4, v2, e, hP, h0, h4, h2⟩ := h
 exact ⟨l0, x, l, v0, v4, v2, e, hP, Kd.R_step h0 (fun k hS hlt => hk k hlt hS), Kd.R_step h4 (fun k hS hlt => hk k hlt hS), Kd.R_step h2 (fun k hS hlt => hk k hlt hS)⟩
def mdDv (d : Nat) : Reg.Dv := Reg.Dv.n d mdP mdP_st
theorem val_md (d : Nat) (n : Nat) (ρ : Nat → Value) : (mdDv d).val n ρ = ρ n := rfl
theorem md_step {f d : Nat} {eats : List (Nat × Nat)} {i : Nat} {ρ : Nat → Value} {S : Nat → Nat → Prop} {w W : World} {args : Array Value} (hB : Below w.heap.size w W) (h : Calls Tryz.prog f args W fun e w' => (∃ v, e = .returned v ∧ mdP v W.heap.size w' (fun _ => True)) ∧ Below W.heap.size W w') :
  Calls Tryz.prog f args W fun e w' => ∃ v, e = .returned v ∧ Reg.Kv eats w i (some d) (mdDv d) ρ W S v w' := by
 refine h.mono fun e w' h => ?_
 obtain ⟨⟨v, rfl, l0, x, l, v0, v4, v2, rfl, hP, h0, h4, h2⟩, hb⟩ := h
 exact ⟨_, rfl, Reg.Kv.n (Φ := mdP) (st := mdP_st) (fun k => W.heap.size ≤ k ∧ k < w'.heap.size) hB hb (fun k hk => hk) ⟨l0, x, l, v0, v4, v2, rfl, hP, Reg.R_new2 h0 hB.size, Reg.R_new2 h4 hB.size, Reg.R_new2 h2 hB.size⟩⟩
theorem made_calls (B1 B2 B3 B4 : Option Addr) (d1 d2 d3 n4 d4 : Nat) (l1 l2 l3 : List Int) (hb1 : ∀ x, x ∈ l1 → 0 ≤ x ∧ x ≤ 255) (hb2 : ∀ x, x ∈ l2 → 0 ≤ x ∧ x ≤ 255) (hb3 : ∀ x, x ∈ l3 → 0 ≤ x ∧ x ≤ 255) (hd1 : l1.length ≤ d1) (hd2 : l2.length ≤ d2) (hd3 : l3.length ≤ d3) (w : World) (hr1 : Kd.C (Kd.int .u8) w B1 l1.length l1) (hr2 : Kd.C (Kd.int .u8) w B2 l2.length l2) (hr3 : Kd.C (Kd.int .u8) w B3 l3.length l3) :
  Calls Tryz.prog 10 #[.agg #[.slice B1 l1.length d1, .slice B2 l2.length d2, .slice B3 l3.length d3, .slice B4 n4 d4]] w fun e w' => (∃ v, e = .returned v ∧ mdP v w.heap.size w' (fun _ => True)) ∧ Below w.heap.size w w' := by
 have hu := Tryz.underlying24
 have hu32 := Tryz.underlying32
 have hu72 := Tryz.underlying72
 have HX := yC.mk (Bxs.start w)
 have HM : yC (∀ w', Below w.heap.size w w' → Calls Tryz.prog 20 #[.slice B1 l1.length d1] w' fun e w'' => ∃ v l0, e = .returned v ∧ Kd.R k57 57 w'' w'.heap.size (fun _ => True) v l0 ∧ atOk l0 ∧ Below w'.heap.size w' w'') := ⟨fun w' hb => Made_calls B1 l1.length d1 (byteV l1) (byteV_in hb1) w' (byte_calls (Kd.yI hr1 hb) hd1)⟩
 go_enter Tryz.func10, Tryz.ntmps10
 go_upto_region 0 with (fail)
 refine Reg.det [(some 1, Reg.Dv.box 1 24 (fun _ => #[.slice B1 l1.length d1, .slice B2 l2.length d2, .slice B3 l3.length d3, .slice B4 n4 d4]) [] true), (some 2, Reg.Dv.box 2 32 (fun _ => #[.slice none 0 0, .int .i64 0, .int .i64 0, .int .i64 0, .string (⟨#[]⟩ : ByteArray), .slice none 0 0, .slice none 0 0]) [] true)] [] 18 rfl (by kernel_rfl) (by kernel_rfl) ?s1 ?_
 case s1 =>
  intro iq oq pq hiq hoq hpq ρ ev W S hE hO ec ef hB hft hΦ
  have e0 : ev (.tmp 0) = .agg #[.slice B1 l1.length d1, .slice B2 l2.length d2, .slice B3 l3.length d3, .slice B4 n4 d4] := hO 0 rfl
  simp only [Reg.SV, val_ln, yV] at hE
  obtain ⟨e1, e2, _⟩ := hE
  rcases Reg.lt2 hiq with rfl | rfl
  all_goals (cases hoq; cases hpq)
  rotate_left 1
  ·refine Reg.D.box hB ?_
   go_simp
   try rfl
  rotate_right 1
  ·refine Reg.D.box hB ?_
   go_simp
   try rfl
 intro ρ W0 S hB hft hap hΦ
 simp only [Reg.SV, val_ln, yV, Reg.SF, Nat.reduceAdd]
 obtain ⟨g1, e1, s1, hg1, _, b1⟩ := hΦ 0 _ rfl rfl
 replace e1 : ρ 1 = .pointer (some ⟨g1, 0, none⟩) := e1
 obtain ⟨g2, e2, s2, hg2, _, b2⟩ := hΦ 1 _ rfl rfl
 replace e2 : ρ 2 = .pointer (some ⟨g2, 0, none⟩) := e2
 try simp only [e1, e2]
 replace b1 : W0.heap[g1]? = some (.cells #[.slice B1 l1.length d1, .slice B2 l2.length d2, .slice B3 l3.length d3, .slice B4 n4 d4] 24 (0, 0)) := b1
 replace b2 : W0.heap[g2]? = some (.cells #[.slice none 0 0, .int .i64 0, .int .i64 0, .int .i64 0, .string (⟨#[]⟩ : ByteArray), .slice none 0 0, .slice none 0 0] 32 (0, 0)) := b2
 have HX := yC.mk (HX.out.join ((Bxs.one hB hg1 b1).more hg2 b2 (by intro p hp; simp only [List.mem_cons, List.mem_singleton, List.not_mem_nil, or_false] at hp; rcases hp with rfl <;> (intro e; dsimp only at e; subst e; first | exact absurd (hap _ _ _ s1 s2) (by decide)))))
 clear hΦ hft hap 
 have m0 : _ = some (.slice B1 l1.length d1 : Value) := HX.out.cell 1 0 rfl rfl
 go_upto_region 2 with (first | (go_at_call 20; (with_reducible refine (HM.out _ HX.out.below).mono ?_); rintro e W1 ⟨v6, l0, rfl, hr, hat, hb⟩; have hx := HX.out.call hb; obtain ⟨A6, c6, rfl⟩ := Kd.R_slice hr; have HA := yC.mk (Kd.xJ hr HX.out.below.size); have HAT := yC.mk hat; clear HX m0; have HX := yC.mk hx; clear hr hat hx hb))
 try simp only [Reg.SF]
 have hAC := Kd.R_reads' HA.out
 have HAny : yC (∀ w', Below W1.heap.size W1 w' → Calls Tryz.prog 31 #[.slice A6 l0.length c6, .slice B2 l2.length d2, .agg #[.int .i64 3, .int .i64 0]] w' fun e w'' => (∃ v, e = .returned v ∧ lnP (vOk 3 l0) v w'.heap.size w'' (fun _ => True)) ∧ Below w'.heap.size w' w'') := ⟨fun w' hb => Any_all l0 HAT.out A6 c6 B2 d2 l2 hb2 hAC.2.1 hd2 3 (by decide) 0 (by decide) (by decide) w' (Kd.yI hAC.2.2 hb) (Kd.yI hr2 (yD HX.out.below hb))⟩
 have HCl : yC (∀ w', Below W1.heap.size W1 w' → Calls Tryz.prog 18 #[.slice A6 l0.length c6, .slice B3 l3.length d3] w' fun e w'' => ∃ v, e = .returned v ∧ rowE k39 39 (fun l => l.length = l0.length ∧ cellsOk l0 l) v w'.heap.size w'' (fun _ => True) ∧ Below w'.heap.size w' w'') := ⟨fun w' hb => (Cells_calls l0 HAT.out A6 c6 B3 l3.length d3 (byteV l3) (byteV_in hb3) w' (Kd.yI hAC.2.2 hb) (byte_calls (Kd.yI hr3 (yD HX.out.below hb)) hd3) power_calls word_calls).mono fun e w'' h => by
   obtain ⟨v, l, he, hR, hP, hb⟩ := h
   exact ⟨v, he, ⟨l, hR, hP⟩, hb⟩⟩
 clear hAC
 have g2lt := blk_lt (HX.out.at 0 rfl)
 have hw1 := HX.out.below.size
 go_upto_region 2 with (fail)
 try simp only [Reg.SF]
 refine Reg.det [Reg.k 7 (.slice A6 l0.length c6), Reg.k 8 (.slice A6 l0.length c6), Reg.k 9 (.pointer (some ⟨g1, 1, none⟩)), Reg.k 10 (.slice B2 l2.length d2), Reg.k 11 (.agg #[.int .i64 3, .int .i64 0]), (some 12, lnDv 12 (vOk 3 l0)), Reg.k 13 (.slice A6 l0.length c6), Reg.k 14 (.pointer (some ⟨g1, 2, none⟩)), Reg.k 15 (.slice B3 l3.length d3), (some 16, rowEDv 16 k39 39 (fun l => l.length = l0.length ∧ cellsOk l0 l))] [] 18 rfl (by kernel_rfl) (by kernel_rfl) ?s2 ?_
 case s2 =>
  intro iq oq pq hiq hoq hpq ρ ev W S hE hO ec ef hB hft hΦ
  have e1 : ev (.tmp 1) = .pointer (some ⟨g1, 0, none⟩) := hO 1 rfl
  have e3 : ev (.tmp 3) = .slice A6 l0.length c6 := hO 3 rfl
  have mg1_1 := HX.pc hB 1 1 (.slice B2 l2.length d2) rfl rfl
  have mg1_2 := HX.pc hB 1 2 (.slice B3 l3.length d3) rfl rfl
  simp only [Reg.SV, val_ln, yV] at hE
  obtain ⟨e7, e8, e9, e10, e11, e12, e13, e14, e15, e16, _⟩ := hE
  rcases Reg.lt10 hiq with rfl | rfl | rfl | rfl | rfl | rfl | rfl | rfl | rfl | rfl
  all_goals (cases hoq; cases hpq)
  rotate_left 9
  ·refine Reg.D.call (g := 18) (args := #[.slice A6 l0.length c6, .slice B3 l3.length d3]) (by go_simp; try rfl) ?_
   exact rowE_step hB (HCl.out W hB)
  rotate_right 9
  rotate_left 5
  ·refine Reg.D.call (g := 31) (args := #[.slice A6 l0.length c6, .slice B2 l2.length d2, .agg #[.int .i64 3, .int .i64 0]]) (by go_simp; try rfl) ?_
   exact ln_step hB (HAny.out W hB)
  rotate_right 5
  all_goals try exact Reg.D.mv hB
  all_goals exact Reg.D.cx hB
 intro ρ W2 S hB hft hap hΦ
 simp only [Reg.SV, val_ln, yV, Reg.SF, Nat.reduceAdd]
 obtain ⟨x, vX, e12, PX, rX⟩ := hΦ 5 _ rfl rfl
 obtain ⟨AX, cX, evX⟩ := Kd.R_slice rX
 subst evX
 replace e12 : ρ 12 = .agg #[.int .i64 x.f0, .int .i64 x.f1, .int .i64 x.f2, .string x.f3, .slice AX x.f4.length cX] := e12
 have RX := yC.mk (Kd.xE (ok' := fun k => W1.heap.size ≤ k) (Kd.R_bound rX) (fun k hk => hk.2.1))
 clear rX
 obtain ⟨l, rL, hL⟩ := hΦ 9 _ rfl rfl
 obtain ⟨AL, cL, e16⟩ := Kd.R_slice rL
 replace e16 : ρ 16 = .slice AL l.length cL := e16
 have rL2 : Kd.R k39 39 W2 W1.heap.size _ (ρ 16) l := rL
 rw [e16] at rL2
 have RL := yC.mk (Kd.xE (ok' := fun k => W1.heap.size ≤ k) (Kd.R_bound rL2) (fun k hk => hk.2.1))
 clear rL rL2
 try simp only [e12, e16]
 have HX := HX.cl hB
 replace HA := yC.mk (Kd.yJ HA.out hB)
 clear hΦ hft hap 
 refine Kd.event_run (v := .agg #[.slice A6 l0.length c6, .int .i64 x.f0, .int .i64 x.f1, .int .i64 x.f2, .string x.f3, .slice AX x.f4.length cX, .slice AL l.length cL]) (w1 := W2) rfl (by first | (go_simp; done) | (go_simp; rfl)) ?_
 try simp only [Reg.SF]
 have HA2 := yC.mk (Kd.R_types HA.out (HX.out.at 0 rfl) (by decide))
 clear HA
 refine bx_putB (w := w) rfl 32 (.tmp 2) (.tmp 17) rfl rfl (L1 := []) (cells := #[.slice A6 l0.length c6, .int .i64 x.f0, .int .i64 x.f1, .int .i64 x.f2, .string x.f3, .slice AX x.f4.length cX, .slice AL l.length cL]) HX.out rfl rfl (by kernel_rfl) rfl rfl ?_
 intro W2s hx hput
 have HX := yC.mk hx
 replace HA2 := yC.mk (Kd.R_step HA2.out (fun k hk _ => hput k (by exact hk.2)))
 replace RX := yC.mk (Kd.R_step RX.out (fun k hk _ => hput k (by have := hk; omega)))
 replace RL := yC.mk (Kd.R_step RL.out (fun k hk _ => hput k (by have := hk; omega)))
 clear hx hput
 go_wp2_with fail
 refine bodyPost_ret (results_cell_row rfl _ _ g2 32 #[.slice A6 l0.length c6, .int .i64 x.f0, .int .i64 x.f1, .int .i64 x.f2, .string x.f3, .slice AX x.f4.length cX, .slice AL l.length cL] (0, 0) _ rfl (HX.out.at 0 rfl) hu32 rfl (by kernel_rfl)) rfl ?_
 exact ⟨⟨_, rfl, l0, x, l, _, _, _, rfl, ⟨HAT.out, PX, hL⟩, Kd.xE HA2.out (fun _ _ => trivial), Kd.xJ (Kd.xE RX.out (fun _ _ => trivial)) hw1, Kd.xJ (Kd.xE RL.out (fun _ _ => trivial)) hw1⟩, HX.out.below⟩
end
section
open Go.RowKit YtmebkjdknhknbaaGreatDoor.G YtmebkjdknhknbaaGreatDoor.F
def lnT : S29 := ⟨1, 1, 0, ⟨#[]⟩, []⟩
def lnS : S29 := ⟨2, 0, 1, ⟨#[]⟩, []⟩
def lnW : S29 := ⟨3, 0, 1, ⟨#[]⟩, []⟩
def lnF : S29 := ⟨4, 0, 0, ⟨#[32]⟩, [lnT]⟩
def lnR : S29 := ⟨5, 0, 0, ⟨#[32]⟩, [lnT]⟩
def lnB : S29 := ⟨6, 0, 0, ⟨#[44]⟩, [lnF, lnR]⟩
def ln0 : S29 := ⟨0, 0, 0, ⟨#[]⟩, []⟩
def exC : List S39 := [⟨2, 12345000, ⟨#[]⟩⟩, ⟨3, 0, ⟨#[97, 110, 110, 32, 108, 101, 101]⟩⟩]
theorem dep_leaf (k : Nat) (x : S29) (h : x.f4 = []) : dep (k + 1) x := ⟨by rw [h]; decide, fun i hi => by rw [h] at hi; exact absurd hi (Nat.not_lt_zero _)⟩
theorem dep_one (k : Nat) (x y : S29) (h : x.f4 = [y]) (hy : dep k y) : dep (k + 1) x := ⟨by rw [h]; show 1 < 2 ^ 62; decide, fun i hi => by
 rw [h] at hi ⊢
 obtain rfl : i = 0 := by simpa using hi
 exact hy⟩
theorem dep_two (k : Nat) (x y z : S29) (h : x.f4 = [y, z]) (hy : dep k y) (hz : dep k z) : dep (k + 1) x := ⟨by rw [h]; show 2 < 2 ^ 62; decide, fun i hi => by
 rw [h] at hi ⊢
 have : i = 0 ∨ i = 1 := by simp at hi; omega
 rcases this with rfl | rfl
 ·exact hy
 ·exact hz⟩
theorem dT (k : Nat) : dep (k + 1) lnT := dep_leaf k _ rfl
theorem dS : dep 4 lnS := dep_leaf 3 _ rfl
theorem dW : dep 4 lnW := dep_leaf 3 _ rfl
theorem d0 : dep 4 ln0 := dep_leaf 3 _ rfl
theorem dF3 : dep 3 lnF := dep_one 2 _ lnT rfl (dT 1)
theorem dR3 : dep 3 lnR := dep_one 2 _ lnT rfl (dT 1)
theorem dF : dep 4 lnF := dep_one 3 _ lnT rfl (dT 2)
theorem dR : dep 4 lnR := dep_one 3 _ lnT rfl (dT 2)
theorem dB : dep 4 lnB := dep_two 3 _ lnF lnR rfl dF3 dR3
theorem vS : (ofV 4 exA lnS 3).2 = true := by kernel_rfl
theorem voS : vOk 4 exA lnS := ⟨dS, 3, vS⟩
theorem vW : (ofV 4 exA lnW 3).2 = true := by kernel_rfl
theorem voW : vOk 4 exA lnW := ⟨dW, 3, vW⟩
theorem vF : (ofV 4 exA lnF 3).2 = true := by kernel_rfl
theorem voF : vOk 4 exA lnF := ⟨dF, 3, vF⟩
theorem vR : (ofV 4 exA lnR 3).2 = true := by kernel_rfl
theorem voR : vOk 4 exA lnR := ⟨dR, 3, vR⟩
theorem vB : (ofV 4 exA lnB 3).2 = true := by kernel_rfl
theorem voB : vOk 4 exA lnB := ⟨dB, 3, vB⟩
def gotP (A1 : Option Addr) (c1 : Nat) (l l2 : List S39) (v : Value) (B : Nat) (W : World) (S : Nat → Prop) : Prop :=
 ∃ A2 c2, v = .agg #[.slice A2 l2.length c2, .int .i64 0] ∧ ((A2 = A1 ∧ c2 = c1 ∧ l2 = l) ∨ Kd.R k39 39 W B S (.slice A2 l2.length c2) l2)
theorem gotP_st {A1 : Option Addr} {c1 : Nat} {l l2 : List S39} {v : Value} {B : Nat} {W W' : World} {S : Nat → Prop} (hz : W.heap.size ≤ W'.heap.size) (hk : ∀ k, k < W.heap.size → S k → W'.heap[k]? = W.heap[k]?) (h : gotP A1 c1 l l2 v B W S) : gotP A1 c1 l l2 v B W' S := by
 obtain ⟨A2, c2, rfl, h⟩ := h
 exact ⟨A2, c2, rfl, h.imp id (fun h => Kd.R_step h (fun k hS hlt => hk k hlt hS))⟩
def gotDv (d : Nat) (A1 : Option Addr) (c1 : Nat) (l l2 : List S39) : Reg.Dv := Reg.Dv.n d (gotP A1 c1 l l2) gotP_st
theorem yX (d : Nat) (A1 : Option Addr) (c1 : Nat) (l l2 : List S39) (e : Nat) (ρ : Nat → Value) : (gotDv d A1 c1 l l2).val e ρ = ρ e := rfl
theorem got_step {f d : Nat} {eats : List (Nat × Nat)} {i : Nat} {ρ : Nat → Value} {S : Nat → Nat → Prop} {A1 : Option Addr} {c1 : Nat} {l l2 : List S39} {w W : World} {args : Array Value} (hB : Below w.heap.size w W) (h : Calls Tryz.prog f args W fun e w' => gotOut A1 c1 l (some l2) W w' e) :
  Calls Tryz.prog f args W fun e w' => ∃ v, e = .returned v ∧ Reg.Kv eats w i (some d) (gotDv d A1 c1 l l2) ρ W S v w' := by
 refine h.mono fun e w' h => ?_
 obtain ⟨hb, A2, c2, rfl, h⟩ := h
 refine ⟨_, rfl, Reg.Kv.n (Φ := gotP A1 c1 l l2) (st := gotP_st) (fun k => W.heap.size ≤ k ∧ k < w'.heap.size) hB hb (fun k hk => hk) ⟨A2, c2, rfl, ?_⟩⟩
 rcases h with h | h
 ·exact .inl h
 ·exact .inr (Reg.R_new2 h hB.size)
theorem v0 : (ofV 4 exA ln0 3).2 = false := by kernel_rfl
theorem fC : fitL exA exC = true := by kernel_rfl
theorem f0 : fitL exA [] = false := by kernel_rfl
theorem sS : shV 4 exC lnS = ⟨2, 12300000, ⟨#[]⟩⟩ := by kernel_rfl
theorem sW : shV 4 exC lnW = ⟨3, 0, ⟨#[49, 50, 46, 51]⟩⟩ := by kernel_rfl
theorem sF : shV 4 exC lnF = ⟨3, 0, ⟨#[97, 110, 110]⟩⟩ := by kernel_rfl
theorem sR : shV 4 exC lnR = ⟨3, 0, ⟨#[108, 101, 101]⟩⟩ := by kernel_rfl
theorem sB : shV 4 exC lnB = ⟨3, 0, ⟨#[97, 110, 110, 44, 108, 101, 101]⟩⟩ := by kernel_rfl
def la : List S39 := [⟨2, 12345000, ⟨#[]⟩⟩, ⟨3, 0, ⟨#[97, 110, 110, 32, 108, 101, 101]⟩⟩]
theorem pa : putsV 4 exA exC lnS ⟨2, 12300000, ⟨#[]⟩⟩ = some la := by kernel_rfl
def lb : List S39 := [⟨2, 12400000, ⟨#[]⟩⟩, ⟨3, 0, ⟨#[97, 110, 110, 32, 108, 101, 101]⟩⟩]
theorem pb : putsV 4 exA exC lnS ⟨2, 12400000, ⟨#[]⟩⟩ = some lb := by kernel_rfl
def lc : List S39 := [⟨2, 12345000, ⟨#[]⟩⟩, ⟨3, 0, ⟨#[98, 111, 98, 32, 108, 101, 101]⟩⟩]
theorem pc : putsV 4 exA exC lnF ⟨3, 0, ⟨#[98, 111, 98]⟩⟩ = some lc := by kernel_rfl
def ld : List S39 := [⟨2, 12345000, ⟨#[]⟩⟩, ⟨3, 0, ⟨#[97, 110, 110]⟩⟩]
theorem pd : putsV 4 exA exC lnR ⟨0, 0, ⟨#[]⟩⟩ = some ld := by kernel_rfl
def le : List S39 := [⟨2, 12345000, ⟨#[]⟩⟩, ⟨3, 0, ⟨#[98, 111, 98]⟩⟩]
theorem pe : putsV 4 exA exC lnB ⟨3, 0, ⟨#[98, 111, 98]⟩⟩ = some le := by kernel_rfl
theorem pf : putsV 4 exA exC lnW ⟨3, 0, ⟨#[49, 50, 46, 52, 48]⟩⟩ = none := by kernel_rfl
theorem pg : putsV 4 exA exC lnB ⟨3, 0, ⟨#[97, 32, 98, 44, 99]⟩⟩ = none := by kernel_rfl
theorem aF (k : Nat) : attrsV (k + 2) lnF = [1] := by
 have h : attrsV (k + 2) lnF = Lib.compact ([1].mergeSort fun a b => decide (a ≤ b)) := rfl
 rw [h, List.mergeSort_singleton]; rfl
theorem aR (k : Nat) : attrsV (k + 2) lnR = [1] := by
 have h : attrsV (k + 2) lnR = Lib.compact ([1].mergeSort fun a b => decide (a ≤ b)) := rfl
 rw [h, List.mergeSort_singleton]; rfl
theorem aB : attrsV 4 lnB = [1] := by
 have h : attrsV 4 lnB = Lib.compact ((attrsV 3 lnF ++ (attrsV 3 lnR ++ [])).mergeSort fun a b => decide (a ≤ b)) := rfl
 rw [h, aF 1, aR 1, List.mergeSort_of_pairwise (by simp)]; rfl
theorem wT (k : Nat) : wOk (k + 1) lnT := ⟨by decide, fun i hi => absurd hi (Nat.not_lt_zero _)⟩
theorem wB : wOk 4 lnB := ⟨by decide, fun i hi => by
  have : i = 0 ∨ i = 1 := by have : i < 2 := hi; omega
  rcases this with rfl | rfl
  · exact ⟨by decide, fun i hi => by obtain rfl : i = 0 := by have : i < 1 := hi; omega
                                     exact wT 1⟩
  · exact ⟨by decide, fun i hi => by obtain rfl : i = 0 := by have : i < 1 := hi; omega
                                     exact wT 1⟩⟩
theorem same_a : chapmanref16_Same.f 5 la exC = some true := by kernel_rfl
theorem in_B : chapmanref16_In.f 5 [1] 1 = some true := by kernel_rfl
end
end Go.Proofs.YtmebkjdknhknbaaGreatDoor.H
