/- Texts of this claim, bound together: what the functions that it reaches compute, with the contracts of their calls (HEx3, HDig, HTxtR, PTypes, HHasR, HWish, HAtR, PPut, HShR, HShT, PFrame). -/
import Derived.Test.YtmebkjdknhknbaaGreatDoorJ5
set_option linter.unusedVariables false
set_option linter.unusedSimpArgs false
set_option linter.unusedSectionVars false
set_option maxHeartbeats 16000000
set_option maxRecDepth 100000
open Go.Proofs.YtmebkjdknhknbaaGreatDoorW.PrintWords Go.Proofs.YtmebkjdknhknbaaGreatDoorW.PrintLast Go.Proofs.YtmebkjdknhknbaaGreatDoorW.PrintMore
namespace Go.Proofs.YtmebkjdknhknbaaGreatDoor.H
section
open Go.RowKit YtmebkjdknhknbaaGreatDoor.G YtmebkjdknhknbaaGreatDoor.F
theorem below_of_drawn {w w' : World} (h : yR w w') : Below w.heap.size w w' := by
 obtain ⟨m, rfl⟩ := h
 exact yE (Below.refl _ _) m
theorem examples_calls (w : World) (hgl : Gl w) : Calls Tryz.prog 9 #[] w fun e w' => e = .returned (.bool true) ∧ Below w.heap.size w w' := by
 have hu := Tryz.underlying49
 have hu2 := Tryz.underlying57
 have hu3 := Tryz.underlying29
 have hu4 := Tryz.underlying39
 have hu5 := Tryz.underlying36
 have hu6 := Tryz.underlying42
 have HX := yC.mk (Bxs.start w)
 have HG := yC.mk hgl
 clear hgl
 go_enter Tryz.func9, Tryz.ntmps9
 go_upto_region 0 with (fail)
 refine Reg.det [Reg.k 0 (.bool false)] [] 211 rfl (by kernel_rfl) (by kernel_rfl) ?s3 ?_
 case s3 =>
  intro iq oq pq hiq hoq hpq ρ ev W S hE hO ec ef hB hft hΦ
  simp only [Reg.SV] at hE
  obtain ⟨e0, _⟩ := hE
  obtain rfl : iq = 0 := by have : iq < 1 := hiq; omega
  cases hoq; cases hpq
  all_goals try exact Reg.D.mv hB
  all_goals exact Reg.D.cx hB
 intro ρ W0 S hB hft hap hΦ
 simp only [Reg.SV, Reg.SF, Nat.reduceAdd]
 have HX := HX.cl hB
 clear hΦ hft hap 
 go_upto_region 1 with (fail)
 try simp only [Reg.SF]
 refine Reg.det [(some 14, Reg.Dv.row 14 k57 57 (exA)), (some 1, Reg.Dv.u [14] (fun l => (l.headD undef)))] [] 211 rfl (by kernel_rfl) (by kernel_rfl) ?s4 ?_
 case s4 =>
  intro iq oq pq hiq hoq hpq ρ ev W S hE hO ec ef hB hft hΦ
  simp only [Reg.SV] at hE
  obtain ⟨e14, e1, _⟩ := hE
  rcases Reg.lt2 hiq with rfl | rfl
  all_goals (cases hoq; cases hpq)
  rotate_left 1
  ·obtain ⟨_, _, h14⟩ := Kd.R_slice (hΦ 0 _ rfl rfl rfl)
   replace h14 : ρ 14 = _ := h14
   refine Reg.D.uv hB ?_
   go_simp
   try (first | done | rfl | (simp; done) | (intro h; omega))
  rotate_right 1
  ·refine Reg.D.crow (g := 28) (args := #[]) hB (by go_simp; try rfl) ?_
   exact example_calls W
 intro ρ W1 S hB hft hap hΦ
 simp only [Reg.SV, Reg.SF, Nat.reduceAdd]
 have r14 : Kd.R k57 57 W1 _ _ (ρ 14) (exA) := hΦ 0 _ rfl rfl
 obtain ⟨A14, c14, e14⟩ := Kd.R_slice r14
 replace e14 : ρ 14 = .slice A14 2 c14 := e14
 rw [e14] at r14
 replace r14 := Kd.xE (ok' := fun _ => True) (Kd.xJ r14 HX.out.below.size) (fun _ _ => trivial)
 try simp only [e14]
 have HX := HX.cl hB
 clear hΦ hft hap 
 have RA := yC.mk (r14)
 go_upto_region 2 with (fail)
 try simp only [Reg.SF]
 refine Reg.det [Reg.k 15 (.agg #[.int .i64 2, .int .i64 12345000, .string (⟨#[]⟩ : ByteArray)]), Reg.k 16 (.agg #[.int .i64 3, .int .i64 0, .string (⟨#[97, 110, 110, 32, 108, 101, 101]⟩ : ByteArray)]), (some 17, Reg.Dv.blk 17 39 2 #[.int .i64 2, .int .i64 12345000, .string (⟨#[]⟩ : ByteArray), .int .i64 3, .int .i64 0, .string (⟨#[97, 110, 110, 32, 108, 101, 101]⟩ : ByteArray)]), (some 2, Reg.Dv.u [17] (fun l => (l.headD undef)))] [] 211 rfl (by kernel_rfl) (by kernel_rfl) ?s5 ?_
 case s5 =>
  intro iq oq pq hiq hoq hpq ρ ev W S hE hO ec ef hB hft hΦ
  simp only [Reg.SV] at hE
  obtain ⟨e15, e16, e17, e2, _⟩ := hE
  rcases Reg.lt4 hiq with rfl | rfl | rfl | rfl
  all_goals (cases hoq; cases hpq)
  rotate_left 3
  ·obtain ⟨_, h17, _⟩ := hΦ 2 _ rfl rfl rfl
   replace h17 : ρ 17 = _ := h17
   refine Reg.D.uv hB ?_
   go_simp
   try (first | done | rfl | (simp; done) | (intro h; omega))
  rotate_right 3
  rotate_left 2
  ·refine Reg.D.blk hB ?_
   go_simp
   try (first | rfl | exact ⟨rfl, rfl⟩)
  rotate_right 2
  rotate_left 1
  ·refine Reg.D.cc (g := 29) (args := #[.string (⟨#[97, 110, 110, 32, 108, 101, 101]⟩ : ByteArray)]) hB (by go_simp; try rfl) ?_
   exact chapmanref16_Texted.calls (⟨#[97, 110, 110, 32, 108, 101, 101]⟩ : ByteArray) 3 0 (⟨#[97, 110, 110, 32, 108, 101, 101]⟩ : ByteArray) W rfl
  rotate_right 1
  all_goals exact Reg.D.cx hB
 intro ρ W2 S hB hft hap hΦ
 simp only [Reg.SV, Reg.SF, Nat.reduceAdd]
 obtain ⟨g17, e17, s17, hg17, _, b17⟩ := hΦ 2 _ rfl rfl
 replace e17 : ρ 17 = .slice (some ⟨g17, 0, none⟩) 2 2 := e17
 try simp only [e17]
 replace b17 : W2.heap[g17]? = some (.cells #[.int .i64 2, .int .i64 12345000, .string (⟨#[]⟩ : ByteArray), .int .i64 3, .int .i64 0, .string (⟨#[97, 110, 110, 32, 108, 101, 101]⟩ : ByteArray)] 39 (0, 0)) := b17
 have HX := yC.mk (HX.out.join (Bxs.one hB hg17 b17))
 replace RA := yC.mk (Kd.yJ RA.out hB)
 clear hΦ hft hap 
 go_upto_region 3 with (fail)
 try simp only [Reg.SF]
 refine Reg.det [Reg.k 18 (.agg #[.int .i64 2, .int .i64 0, .int .i64 1, .string (⟨#[]⟩ : ByteArray), .slice none 0 0]), (some 3, Reg.Dv.box 3 29 (fun _ => #[.int .i64 0, .int .i64 0, .int .i64 0, .string (⟨#[]⟩ : ByteArray), .slice none 0 0]) [] true), (none, Reg.Dv.box 3 29 (fun _ => #[.int .i64 2, .int .i64 0, .int .i64 1, .string (⟨#[]⟩ : ByteArray), .slice none 0 0]) [] false)] [(1, 2)] 211 rfl (by kernel_rfl) (by kernel_rfl) ?s6 ?_
 case s6 =>
  intro iq oq pq hiq hoq hpq ρ ev W S hE hO ec ef hB hft hΦ
  simp only [Reg.SV] at hE
  obtain ⟨e18, e3, _⟩ := hE
  rcases Reg.lt3 hiq with rfl | rfl | rfl
  all_goals (cases hoq; cases hpq)
  rotate_left 2
  ·exact Reg.D.fill 1 29 (.tmp 3) (.tmp 18) hB e3 (by first | assumption | rfl | (simp [*]; done)) (hΦ 1 _ rfl rfl rfl) info29s (by first | rfl | (simp only [Reg.SV]; rfl))
  rotate_right 2
  rotate_left 1
  ·refine Reg.D.box hB ?_
   go_simp
   try rfl
  rotate_right 1
  all_goals exact Reg.D.cx hB
 intro ρ W3 S hB hft hap hΦ
 simp only [Reg.SV, Reg.SF, Nat.reduceAdd]
 obtain ⟨g3, e3, s3, hg3, _, b3⟩ := hΦ 2 _ rfl rfl
 replace e3 : ρ 3 = .pointer (some ⟨g3, 0, none⟩) := e3
 try simp only [e3]
 replace b3 : W3.heap[g3]? = some (.cells #[.int .i64 2, .int .i64 0, .int .i64 1, .string (⟨#[]⟩ : ByteArray), .slice none 0 0] 29 (0, 0)) := b3
 have HX := yC.mk (HX.out.join (Bxs.one hB hg3 b3))
 replace RA := yC.mk (Kd.yJ RA.out hB)
 clear hΦ hft hap 
 go_upto_region 4 with (fail)
 try simp only [Reg.SF]
 refine Reg.det [Reg.k 19 (.agg #[.int .i64 3, .int .i64 0, .int .i64 1, .string (⟨#[]⟩ : ByteArray), .slice none 0 0]), (some 4, Reg.Dv.box 4 29 (fun _ => #[.int .i64 0, .int .i64 0, .int .i64 0, .string (⟨#[]⟩ : ByteArray), .slice none 0 0]) [] true), (none, Reg.Dv.box 4 29 (fun _ => #[.int .i64 3, .int .i64 0, .int .i64 1, .string (⟨#[]⟩ : ByteArray), .slice none 0 0]) [] false)] [(1, 2)] 211 rfl (by kernel_rfl) (by kernel_rfl) ?s7 ?_
 case s7 =>
  intro iq oq pq hiq hoq hpq ρ ev W S hE hO ec ef hB hft hΦ
  simp only [Reg.SV] at hE
  obtain ⟨e19, e4, _⟩ := hE
  rcases Reg.lt3 hiq with rfl | rfl | rfl
  all_goals (cases hoq; cases hpq)
  rotate_left 2
  ·exact Reg.D.fill 1 29 (.tmp 4) (.tmp 19) hB e4 (by first | assumption | rfl | (simp [*]; done)) (hΦ 1 _ rfl rfl rfl) info29s (by first | rfl | (simp only [Reg.SV]; rfl))
  rotate_right 2
  rotate_left 1
  ·refine Reg.D.box hB ?_
   go_simp
   try rfl
  rotate_right 1
  all_goals exact Reg.D.cx hB
 intro ρ W4 S hB hft hap hΦ
 simp only [Reg.SV, Reg.SF, Nat.reduceAdd]
 obtain ⟨g4, e4, s4, hg4, _, b4⟩ := hΦ 2 _ rfl rfl
 replace e4 : ρ 4 = .pointer (some ⟨g4, 0, none⟩) := e4
 try simp only [e4]
 replace b4 : W4.heap[g4]? = some (.cells #[.int .i64 3, .int .i64 0, .int .i64 1, .string (⟨#[]⟩ : ByteArray), .slice none 0 0] 29 (0, 0)) := b4
 have HX := yC.mk (HX.out.join (Bxs.one hB hg4 b4))
 replace RA := yC.mk (Kd.yJ RA.out hB)
 clear hΦ hft hap 
 go_upto_region 5 with (fail)
 try simp only [Reg.SF]
 refine Reg.det [Reg.k 20 (.agg #[.int .i64 1, .int .i64 1, .int .i64 0, .string (⟨#[]⟩ : ByteArray), .slice none 0 0]), (some 21, Reg.Dv.blk 21 29 1 #[.int .i64 1, .int .i64 1, .int .i64 0, .string (⟨#[]⟩ : ByteArray), .slice none 0 0]), (some 5, Reg.Dv.u [21] (fun l => (l.headD undef)))] [] 211 rfl (by kernel_rfl) (by kernel_rfl) ?s8 ?_
 case s8 =>
  intro iq oq pq hiq hoq hpq ρ ev W S hE hO ec ef hB hft hΦ
  simp only [Reg.SV] at hE
  obtain ⟨e20, e21, e5, _⟩ := hE
  rcases Reg.lt3 hiq with rfl | rfl | rfl
  all_goals (cases hoq; cases hpq)
  rotate_left 2
  ·obtain ⟨_, h21, _⟩ := hΦ 1 _ rfl rfl rfl
   replace h21 : ρ 21 = _ := h21
   refine Reg.D.uv hB ?_
   go_simp
   try (first | done | rfl | (simp; done) | (intro h; omega))
  rotate_right 2
  rotate_left 1
  ·refine Reg.D.blk hB ?_
   go_simp
   try (first | rfl | exact ⟨rfl, rfl⟩)
  rotate_right 1
  all_goals exact Reg.D.cx hB
 intro ρ W5 S hB hft hap hΦ
 simp only [Reg.SV, Reg.SF, Nat.reduceAdd]
 obtain ⟨g21, e21, s21, hg21, _, b21⟩ := hΦ 1 _ rfl rfl
 replace e21 : ρ 21 = .slice (some ⟨g21, 0, none⟩) 1 1 := e21
 try simp only [e21]
 replace b21 : W5.heap[g21]? = some (.cells #[.int .i64 1, .int .i64 1, .int .i64 0, .string (⟨#[]⟩ : ByteArray), .slice none 0 0] 29 (0, 0)) := b21
 have HX := yC.mk (HX.out.join (Bxs.one hB hg21 b21))
 replace RA := yC.mk (Kd.yJ RA.out hB)
 clear hΦ hft hap 
 go_upto_region 6 with (fail)
 try simp only [Reg.SF]
 refine Reg.det [Reg.k 22 (.slice (some ⟨g21, 0, none⟩) 1 1), Reg.k 23 (.agg #[.int .i64 4, .int .i64 0, .int .i64 0, .string (⟨#[32]⟩ : ByteArray), .slice (some ⟨g21, 0, none⟩) 1 1]), Reg.k 24 (.slice (some ⟨g21, 0, none⟩) 1 1), Reg.k 25 (.agg #[.int .i64 5, .int .i64 0, .int .i64 0, .string (⟨#[32]⟩ : ByteArray), .slice (some ⟨g21, 0, none⟩) 1 1]), (some 6, Reg.Dv.box 6 29 (fun _ => #[.int .i64 0, .int .i64 0, .int .i64 0, .string (⟨#[]⟩ : ByteArray), .slice none 0 0]) [] true), (some 7, Reg.Dv.box 7 29 (fun _ => #[.int .i64 0, .int .i64 0, .int .i64 0, .string (⟨#[]⟩ : ByteArray), .slice none 0 0]) [] true), (none, Reg.Dv.box 6 29 (fun _ => #[.int .i64 4, .int .i64 0, .int .i64 0, .string (⟨#[32]⟩ : ByteArray), .slice (some ⟨g21, 0, none⟩) 1 1]) [] false), (none, Reg.Dv.box 7 29 (fun _ => #[.int .i64 5, .int .i64 0, .int .i64 0, .string (⟨#[32]⟩ : ByteArray), .slice (some ⟨g21, 0, none⟩) 1 1]) [] false)] [(4, 6), (5, 7)] 211 rfl (by kernel_rfl) (by kernel_rfl) ?s9 ?_
 case s9 =>
  intro iq oq pq hiq hoq hpq ρ ev W S hE hO ec ef hB hft hΦ
  have e5 : ev (.tmp 5) = .slice (some ⟨g21, 0, none⟩) 1 1 := hO 5 rfl
  simp only [Reg.SV] at hE
  obtain ⟨e22, e23, e24, e25, e6, e7, _⟩ := hE
  rcases Reg.lt8 hiq with rfl | rfl | rfl | rfl | rfl | rfl | rfl | rfl
  all_goals (cases hoq; cases hpq)
  rotate_left 7
  ·exact Reg.D.fill 5 29 (.tmp 7) (.tmp 25) hB e7 (by first | assumption | rfl | (simp [*]; done)) (hΦ 5 _ rfl rfl rfl) info29s (by first | rfl | (simp only [Reg.SV]; rfl))
  rotate_right 7
  rotate_left 6
  ·exact Reg.D.fill 4 29 (.tmp 6) (.tmp 23) hB e6 (by first | assumption | rfl | (simp [*]; done)) (hΦ 4 _ rfl rfl rfl) info29s (by first | rfl | (simp only [Reg.SV]; rfl))
  rotate_right 6
  rotate_left 5
  ·refine Reg.D.box hB ?_
   go_simp
   try rfl
  rotate_right 5
  rotate_left 4
  ·refine Reg.D.box hB ?_
   go_simp
   try rfl
  rotate_right 4
  all_goals try exact Reg.D.mv hB
  all_goals exact Reg.D.cx hB
 intro ρ W6 S hB hft hap hΦ
 simp only [Reg.SV, Reg.SF, Nat.reduceAdd]
 obtain ⟨g6, e6, s6, hg6, _, b6⟩ := hΦ 6 _ rfl rfl
 replace e6 : ρ 6 = .pointer (some ⟨g6, 0, none⟩) := e6
 obtain ⟨g7, e7, s7, hg7, _, b7⟩ := hΦ 7 _ rfl rfl
 replace e7 : ρ 7 = .pointer (some ⟨g7, 0, none⟩) := e7
 try simp only [e6, e7]
 replace b6 : W6.heap[g6]? = some (.cells #[.int .i64 4, .int .i64 0, .int .i64 0, .string (⟨#[32]⟩ : ByteArray), .slice (some ⟨g21, 0, none⟩) 1 1] 29 (0, 0)) := b6
 replace b7 : W6.heap[g7]? = some (.cells #[.int .i64 5, .int .i64 0, .int .i64 0, .string (⟨#[32]⟩ : ByteArray), .slice (some ⟨g21, 0, none⟩) 1 1] 29 (0, 0)) := b7
 have HX := yC.mk (HX.out.join ((Bxs.one hB hg6 b6).more hg7 b7 (by intro p hp; simp only [List.mem_cons, List.mem_singleton, List.not_mem_nil, or_false] at hp; rcases hp with rfl <;> (intro e; dsimp only at e; subst e; first | exact absurd (hap _ _ _ s6 s7) (by decide)))))
 replace RA := yC.mk (Kd.yJ RA.out hB)
 clear hΦ hft hap 
 go_upto_region 7 with (fail)
 try simp only [Reg.SF]
 refine Reg.det [Reg.k 26 (.agg #[.int .i64 4, .int .i64 0, .int .i64 0, .string (⟨#[32]⟩ : ByteArray), .slice (some ⟨g21, 0, none⟩) 1 1]), Reg.k 27 (.agg #[.int .i64 5, .int .i64 0, .int .i64 0, .string (⟨#[32]⟩ : ByteArray), .slice (some ⟨g21, 0, none⟩) 1 1]), (some 28, Reg.Dv.blk 28 29 2 #[.int .i64 4, .int .i64 0, .int .i64 0, .string (⟨#[32]⟩ : ByteArray), .slice (some ⟨g21, 0, none⟩) 1 1, .int .i64 5, .int .i64 0, .int .i64 0, .string (⟨#[32]⟩ : ByteArray), .slice (some ⟨g21, 0, none⟩) 1 1]), (some 29, Reg.Dv.u [28] (fun l => .agg #[.int .i64 6, .int .i64 0, .int .i64 0, .string (⟨#[44]⟩ : ByteArray), (l.headD undef)])), (some 8, Reg.Dv.box 8 29 (fun _ => #[.int .i64 0, .int .i64 0, .int .i64 0, .string (⟨#[]⟩ : ByteArray), .slice none 0 0]) [] true), (none, Reg.Dv.box 8 29 (fun l => #[.int .i64 6, .int .i64 0, .int .i64 0, .string (⟨#[44]⟩ : ByteArray), (l.headD undef)]) [28] false)] [(4, 5)] 211 rfl (by kernel_rfl) (by kernel_rfl) ?s10 ?_
 case s10 =>
  intro iq oq pq hiq hoq hpq ρ ev W S hE hO ec ef hB hft hΦ
  have e6 : ev (.tmp 6) = .pointer (some ⟨g6, 0, none⟩) := hO 6 rfl
  have e7 : ev (.tmp 7) = .pointer (some ⟨g7, 0, none⟩) := hO 7 rfl
  have mg6_0 := HX.pc hB 1 0 (.int .i64 4) rfl rfl
  have mg6_1 := HX.pc hB 1 1 (.int .i64 0) rfl rfl
  have mg6_2 := HX.pc hB 1 2 (.int .i64 0) rfl rfl
  have mg6_3 := HX.pc hB 1 3 (.string (⟨#[32]⟩ : ByteArray)) rfl rfl
  have mg6_4 := HX.pc hB 1 4 (.slice (some ⟨g21, 0, none⟩) 1 1) rfl rfl
  have mg7_0 := HX.pc hB 0 0 (.int .i64 5) rfl rfl
  have mg7_1 := HX.pc hB 0 1 (.int .i64 0) rfl rfl
  have mg7_2 := HX.pc hB 0 2 (.int .i64 0) rfl rfl
  have mg7_3 := HX.pc hB 0 3 (.string (⟨#[32]⟩ : ByteArray)) rfl rfl
  have mg7_4 := HX.pc hB 0 4 (.slice (some ⟨g21, 0, none⟩) 1 1) rfl rfl
  simp only [Reg.SV] at hE
  obtain ⟨e26, e27, e28, e29, e8, _⟩ := hE
  rcases Reg.lt6 hiq with rfl | rfl | rfl | rfl | rfl | rfl
  all_goals (cases hoq; cases hpq)
  rotate_left 5
  ·obtain ⟨_, h28, _⟩ := hΦ 2 _ rfl rfl rfl
   replace h28 : ρ 28 = _ := h28
   exact Reg.D.fill 4 29 (.tmp 8) (.tmp 29) hB e8 (by first | assumption | rfl | (simp [*]; done)) (hΦ 4 _ rfl rfl rfl) info29s (by first | rfl | (simp only [Reg.SV, h28]; rfl))
  rotate_right 5
  rotate_left 4
  ·refine Reg.D.box hB ?_
   go_simp
   try rfl
  rotate_right 4
  rotate_left 3
  ·obtain ⟨_, h28, _⟩ := hΦ 2 _ rfl rfl rfl
   replace h28 : ρ 28 = _ := h28
   refine Reg.D.uv hB ?_
   go_simp
   try (first | done | rfl | (simp; done) | (intro h; omega))
  rotate_right 3
  rotate_left 2
  ·refine Reg.D.blk hB ?_
   go_simp
   try (first | rfl | exact ⟨rfl, rfl⟩)
  rotate_right 2
  all_goals exact Reg.D.cx hB
 intro ρ W7 S hB hft hap hΦ
 simp only [Reg.SV, Reg.SF, Nat.reduceAdd]
 obtain ⟨g28, e28, s28, hg28, _, b28⟩ := hΦ 2 _ rfl rfl
 replace e28 : ρ 28 = .slice (some ⟨g28, 0, none⟩) 2 2 := e28
 obtain ⟨g8, e8, s8, hg8, _, b8⟩ := hΦ 5 _ rfl rfl
 replace e8 : ρ 8 = .pointer (some ⟨g8, 0, none⟩) := e8
 replace b8 : W7.heap[g8]? = some (.cells #[.int .i64 6, .int .i64 0, .int .i64 0, .string (⟨#[44]⟩ : ByteArray), ρ 28] 29 (0, 0)) := b8
 rw [e28] at b8
 try simp only [e28, e8]
 replace b28 : W7.heap[g28]? = some (.cells #[.int .i64 4, .int .i64 0, .int .i64 0, .string (⟨#[32]⟩ : ByteArray), .slice (some ⟨g21, 0, none⟩) 1 1, .int .i64 5, .int .i64 0, .int .i64 0, .string (⟨#[32]⟩ : ByteArray), .slice (some ⟨g21, 0, none⟩) 1 1] 29 (0, 0)) := b28
 replace b8 : W7.heap[g8]? = some (.cells #[.int .i64 6, .int .i64 0, .int .i64 0, .string (⟨#[44]⟩ : ByteArray), .slice (some ⟨g28, 0, none⟩) 2 2] 29 (0, 0)) := b8
 have HX := yC.mk (HX.out.join ((Bxs.one hB hg28 b28).more hg8 b8 (by intro p hp; simp only [List.mem_cons, List.mem_singleton, List.not_mem_nil, or_false] at hp; rcases hp with rfl <;> (intro e; dsimp only at e; subst e; first | exact absurd (hap _ _ _ s28 s8) (by decide)))))
 replace RA := yC.mk (Kd.yJ RA.out hB)
 clear hΦ hft hap 
 have HC0 : Kd.C k57 W7 A14 2 exA := (Kd.R_reads' RA.out).2.2
 have hc14 : 2 ≤ c14 := (Kd.R_reads' RA.out).2.1
 have hG7 : Gl W7 := HG.out.below HX.out.below
 have HC1 : Kd.C k39 W7 (some ⟨g17, 0, none⟩) 2 exC := C_of_blk (HX.out.at 7 rfl) (Reps.c3 (k39_mk W7 ⟨2, 12345000, ⟨#[]⟩⟩) (Reps.c3 (k39_mk W7 ⟨3, 0, (⟨#[97, 110, 110, 32, 108, 101, 101]⟩ : ByteArray)⟩) (Reps.none _ _))) (by decide)
 have HCT : k29.C W7 (some ⟨g21, 0, none⟩) 1 [lnT] := C_of_blk (HX.out.at 4 rfl) (Reps.c5 (k29_mk W7 lnT (A4 := none) (c4 := 0) (Nat.le_refl _) (Kd.C_nil _ _)) (Reps.none _ _)) (by decide)
 have HCB : k29.C W7 (some ⟨g28, 0, none⟩) 2 [lnF, lnR] := C_of_blk (HX.out.at 1 rfl) (Reps.c5 (k29_mk W7 lnF (A4 := some ⟨g21, 0, none⟩) (c4 := 1) (Nat.le_refl _) HCT) (Reps.c5 (k29_mk W7 lnR (A4 := some ⟨g21, 0, none⟩) (c4 := 1) (Nat.le_refl _) HCT) (Reps.none _ _))) (by decide)
 have HB7 := yC.mk (Below.refl W7.heap.size W7)
 have HVS : yC (∀ (w' : World), Below W7.heap.size W7 w' → Calls Tryz.prog 27 #[.slice A14 2 c14, .agg #[.int .i64 2, .int .i64 0, .int .i64 1, .string (⟨#[]⟩ : ByteArray), .slice none 0 0]] w' fun e w'' => e = .returned (.bool true) ∧ Below w'.heap.size w' w'') := ⟨fun w' hb => by
  have h := Valid_calls exA lnS 4 dS A14 c14 none 0 w' (hG7.below hb) (Kd.yI HC0 hb) (Nat.le_refl _) (Kd.C_nil _ _)
  rw [vS] at h
  exact h⟩
 have HVW : yC (∀ (w' : World), Below W7.heap.size W7 w' → Calls Tryz.prog 27 #[.slice A14 2 c14, .agg #[.int .i64 3, .int .i64 0, .int .i64 1, .string (⟨#[]⟩ : ByteArray), .slice none 0 0]] w' fun e w'' => e = .returned (.bool true) ∧ Below w'.heap.size w' w'') := ⟨fun w' hb => by
  have h := Valid_calls exA lnW 4 dW A14 c14 none 0 w' (hG7.below hb) (Kd.yI HC0 hb) (Nat.le_refl _) (Kd.C_nil _ _)
  rw [vW] at h
  exact h⟩
 have HVB : yC (∀ (w' : World), Below W7.heap.size W7 w' → Calls Tryz.prog 27 #[.slice A14 2 c14, .agg #[.int .i64 6, .int .i64 0, .int .i64 0, .string (⟨#[44]⟩ : ByteArray), .slice (some ⟨g28, 0, none⟩) 2 2]] w' fun e w'' => e = .returned (.bool true) ∧ Below w'.heap.size w' w'') := ⟨fun w' hb => by
  have h := Valid_calls exA lnB 4 dB A14 c14 (some ⟨g28, 0, none⟩) 2 w' (hG7.below hb) (Kd.yI HC0 hb) (Nat.le_refl _) (Kd.yI HCB hb)
  rw [vB] at h
  exact h⟩
 have HV0 : yC (∀ (w' : World), Below W7.heap.size W7 w' → Calls Tryz.prog 27 #[.slice A14 2 c14, .agg #[.int .i64 0, .int .i64 0, .int .i64 0, .string (⟨#[]⟩ : ByteArray), .slice none 0 0]] w' fun e w'' => e = .returned (.bool false) ∧ Below w'.heap.size w' w'') := ⟨fun w' hb => by
  have h := Valid_calls exA ln0 4 d0 A14 c14 none 0 w' (hG7.below hb) (Kd.yI HC0 hb) (Nat.le_refl _) (Kd.C_nil _ _)
  rw [v0] at h
  exact h⟩
 have HF1 : yC (∀ (w' : World), Below W7.heap.size W7 w' → Calls Tryz.prog 30 #[.slice A14 2 c14, .slice (some ⟨g17, 0, none⟩) 2 2] w' fun e w'' => e = .returned (.bool true) ∧ Below w'.heap.size w' w'') := ⟨fun w' hb => by
  exact lens_Fit.calls 5 A14 c14 exA (some ⟨g17, 0, none⟩) 2 exC true w' (Kd.yI HC0 hb) hc14 (Kd.yI HC1 hb) (Nat.le_refl _) (hG7.below hb) ((fit_f exA exC (by decide)).trans (congrArg some fC))⟩
 have HF0 : yC (∀ (w' : World), Below W7.heap.size W7 w' → Calls Tryz.prog 30 #[.slice A14 2 c14, .slice none 0 0] w' fun e w'' => e = .returned (.bool false) ∧ Below w'.heap.size w' w'') := ⟨fun w' hb => by
  exact lens_Fit.calls 5 A14 c14 exA none 0 [] false w' (Kd.yI HC0 hb) hc14 (Kd.C_nil _ _) (Nat.le_refl _) (hG7.below hb) ((fit_f exA [] (by decide)).trans (congrArg some f0))⟩
 have HSS : yC (∀ (w' : World), Below W7.heap.size W7 w' → Calls Tryz.prog 12 #[.agg #[.int .i64 2, .int .i64 0, .int .i64 1, .string (⟨#[]⟩ : ByteArray), .slice none 0 0], .slice (some ⟨g17, 0, none⟩) 2 2] w' fun e w'' => e = .returned (.agg #[.int .i64 2, .int .i64 12300000, .string (⟨#[]⟩ : ByteArray)]) ∧ Below w'.heap.size w' w'') := ⟨fun w' hb => by
  exact Show_calls exC lnS ⟨2, 12300000, ⟨#[]⟩⟩ (some ⟨g17, 0, none⟩) 2 none 0 w' (hG7.below hb) (Kd.yI HC1 hb) (Nat.le_refl _) (Kd.C_nil _ _) (by
   have h := xR none 0 0 exC 4 lnS (show_ok fC 4 lnS voS).1
   rw [sS] at h
   exact h)⟩
 have HSW : yC (∀ (w' : World), Below W7.heap.size W7 w' → Calls Tryz.prog 12 #[.agg #[.int .i64 3, .int .i64 0, .int .i64 1, .string (⟨#[]⟩ : ByteArray), .slice none 0 0], .slice (some ⟨g17, 0, none⟩) 2 2] w' fun e w'' => e = .returned (.agg #[.int .i64 3, .int .i64 0, .string (⟨#[49, 50, 46, 51]⟩ : ByteArray)]) ∧ Below w'.heap.size w' w'') := ⟨fun w' hb => by
  exact Show_calls exC lnW ⟨3, 0, ⟨#[49, 50, 46, 51]⟩⟩ (some ⟨g17, 0, none⟩) 2 none 0 w' (hG7.below hb) (Kd.yI HC1 hb) (Nat.le_refl _) (Kd.C_nil _ _) (by
   have h := xR none 0 0 exC 4 lnW (show_ok fC 4 lnW voW).1
   rw [sW] at h
   exact h)⟩
 have HSF : yC (∀ (w' : World), Below W7.heap.size W7 w' → Calls Tryz.prog 12 #[.agg #[.int .i64 4, .int .i64 0, .int .i64 0, .string (⟨#[32]⟩ : ByteArray), .slice (some ⟨g21, 0, none⟩) 1 1], .slice (some ⟨g17, 0, none⟩) 2 2] w' fun e w'' => e = .returned (.agg #[.int .i64 3, .int .i64 0, .string (⟨#[97, 110, 110]⟩ : ByteArray)]) ∧ Below w'.heap.size w' w'') := ⟨fun w' hb => by
  exact Show_calls exC lnF ⟨3, 0, ⟨#[97, 110, 110]⟩⟩ (some ⟨g17, 0, none⟩) 2 (some ⟨g21, 0, none⟩) 1 w' (hG7.below hb) (Kd.yI HC1 hb) (Nat.le_refl _) (Kd.yI HCT hb) (by
   have h := xR none 0 0 exC 4 lnF (show_ok fC 4 lnF voF).1
   rw [sF] at h
   exact h)⟩
 have HSR : yC (∀ (w' : World), Below W7.heap.size W7 w' → Calls Tryz.prog 12 #[.agg #[.int .i64 5, .int .i64 0, .int .i64 0, .string (⟨#[32]⟩ : ByteArray), .slice (some ⟨g21, 0, none⟩) 1 1], .slice (some ⟨g17, 0, none⟩) 2 2] w' fun e w'' => e = .returned (.agg #[.int .i64 3, .int .i64 0, .string (⟨#[108, 101, 101]⟩ : ByteArray)]) ∧ Below w'.heap.size w' w'') := ⟨fun w' hb => by
  exact Show_calls exC lnR ⟨3, 0, ⟨#[108, 101, 101]⟩⟩ (some ⟨g17, 0, none⟩) 2 (some ⟨g21, 0, none⟩) 1 w' (hG7.below hb) (Kd.yI HC1 hb) (Nat.le_refl _) (Kd.yI HCT hb) (by
   have h := xR none 0 0 exC 4 lnR (show_ok fC 4 lnR voR).1
   rw [sR] at h
   exact h)⟩
 have HSB : yC (∀ (w' : World), Below W7.heap.size W7 w' → Calls Tryz.prog 12 #[.agg #[.int .i64 6, .int .i64 0, .int .i64 0, .string (⟨#[44]⟩ : ByteArray), .slice (some ⟨g28, 0, none⟩) 2 2], .slice (some ⟨g17, 0, none⟩) 2 2] w' fun e w'' => e = .returned (.agg #[.int .i64 3, .int .i64 0, .string (⟨#[97, 110, 110, 44, 108, 101, 101]⟩ : ByteArray)]) ∧ Below w'.heap.size w' w'') := ⟨fun w' hb => by
  exact Show_calls exC lnB ⟨3, 0, ⟨#[97, 110, 110, 44, 108, 101, 101]⟩⟩ (some ⟨g17, 0, none⟩) 2 (some ⟨g28, 0, none⟩) 2 w' (hG7.below hb) (Kd.yI HC1 hb) (Nat.le_refl _) (Kd.yI HCB hb) (by
   have h := xR none 0 0 exC 4 lnB (show_ok fC 4 lnB voB).1
   rw [sB] at h
   exact h)⟩
 have HPa : yC (∀ (w' : World), Below W7.heap.size W7 w' → Calls Tryz.prog 11 #[.slice A14 2 c14, .agg #[.int .i64 2, .int .i64 0, .int .i64 1, .string (⟨#[]⟩ : ByteArray), .slice none 0 0], .agg #[.slice (some ⟨g17, 0, none⟩) 2 2, .int .i64 2, .int .i64 12300000, .string (⟨#[]⟩ : ByteArray)]] w' fun e w'' => gotOut (some ⟨g17, 0, none⟩) 2 exC (some la) w' w'' e) := ⟨fun w' hb => by
  have h := puts_all exA (by decide) 4 lnS voS exC ⟨2, 12300000, ⟨#[]⟩⟩ fC
  rw [pa] at h
  exact put_calls exA exC lnS ⟨2, 12300000, ⟨#[]⟩⟩ _ h A14 c14 (some ⟨g17, 0, none⟩) 2 none 0 w' (hG7.below hb) hc14 (Kd.yI HC0 hb) (Nat.le_refl _) (Kd.yI HC1 hb) (Nat.le_refl _) (Kd.C_nil _ _)⟩
 have HPb : yC (∀ (w' : World), Below W7.heap.size W7 w' → Calls Tryz.prog 11 #[.slice A14 2 c14, .agg #[.int .i64 2, .int .i64 0, .int .i64 1, .string (⟨#[]⟩ : ByteArray), .slice none 0 0], .agg #[.slice (some ⟨g17, 0, none⟩) 2 2, .int .i64 2, .int .i64 12400000, .string (⟨#[]⟩ : ByteArray)]] w' fun e w'' => gotOut (some ⟨g17, 0, none⟩) 2 exC (some lb) w' w'' e) := ⟨fun w' hb => by
  have h := puts_all exA (by decide) 4 lnS voS exC ⟨2, 12400000, ⟨#[]⟩⟩ fC
  rw [pb] at h
  exact put_calls exA exC lnS ⟨2, 12400000, ⟨#[]⟩⟩ _ h A14 c14 (some ⟨g17, 0, none⟩) 2 none 0 w' (hG7.below hb) hc14 (Kd.yI HC0 hb) (Nat.le_refl _) (Kd.yI HC1 hb) (Nat.le_refl _) (Kd.C_nil _ _)⟩
 have HPc : yC (∀ (w' : World), Below W7.heap.size W7 w' → Calls Tryz.prog 11 #[.slice A14 2 c14, .agg #[.int .i64 4, .int .i64 0, .int .i64 0, .string (⟨#[32]⟩ : ByteArray), .slice (some ⟨g21, 0, none⟩) 1 1], .agg #[.slice (some ⟨g17, 0, none⟩) 2 2, .int .i64 3, .int .i64 0, .string (⟨#[98, 111, 98]⟩ : ByteArray)]] w' fun e w'' => gotOut (some ⟨g17, 0, none⟩) 2 exC (some lc) w' w'' e) := ⟨fun w' hb => by
  have h := puts_all exA (by decide) 4 lnF voF exC ⟨3, 0, ⟨#[98, 111, 98]⟩⟩ fC
  rw [pc] at h
  exact put_calls exA exC lnF ⟨3, 0, ⟨#[98, 111, 98]⟩⟩ _ h A14 c14 (some ⟨g17, 0, none⟩) 2 (some ⟨g21, 0, none⟩) 1 w' (hG7.below hb) hc14 (Kd.yI HC0 hb) (Nat.le_refl _) (Kd.yI HC1 hb) (Nat.le_refl _) (Kd.yI HCT hb)⟩
 have HPd : yC (∀ (w' : World), Below W7.heap.size W7 w' → Calls Tryz.prog 11 #[.slice A14 2 c14, .agg #[.int .i64 5, .int .i64 0, .int .i64 0, .string (⟨#[32]⟩ : ByteArray), .slice (some ⟨g21, 0, none⟩) 1 1], .agg #[.slice (some ⟨g17, 0, none⟩) 2 2, .int .i64 0, .int .i64 0, .string (⟨#[]⟩ : ByteArray)]] w' fun e w'' => gotOut (some ⟨g17, 0, none⟩) 2 exC (some ld) w' w'' e) := ⟨fun w' hb => by
  have h := puts_all exA (by decide) 4 lnR voR exC ⟨0, 0, ⟨#[]⟩⟩ fC
  rw [pd] at h
  exact put_calls exA exC lnR ⟨0, 0, ⟨#[]⟩⟩ _ h A14 c14 (some ⟨g17, 0, none⟩) 2 (some ⟨g21, 0, none⟩) 1 w' (hG7.below hb) hc14 (Kd.yI HC0 hb) (Nat.le_refl _) (Kd.yI HC1 hb) (Nat.le_refl _) (Kd.yI HCT hb)⟩
 have HPe : yC (∀ (w' : World), Below W7.heap.size W7 w' → Calls Tryz.prog 11 #[.slice A14 2 c14, .agg #[.int .i64 6, .int .i64 0, .int .i64 0, .string (⟨#[44]⟩ : ByteArray), .slice (some ⟨g28, 0, none⟩) 2 2], .agg #[.slice (some ⟨g17, 0, none⟩) 2 2, .int .i64 3, .int .i64 0, .string (⟨#[98, 111, 98]⟩ : ByteArray)]] w' fun e w'' => gotOut (some ⟨g17, 0, none⟩) 2 exC (some le) w' w'' e) := ⟨fun w' hb => by
  have h := puts_all exA (by decide) 4 lnB voB exC ⟨3, 0, ⟨#[98, 111, 98]⟩⟩ fC
  rw [pe] at h
  exact put_calls exA exC lnB ⟨3, 0, ⟨#[98, 111, 98]⟩⟩ _ h A14 c14 (some ⟨g17, 0, none⟩) 2 (some ⟨g28, 0, none⟩) 2 w' (hG7.below hb) hc14 (Kd.yI HC0 hb) (Nat.le_refl _) (Kd.yI HC1 hb) (Nat.le_refl _) (Kd.yI HCB hb)⟩
 have HPf : yC (∀ (w' : World), Below W7.heap.size W7 w' → Calls Tryz.prog 11 #[.slice A14 2 c14, .agg #[.int .i64 3, .int .i64 0, .int .i64 1, .string (⟨#[]⟩ : ByteArray), .slice none 0 0], .agg #[.slice (some ⟨g17, 0, none⟩) 2 2, .int .i64 3, .int .i64 0, .string (⟨#[49, 50, 46, 52, 48]⟩ : ByteArray)]] w' fun e w'' => gotOut (some ⟨g17, 0, none⟩) 2 exC (none) w' w'' e) := ⟨fun w' hb => by
  have h := puts_all exA (by decide) 4 lnW voW exC ⟨3, 0, ⟨#[49, 50, 46, 52, 48]⟩⟩ fC
  rw [pf] at h
  exact put_calls exA exC lnW ⟨3, 0, ⟨#[49, 50, 46, 52, 48]⟩⟩ _ h A14 c14 (some ⟨g17, 0, none⟩) 2 none 0 w' (hG7.below hb) hc14 (Kd.yI HC0 hb) (Nat.le_refl _) (Kd.yI HC1 hb) (Nat.le_refl _) (Kd.C_nil _ _)⟩
 have HPg : yC (∀ (w' : World), Below W7.heap.size W7 w' → Calls Tryz.prog 11 #[.slice A14 2 c14, .agg #[.int .i64 6, .int .i64 0, .int .i64 0, .string (⟨#[44]⟩ : ByteArray), .slice (some ⟨g28, 0, none⟩) 2 2], .agg #[.slice (some ⟨g17, 0, none⟩) 2 2, .int .i64 3, .int .i64 0, .string (⟨#[97, 32, 98, 44, 99]⟩ : ByteArray)]] w' fun e w'' => gotOut (some ⟨g17, 0, none⟩) 2 exC (none) w' w'' e) := ⟨fun w' hb => by
  have h := puts_all exA (by decide) 4 lnB voB exC ⟨3, 0, ⟨#[97, 32, 98, 44, 99]⟩⟩ fC
  rw [pg] at h
  exact put_calls exA exC lnB ⟨3, 0, ⟨#[97, 32, 98, 44, 99]⟩⟩ _ h A14 c14 (some ⟨g17, 0, none⟩) 2 (some ⟨g28, 0, none⟩) 2 w' (hG7.below hb) hc14 (Kd.yI HC0 hb) (Nat.le_refl _) (Kd.yI HC1 hb) (Nat.le_refl _) (Kd.yI HCB hb)⟩
 have HAB : yC (∀ (w' : World), Below W7.heap.size W7 w' → Calls Tryz.prog 14 #[.agg #[.int .i64 6, .int .i64 0, .int .i64 0, .string (⟨#[44]⟩ : ByteArray), .slice (some ⟨g28, 0, none⟩) 2 2]] w' fun e w'' => ∃ v, e = .returned v ∧ Kd.R (Kd.int .i64) 3 w'' w'.heap.size (fun _ => True) v [1] ∧ Below w'.heap.size w' w'') := ⟨fun w' hb => by
  have h := Attrs_all 4 lnB (by decide) wB (some ⟨g28, 0, none⟩) 2 w' (Nat.le_refl _) (Kd.yI HCB hb)
  rw [aB] at h
  exact h⟩
 have HC1' := yC.mk HC1
 clear HC0 HC1 HCT HCB hc14 hG7
 go_upto_region 8 with (fail)
 try simp only [Reg.SF]
 refine Reg.det [Reg.k 30 (.slice A14 2 c14), Reg.k 31 (.agg #[.int .i64 2, .int .i64 0, .int .i64 1, .string (⟨#[]⟩ : ByteArray), .slice none 0 0]), Reg.k 32 (.bool true), Reg.k 33 (.bool false), Reg.k 34 (.bool false), Reg.k 35 (.slice A14 2 c14), Reg.k 36 (.agg #[.int .i64 3, .int .i64 0, .int .i64 1, .string (⟨#[]⟩ : ByteArray), .slice none 0 0]), Reg.k 37 (.bool true), Reg.k 38 (.bool false), Reg.k 39 (.bool false), Reg.k 40 (.bool false), Reg.k 41 (.slice A14 2 c14), Reg.k 42 (.agg #[.int .i64 6, .int .i64 0, .int .i64 0, .string (⟨#[44]⟩ : ByteArray), .slice (some ⟨g28, 0, none⟩) 2 2]), Reg.k 43 (.bool true), Reg.k 44 (.bool false), Reg.k 45 (.bool false), Reg.k 46 (.bool false), Reg.k 47 (.slice A14 2 c14), Reg.k 48 (.agg #[.int .i64 0, .int .i64 0, .int .i64 0, .string (⟨#[]⟩ : ByteArray), .slice none 0 0]), Reg.k 49 (.bool false), Reg.k 50 (.bool false), Reg.k 51 (.bool false), Reg.k 52 (.slice A14 2 c14), Reg.k 53 (.slice (some ⟨g17, 0, none⟩) 2 2), Reg.k 54 (.bool true), Reg.k 55 (.bool false), Reg.k 56 (.bool false), Reg.k 57 (.bool false), Reg.k 58 (.slice A14 2 c14), Reg.k 59 (.bool false), Reg.k 60 (.bool false)] [] 211 rfl (by kernel_rfl) (by kernel_rfl) ?s11 ?_
 case s11 =>
  intro iq oq pq hiq hoq hpq ρ ev W S hE hO ec ef hB hft hΦ
  have e1 : ev (.tmp 1) = .slice A14 2 c14 := hO 1 rfl
  have e2 : ev (.tmp 2) = .slice (some ⟨g17, 0, none⟩) 2 2 := hO 2 rfl
  have e3 : ev (.tmp 3) = .pointer (some ⟨g3, 0, none⟩) := hO 3 rfl
  have e4 : ev (.tmp 4) = .pointer (some ⟨g4, 0, none⟩) := hO 4 rfl
  have e8 : ev (.tmp 8) = .pointer (some ⟨g8, 0, none⟩) := hO 8 rfl
  have mg3_0 := HX.pc hB 6 0 (.int .i64 2) rfl rfl
  have mg3_1 := HX.pc hB 6 1 (.int .i64 0) rfl rfl
  have mg3_2 := HX.pc hB 6 2 (.int .i64 1) rfl rfl
  have mg3_3 := HX.pc hB 6 3 (.string (⟨#[]⟩ : ByteArray)) rfl rfl
  have mg3_4 := HX.pc hB 6 4 (.slice none 0 0) rfl rfl
  have mg4_0 := HX.pc hB 5 0 (.int .i64 3) rfl rfl
  have mg4_1 := HX.pc hB 5 1 (.int .i64 0) rfl rfl
  have mg4_2 := HX.pc hB 5 2 (.int .i64 1) rfl rfl
  have mg4_3 := HX.pc hB 5 3 (.string (⟨#[]⟩ : ByteArray)) rfl rfl
  have mg4_4 := HX.pc hB 5 4 (.slice none 0 0) rfl rfl
  have mg8_0 := HX.pc hB 0 0 (.int .i64 6) rfl rfl
  have mg8_1 := HX.pc hB 0 1 (.int .i64 0) rfl rfl
  have mg8_2 := HX.pc hB 0 2 (.int .i64 0) rfl rfl
  have mg8_3 := HX.pc hB 0 3 (.string (⟨#[44]⟩ : ByteArray)) rfl rfl
  have mg8_4 := HX.pc hB 0 4 (.slice (some ⟨g28, 0, none⟩) 2 2) rfl rfl
  simp only [Reg.SV] at hE
  obtain ⟨e30, e31, e32, e33, e34, e35, e36, e37, e38, e39, e40, e41, e42, e43, e44, e45, e46, e47, e48, e49, e50, e51, e52, e53, e54, e55, e56, e57, e58, e59, e60, _⟩ := hE
  rcases Reg.lt31 hiq with rfl | rfl | rfl | rfl | rfl | rfl | rfl | rfl | rfl | rfl | rfl | rfl | rfl | rfl | rfl | rfl | rfl | rfl | rfl | rfl | rfl | rfl | rfl | rfl | rfl | rfl | rfl | rfl | rfl | rfl | rfl
  all_goals (cases hoq; cases hpq)
  rotate_left 29
  ·refine Reg.D.cc (g := 30) (args := #[.slice A14 2 c14, .slice none 0 0]) hB (by go_simp; try rfl) ?_
   exact HF0.out W (yD HB7.out hB)
  rotate_right 29
  rotate_left 24
  ·refine Reg.D.cc (g := 30) (args := #[.slice A14 2 c14, .slice (some ⟨g17, 0, none⟩) 2 2]) hB (by go_simp; try rfl) ?_
   exact HF1.out W (yD HB7.out hB)
  rotate_right 24
  rotate_left 19
  ·refine Reg.D.cc (g := 27) (args := #[.slice A14 2 c14, .agg #[.int .i64 0, .int .i64 0, .int .i64 0, .string (⟨#[]⟩ : ByteArray), .slice none 0 0]]) hB (by go_simp; try rfl) ?_
   exact HV0.out W (yD HB7.out hB)
  rotate_right 19
  rotate_left 13
  ·refine Reg.D.cc (g := 27) (args := #[.slice A14 2 c14, .agg #[.int .i64 6, .int .i64 0, .int .i64 0, .string (⟨#[44]⟩ : ByteArray), .slice (some ⟨g28, 0, none⟩) 2 2]]) hB (by go_simp; try rfl) ?_
   exact HVB.out W (yD HB7.out hB)
  rotate_right 13
  rotate_left 7
  ·refine Reg.D.cc (g := 27) (args := #[.slice A14 2 c14, .agg #[.int .i64 3, .int .i64 0, .int .i64 1, .string (⟨#[]⟩ : ByteArray), .slice none 0 0]]) hB (by go_simp; try rfl) ?_
   exact HVW.out W (yD HB7.out hB)
  rotate_right 7
  rotate_left 2
  ·refine Reg.D.cc (g := 27) (args := #[.slice A14 2 c14, .agg #[.int .i64 2, .int .i64 0, .int .i64 1, .string (⟨#[]⟩ : ByteArray), .slice none 0 0]]) hB (by go_simp; try rfl) ?_
   exact HVS.out W (yD HB7.out hB)
  rotate_right 2
  all_goals try exact Reg.D.mv hB
  all_goals exact Reg.D.cx hB
 intro ρ W8 S hB hft hap hΦ
 simp only [Reg.SV, Reg.SF, Nat.reduceAdd]
 have HX := HX.cl hB
 replace RA := yC.mk (Kd.yJ RA.out hB)
 replace HB7 := yC.mk (yD HB7.out hB)
 clear hΦ hft hap 
 go_upto_region 10 with (fail)
 try simp only [Reg.SF]
 refine Reg.det [Reg.k 61 (.agg #[.int .i64 2, .int .i64 0, .int .i64 1, .string (⟨#[]⟩ : ByteArray), .slice none 0 0]), Reg.k 62 (.slice (some ⟨g17, 0, none⟩) 2 2), Reg.k 63 (.agg #[.int .i64 2, .int .i64 12300000, .string (⟨#[]⟩ : ByteArray)]), Reg.k 64 (.agg #[.int .i64 2, .int .i64 12300000, .string (⟨#[]⟩ : ByteArray)]), Reg.k 65 (.bool false), Reg.k 66 (.bool false), Reg.k 67 (.agg #[.int .i64 3, .int .i64 0, .int .i64 1, .string (⟨#[]⟩ : ByteArray), .slice none 0 0]), Reg.k 68 (.slice (some ⟨g17, 0, none⟩) 2 2), Reg.k 69 (.agg #[.int .i64 3, .int .i64 0, .string (⟨#[49, 50, 46, 51]⟩ : ByteArray)]), Reg.k 70 (.agg #[.int .i64 3, .int .i64 0, .string (⟨#[49, 50, 46, 51]⟩ : ByteArray)]), Reg.k 71 (.bool false), Reg.k 72 (.bool false), Reg.k 73 (.bool false), Reg.k 74 (.agg #[.int .i64 4, .int .i64 0, .int .i64 0, .string (⟨#[32]⟩ : ByteArray), .slice (some ⟨g21, 0, none⟩) 1 1]), Reg.k 75 (.slice (some ⟨g17, 0, none⟩) 2 2), Reg.k 76 (.agg #[.int .i64 3, .int .i64 0, .string (⟨#[97, 110, 110]⟩ : ByteArray)]), Reg.k 77 (.agg #[.int .i64 3, .int .i64 0, .string (⟨#[97, 110, 110]⟩ : ByteArray)]), Reg.k 78 (.bool false), Reg.k 79 (.bool false), Reg.k 80 (.bool false), Reg.k 81 (.agg #[.int .i64 5, .int .i64 0, .int .i64 0, .string (⟨#[32]⟩ : ByteArray), .slice (some ⟨g21, 0, none⟩) 1 1]), Reg.k 82 (.slice (some ⟨g17, 0, none⟩) 2 2), Reg.k 83 (.agg #[.int .i64 3, .int .i64 0, .string (⟨#[108, 101, 101]⟩ : ByteArray)]), Reg.k 84 (.agg #[.int .i64 3, .int .i64 0, .string (⟨#[108, 101, 101]⟩ : ByteArray)]), Reg.k 85 (.bool false), Reg.k 86 (.bool false), Reg.k 87 (.bool false), Reg.k 88 (.agg #[.int .i64 6, .int .i64 0, .int .i64 0, .string (⟨#[44]⟩ : ByteArray), .slice (some ⟨g28, 0, none⟩) 2 2]), Reg.k 89 (.slice (some ⟨g17, 0, none⟩) 2 2), Reg.k 90 (.agg #[.int .i64 3, .int .i64 0, .string (⟨#[97, 110, 110, 44, 108, 101, 101]⟩ : ByteArray)]), Reg.k 91 (.agg #[.int .i64 3, .int .i64 0, .string (⟨#[97, 110, 110, 44, 108, 101, 101]⟩ : ByteArray)]), Reg.k 92 (.bool false), Reg.k 93 (.bool false)] [] 211 rfl (by kernel_rfl) (by kernel_rfl) ?s12 ?_
 case s12 =>
  intro iq oq pq hiq hoq hpq ρ ev W S hE hO ec ef hB hft hΦ
  have e2 : ev (.tmp 2) = .slice (some ⟨g17, 0, none⟩) 2 2 := hO 2 rfl
  have e3 : ev (.tmp 3) = .pointer (some ⟨g3, 0, none⟩) := hO 3 rfl
  have e4 : ev (.tmp 4) = .pointer (some ⟨g4, 0, none⟩) := hO 4 rfl
  have e6 : ev (.tmp 6) = .pointer (some ⟨g6, 0, none⟩) := hO 6 rfl
  have e7 : ev (.tmp 7) = .pointer (some ⟨g7, 0, none⟩) := hO 7 rfl
  have e8 : ev (.tmp 8) = .pointer (some ⟨g8, 0, none⟩) := hO 8 rfl
  have mg3_0 := HX.pc hB 6 0 (.int .i64 2) rfl rfl
  have mg3_1 := HX.pc hB 6 1 (.int .i64 0) rfl rfl
  have mg3_2 := HX.pc hB 6 2 (.int .i64 1) rfl rfl
  have mg3_3 := HX.pc hB 6 3 (.string (⟨#[]⟩ : ByteArray)) rfl rfl
  have mg3_4 := HX.pc hB 6 4 (.slice none 0 0) rfl rfl
  have mg4_0 := HX.pc hB 5 0 (.int .i64 3) rfl rfl
  have mg4_1 := HX.pc hB 5 1 (.int .i64 0) rfl rfl
  have mg4_2 := HX.pc hB 5 2 (.int .i64 1) rfl rfl
  have mg4_3 := HX.pc hB 5 3 (.string (⟨#[]⟩ : ByteArray)) rfl rfl
  have mg4_4 := HX.pc hB 5 4 (.slice none 0 0) rfl rfl
  have mg6_0 := HX.pc hB 3 0 (.int .i64 4) rfl rfl
  have mg6_1 := HX.pc hB 3 1 (.int .i64 0) rfl rfl
  have mg6_2 := HX.pc hB 3 2 (.int .i64 0) rfl rfl
  have mg6_3 := HX.pc hB 3 3 (.string (⟨#[32]⟩ : ByteArray)) rfl rfl
  have mg6_4 := HX.pc hB 3 4 (.slice (some ⟨g21, 0, none⟩) 1 1) rfl rfl
  have mg7_0 := HX.pc hB 2 0 (.int .i64 5) rfl rfl
  have mg7_1 := HX.pc hB 2 1 (.int .i64 0) rfl rfl
  have mg7_2 := HX.pc hB 2 2 (.int .i64 0) rfl rfl
  have mg7_3 := HX.pc hB 2 3 (.string (⟨#[32]⟩ : ByteArray)) rfl rfl
  have mg7_4 := HX.pc hB 2 4 (.slice (some ⟨g21, 0, none⟩) 1 1) rfl rfl
  have mg8_0 := HX.pc hB 0 0 (.int .i64 6) rfl rfl
  have mg8_1 := HX.pc hB 0 1 (.int .i64 0) rfl rfl
  have mg8_2 := HX.pc hB 0 2 (.int .i64 0) rfl rfl
  have mg8_3 := HX.pc hB 0 3 (.string (⟨#[44]⟩ : ByteArray)) rfl rfl
  have mg8_4 := HX.pc hB 0 4 (.slice (some ⟨g28, 0, none⟩) 2 2) rfl rfl
  simp only [Reg.SV] at hE
  obtain ⟨e61, e62, e63, e64, e65, e66, e67, e68, e69, e70, e71, e72, e73, e74, e75, e76, e77, e78, e79, e80, e81, e82, e83, e84, e85, e86, e87, e88, e89, e90, e91, e92, e93, _⟩ := hE
  rcases Reg.lt33 hiq with rfl | rfl | rfl | rfl | rfl | rfl | rfl | rfl | rfl | rfl | rfl | rfl | rfl | rfl | rfl | rfl | rfl | rfl | rfl | rfl | rfl | rfl | rfl | rfl | rfl | rfl | rfl | rfl | rfl | rfl | rfl | rfl | rfl
  all_goals (cases hoq; cases hpq)
  rotate_left 30
  ·refine Reg.D.cc (g := 29) (args := #[.string (⟨#[97, 110, 110, 44, 108, 101, 101]⟩ : ByteArray)]) hB (by go_simp; try rfl) ?_
   exact chapmanref16_Texted.calls (⟨#[97, 110, 110, 44, 108, 101, 101]⟩ : ByteArray) 3 0 (⟨#[97, 110, 110, 44, 108, 101, 101]⟩ : ByteArray) W rfl
  rotate_right 30
  rotate_left 29
  ·refine Reg.D.cc (g := 12) (args := #[.agg #[.int .i64 6, .int .i64 0, .int .i64 0, .string (⟨#[44]⟩ : ByteArray), .slice (some ⟨g28, 0, none⟩) 2 2], .slice (some ⟨g17, 0, none⟩) 2 2]) hB (by go_simp; try rfl) ?_
   exact HSB.out W (yD HB7.out hB)
  rotate_right 29
  rotate_left 23
  ·refine Reg.D.cc (g := 29) (args := #[.string (⟨#[108, 101, 101]⟩ : ByteArray)]) hB (by go_simp; try rfl) ?_
   exact chapmanref16_Texted.calls (⟨#[108, 101, 101]⟩ : ByteArray) 3 0 (⟨#[108, 101, 101]⟩ : ByteArray) W rfl
  rotate_right 23
  rotate_left 22
  ·refine Reg.D.cc (g := 12) (args := #[.agg #[.int .i64 5, .int .i64 0, .int .i64 0, .string (⟨#[32]⟩ : ByteArray), .slice (some ⟨g21, 0, none⟩) 1 1], .slice (some ⟨g17, 0, none⟩) 2 2]) hB (by go_simp; try rfl) ?_
   exact HSR.out W (yD HB7.out hB)
  rotate_right 22
  rotate_left 16
  ·refine Reg.D.cc (g := 29) (args := #[.string (⟨#[97, 110, 110]⟩ : ByteArray)]) hB (by go_simp; try rfl) ?_
   exact chapmanref16_Texted.calls (⟨#[97, 110, 110]⟩ : ByteArray) 3 0 (⟨#[97, 110, 110]⟩ : ByteArray) W rfl
  rotate_right 16
  rotate_left 15
  ·refine Reg.D.cc (g := 12) (args := #[.agg #[.int .i64 4, .int .i64 0, .int .i64 0, .string (⟨#[32]⟩ : ByteArray), .slice (some ⟨g21, 0, none⟩) 1 1], .slice (some ⟨g17, 0, none⟩) 2 2]) hB (by go_simp; try rfl) ?_
   exact HSF.out W (yD HB7.out hB)
  rotate_right 15
  rotate_left 9
  ·refine Reg.D.cc (g := 29) (args := #[.string (⟨#[49, 50, 46, 51]⟩ : ByteArray)]) hB (by go_simp; try rfl) ?_
   exact chapmanref16_Texted.calls (⟨#[49, 50, 46, 51]⟩ : ByteArray) 3 0 (⟨#[49, 50, 46, 51]⟩ : ByteArray) W rfl
  rotate_right 9
  rotate_left 8
  ·refine Reg.D.cc (g := 12) (args := #[.agg #[.int .i64 3, .int .i64 0, .int .i64 1, .string (⟨#[]⟩ : ByteArray), .slice none 0 0], .slice (some ⟨g17, 0, none⟩) 2 2]) hB (by go_simp; try rfl) ?_
   exact HSW.out W (yD HB7.out hB)
  rotate_right 8
  rotate_left 2
  ·refine Reg.D.cc (g := 12) (args := #[.agg #[.int .i64 2, .int .i64 0, .int .i64 1, .string (⟨#[]⟩ : ByteArray), .slice none 0 0], .slice (some ⟨g17, 0, none⟩) 2 2]) hB (by go_simp; try rfl) ?_
   exact HSS.out W (yD HB7.out hB)
  rotate_right 2
  all_goals try exact Reg.D.mv hB
  all_goals exact Reg.D.cx hB
 intro ρ W10 S hB hft hap hΦ
 simp only [Reg.SV, Reg.SF, Nat.reduceAdd]
 have HX := HX.cl hB
 replace RA := yC.mk (Kd.yJ RA.out hB)
 replace HB7 := yC.mk (yD HB7.out hB)
 clear hΦ hft hap 
 go_upto_region 12 with (fail)
 try simp only [Reg.SF]
 refine Reg.det [Reg.k 94 (.slice A14 2 c14), Reg.k 95 (.agg #[.int .i64 2, .int .i64 0, .int .i64 1, .string (⟨#[]⟩ : ByteArray), .slice none 0 0]), Reg.k 96 (.slice (some ⟨g17, 0, none⟩) 2 2), Reg.k 97 (.agg #[.int .i64 2, .int .i64 12300000, .string (⟨#[]⟩ : ByteArray)]), Reg.k 98 (.agg #[.slice (some ⟨g17, 0, none⟩) 2 2, .int .i64 2, .int .i64 12300000, .string (⟨#[]⟩ : ByteArray)]), (some 99, gotDv 99 (some ⟨g17, 0, none⟩) 2 exC la), (some 9, Reg.Dv.box 9 36 (fun _ => #[.slice none 0 0, .int .i64 0]) [] true), (none, Reg.Dv.box 9 36 (fun l => (l.headD undef).cells) [99] false)] [(6, 7)] 211 rfl (by kernel_rfl) (by kernel_rfl) ?s13 ?_
 case s13 =>
  intro iq oq pq hiq hoq hpq ρ ev W S hE hO ec ef hB hft hΦ
  have e1 : ev (.tmp 1) = .slice A14 2 c14 := hO 1 rfl
  have e2 : ev (.tmp 2) = .slice (some ⟨g17, 0, none⟩) 2 2 := hO 2 rfl
  have e3 : ev (.tmp 3) = .pointer (some ⟨g3, 0, none⟩) := hO 3 rfl
  have mg3_0 := HX.pc hB 6 0 (.int .i64 2) rfl rfl
  have mg3_1 := HX.pc hB 6 1 (.int .i64 0) rfl rfl
  have mg3_2 := HX.pc hB 6 2 (.int .i64 1) rfl rfl
  have mg3_3 := HX.pc hB 6 3 (.string (⟨#[]⟩ : ByteArray)) rfl rfl
  have mg3_4 := HX.pc hB 6 4 (.slice none 0 0) rfl rfl
  simp only [Reg.SV, yX] at hE
  obtain ⟨e94, e95, e96, e97, e98, e99, e9, _⟩ := hE
  rcases Reg.lt8 hiq with rfl | rfl | rfl | rfl | rfl | rfl | rfl | rfl
  all_goals (cases hoq; cases hpq)
  rotate_left 7
  ·obtain ⟨A99, c99, h99, _⟩ := hΦ 5 _ rfl rfl rfl
   replace h99 : ρ 99 = .agg #[.slice A99 2 c99, .int .i64 0] := h99
   exact Reg.DStep.fill (us := [99]) (cs := fun l => (l.headD undef).cells) 6 (by decide) 36 (.tmp 9) (.tmp 99) rfl (by first | exact .inl rfl | exact .inr ⟨_, _, _, rfl, rfl, (by assumption)⟩) hB e9 (by rw [e99]; show ρ 99 = .agg (Value.cells (ρ 99)); rw [h99]; rfl) (hΦ 6 _ rfl rfl rfl) (by show _ = some (Value.cells (ρ 99)).size; rw [h99]; exact info36s) (by show _ = (Value.cells (ρ 99)).size; rw [h99]; rfl) (by show ((Value.cells (ρ 99)).toList.all _) = true; rw [h99]; rfl)
  rotate_right 7
  rotate_left 6
  ·refine Reg.D.box hB ?_
   go_simp
   try rfl
  rotate_right 6
  rotate_left 5
  ·refine Reg.D.call (g := 11) (args := #[.slice A14 2 c14, .agg #[.int .i64 2, .int .i64 0, .int .i64 1, .string (⟨#[]⟩ : ByteArray), .slice none 0 0], .agg #[.slice (some ⟨g17, 0, none⟩) 2 2, .int .i64 2, .int .i64 12300000, .string (⟨#[]⟩ : ByteArray)]]) (by go_simp; try rfl) ?_
   exact got_step hB (HPa.out W (yD HB7.out hB))
  rotate_right 5
  all_goals try exact Reg.D.mv hB
  all_goals exact Reg.D.cx hB
 intro ρ W12 S hB hft hap hΦ
 simp only [Reg.SV, yX, Reg.SF, Nat.reduceAdd]
 obtain ⟨A99, c99, e99, q99⟩ := hΦ 5 _ rfl rfl
 replace e99 : ρ 99 = .agg #[.slice A99 2 c99, .int .i64 0] := e99
 have hr99 : Row2 (some ⟨g17, 0, none⟩) 2 exC W12 w.heap.size A99 c99 la := q99.imp id (fun h => Kd.xE (Kd.xJ h HX.out.below.size) (fun _ _ => trivial))
 obtain ⟨g9, e9, s9, hg9, _, b9⟩ := hΦ 7 _ rfl rfl
 replace e9 : ρ 9 = .pointer (some ⟨g9, 0, none⟩) := e9
 replace b9 : W12.heap[g9]? = some (.cells (Value.cells (ρ 99)) 36 (0, 0)) := b9
 rw [e99] at b9
 try simp only [e99, e9]
 replace b9 : W12.heap[g9]? = some (.cells #[.slice A99 2 c99, .int .i64 0] 36 (0, 0)) := b9
 have HX := yC.mk (HX.out.join (Bxs.one hB hg9 b9))
 replace RA := yC.mk (Kd.yJ RA.out hB)
 replace HB7 := yC.mk (yD HB7.out hB)
 clear hΦ hft hap 
 have HRa := yC.mk (hr99)
 go_upto_region 13 with (fail)
 try simp only [Reg.SF]
 refine Reg.det [Reg.k 100 (.slice A14 2 c14), Reg.k 101 (.agg #[.int .i64 2, .int .i64 0, .int .i64 1, .string (⟨#[]⟩ : ByteArray), .slice none 0 0]), Reg.k 102 (.slice (some ⟨g17, 0, none⟩) 2 2), Reg.k 103 (.agg #[.int .i64 2, .int .i64 12400000, .string (⟨#[]⟩ : ByteArray)]), Reg.k 104 (.agg #[.slice (some ⟨g17, 0, none⟩) 2 2, .int .i64 2, .int .i64 12400000, .string (⟨#[]⟩ : ByteArray)]), (some 105, gotDv 105 (some ⟨g17, 0, none⟩) 2 exC lb), (some 10, Reg.Dv.box 10 36 (fun _ => #[.slice none 0 0, .int .i64 0]) [] true), (none, Reg.Dv.box 10 36 (fun l => (l.headD undef).cells) [105] false)] [(6, 7)] 211 rfl (by kernel_rfl) (by kernel_rfl) ?s14 ?_
 case s14 =>
  intro iq oq pq hiq hoq hpq ρ ev W S hE hO ec ef hB hft hΦ
  have e1 : ev (.tmp 1) = .slice A14 2 c14 := hO 1 rfl
  have e2 : ev (.tmp 2) = .slice (some ⟨g17, 0, none⟩) 2 2 := hO 2 rfl
  have e3 : ev (.tmp 3) = .pointer (some ⟨g3, 0, none⟩) := hO 3 rfl
  have mg3_0 := HX.pc hB 7 0 (.int .i64 2) rfl rfl
  have mg3_1 := HX.pc hB 7 1 (.int .i64 0) rfl rfl
  have mg3_2 := HX.pc hB 7 2 (.int .i64 1) rfl rfl
  have mg3_3 := HX.pc hB 7 3 (.string (⟨#[]⟩ : ByteArray)) rfl rfl
  have mg3_4 := HX.pc hB 7 4 (.slice none 0 0) rfl rfl
  simp only [Reg.SV, yX] at hE
  obtain ⟨e100, e101, e102, e103, e104, e105, e10, _⟩ := hE
  rcases Reg.lt8 hiq with rfl | rfl | rfl | rfl | rfl | rfl | rfl | rfl
  all_goals (cases hoq; cases hpq)
  rotate_left 7
  ·obtain ⟨A105, c105, h105, _⟩ := hΦ 5 _ rfl rfl rfl
   replace h105 : ρ 105 = .agg #[.slice A105 2 c105, .int .i64 0] := h105
   exact Reg.DStep.fill (us := [105]) (cs := fun l => (l.headD undef).cells) 6 (by decide) 36 (.tmp 10) (.tmp 105) rfl (by first | exact .inl rfl | exact .inr ⟨_, _, _, rfl, rfl, (by assumption)⟩) hB e10 (by rw [e105]; show ρ 105 = .agg (Value.cells (ρ 105)); rw [h105]; rfl) (hΦ 6 _ rfl rfl rfl) (by show _ = some (Value.cells (ρ 105)).size; rw [h105]; exact info36s) (by show _ = (Value.cells (ρ 105)).size; rw [h105]; rfl) (by show ((Value.cells (ρ 105)).toList.all _) = true; rw [h105]; rfl)
  rotate_right 7
  rotate_left 6
  ·refine Reg.D.box hB ?_
   go_simp
   try rfl
  rotate_right 6
  rotate_left 5
  ·refine Reg.D.call (g := 11) (args := #[.slice A14 2 c14, .agg #[.int .i64 2, .int .i64 0, .int .i64 1, .string (⟨#[]⟩ : ByteArray), .slice none 0 0], .agg #[.slice (some ⟨g17, 0, none⟩) 2 2, .int .i64 2, .int .i64 12400000, .string (⟨#[]⟩ : ByteArray)]]) (by go_simp; try rfl) ?_
   exact got_step hB (HPb.out W (yD HB7.out hB))
  rotate_right 5
  all_goals try exact Reg.D.mv hB
  all_goals exact Reg.D.cx hB
 intro ρ W13 S hB hft hap hΦ
 simp only [Reg.SV, yX, Reg.SF, Nat.reduceAdd]
 obtain ⟨A105, c105, e105, q105⟩ := hΦ 5 _ rfl rfl
 replace e105 : ρ 105 = .agg #[.slice A105 2 c105, .int .i64 0] := e105
 have hr105 : Row2 (some ⟨g17, 0, none⟩) 2 exC W13 w.heap.size A105 c105 lb := q105.imp id (fun h => Kd.xE (Kd.xJ h HX.out.below.size) (fun _ _ => trivial))
 obtain ⟨g10, e10, s10, hg10, _, b10⟩ := hΦ 7 _ rfl rfl
 replace e10 : ρ 10 = .pointer (some ⟨g10, 0, none⟩) := e10
 replace b10 : W13.heap[g10]? = some (.cells (Value.cells (ρ 105)) 36 (0, 0)) := b10
 rw [e105] at b10
 try simp only [e105, e10]
 replace b10 : W13.heap[g10]? = some (.cells #[.slice A105 2 c105, .int .i64 0] 36 (0, 0)) := b10
 have HX := yC.mk (HX.out.join (Bxs.one hB hg10 b10))
 replace RA := yC.mk (Kd.yJ RA.out hB)
 replace HB7 := yC.mk (yD HB7.out hB)
 replace HRa := yC.mk (Row2.below HRa.out hB)
 clear hΦ hft hap 
 have HRb := yC.mk (hr105)
 go_upto_region 14 with (fail)
 try simp only [Reg.SF]
 refine Reg.det [Reg.k 106 (.slice A14 2 c14), Reg.k 107 (.agg #[.int .i64 4, .int .i64 0, .int .i64 0, .string (⟨#[32]⟩ : ByteArray), .slice (some ⟨g21, 0, none⟩) 1 1]), Reg.k 108 (.slice (some ⟨g17, 0, none⟩) 2 2), Reg.k 109 (.agg #[.int .i64 3, .int .i64 0, .string (⟨#[98, 111, 98]⟩ : ByteArray)]), Reg.k 110 (.agg #[.slice (some ⟨g17, 0, none⟩) 2 2, .int .i64 3, .int .i64 0, .string (⟨#[98, 111, 98]⟩ : ByteArray)]), (some 111, gotDv 111 (some ⟨g17, 0, none⟩) 2 exC lc), (some 11, Reg.Dv.box 11 36 (fun _ => #[.slice none 0 0, .int .i64 0]) [] true), (none, Reg.Dv.box 11 36 (fun l => (l.headD undef).cells) [111] false)] [(6, 7)] 211 rfl (by kernel_rfl) (by kernel_rfl) ?s15 ?_
 case s15 =>
  intro iq oq pq hiq hoq hpq ρ ev W S hE hO ec ef hB hft hΦ
  have e1 : ev (.tmp 1) = .slice A14 2 c14 := hO 1 rfl
  have e2 : ev (.tmp 2) = .slice (some ⟨g17, 0, none⟩) 2 2 := hO 2 rfl
  have e6 : ev (.tmp 6) = .pointer (some ⟨g6, 0, none⟩) := hO 6 rfl
  have mg6_0 := HX.pc hB 5 0 (.int .i64 4) rfl rfl
  have mg6_1 := HX.pc hB 5 1 (.int .i64 0) rfl rfl
  have mg6_2 := HX.pc hB 5 2 (.int .i64 0) rfl rfl
  have mg6_3 := HX.pc hB 5 3 (.string (⟨#[32]⟩ : ByteArray)) rfl rfl
  have mg6_4 := HX.pc hB 5 4 (.slice (some ⟨g21, 0, none⟩) 1 1) rfl rfl
  simp only [Reg.SV, yX] at hE
  obtain ⟨e106, e107, e108, e109, e110, e111, e11, _⟩ := hE
  rcases Reg.lt8 hiq with rfl | rfl | rfl | rfl | rfl | rfl | rfl | rfl
  all_goals (cases hoq; cases hpq)
  rotate_left 7
  ·obtain ⟨A111, c111, h111, _⟩ := hΦ 5 _ rfl rfl rfl
   replace h111 : ρ 111 = .agg #[.slice A111 2 c111, .int .i64 0] := h111
   exact Reg.DStep.fill (us := [111]) (cs := fun l => (l.headD undef).cells) 6 (by decide) 36 (.tmp 11) (.tmp 111) rfl (by first | exact .inl rfl | exact .inr ⟨_, _, _, rfl, rfl, (by assumption)⟩) hB e11 (by rw [e111]; show ρ 111 = .agg (Value.cells (ρ 111)); rw [h111]; rfl) (hΦ 6 _ rfl rfl rfl) (by show _ = some (Value.cells (ρ 111)).size; rw [h111]; exact info36s) (by show _ = (Value.cells (ρ 111)).size; rw [h111]; rfl) (by show ((Value.cells (ρ 111)).toList.all _) = true; rw [h111]; rfl)
  rotate_right 7
  rotate_left 6
  ·refine Reg.D.box hB ?_
   go_simp
   try rfl
  rotate_right 6
  rotate_left 5
  ·refine Reg.D.call (g := 11) (args := #[.slice A14 2 c14, .agg #[.int .i64 4, .int .i64 0, .int .i64 0, .string (⟨#[32]⟩ : ByteArray), .slice (some ⟨g21, 0, none⟩) 1 1], .agg #[.slice (some ⟨g17, 0, none⟩) 2 2, .int .i64 3, .int .i64 0, .string (⟨#[98, 111, 98]⟩ : ByteArray)]]) (by go_simp; try rfl) ?_
   exact got_step hB (HPc.out W (yD HB7.out hB))
  rotate_right 5
  rotate_left 3
  ·refine Reg.D.cc (g := 29) (args := #[.string (⟨#[98, 111, 98]⟩ : ByteArray)]) hB (by go_simp; try rfl) ?_
   exact chapmanref16_Texted.calls (⟨#[98, 111, 98]⟩ : ByteArray) 3 0 (⟨#[98, 111, 98]⟩ : ByteArray) W rfl
  rotate_right 3
  all_goals try exact Reg.D.mv hB
  all_goals exact Reg.D.cx hB
 intro ρ W14 S hB hft hap hΦ
 simp only [Reg.SV, yX, Reg.SF, Nat.reduceAdd]
 obtain ⟨A111, c111, e111, q111⟩ := hΦ 5 _ rfl rfl
 replace e111 : ρ 111 = .agg #[.slice A111 2 c111, .int .i64 0] := e111
 have hr111 : Row2 (some ⟨g17, 0, none⟩) 2 exC W14 w.heap.size A111 c111 lc := q111.imp id (fun h => Kd.xE (Kd.xJ h HX.out.below.size) (fun _ _ => trivial))
 obtain ⟨g11, e11, s11, hg11, _, b11⟩ := hΦ 7 _ rfl rfl
 replace e11 : ρ 11 = .pointer (some ⟨g11, 0, none⟩) := e11
 replace b11 : W14.heap[g11]? = some (.cells (Value.cells (ρ 111)) 36 (0, 0)) := b11
 rw [e111] at b11
 try simp only [e111, e11]
 replace b11 : W14.heap[g11]? = some (.cells #[.slice A111 2 c111, .int .i64 0] 36 (0, 0)) := b11
 have HX := yC.mk (HX.out.join (Bxs.one hB hg11 b11))
 replace RA := yC.mk (Kd.yJ RA.out hB)
 replace HB7 := yC.mk (yD HB7.out hB)
 replace HRa := yC.mk (Row2.below HRa.out hB)
 replace HRb := yC.mk (Row2.below HRb.out hB)
 clear hΦ hft hap 
 have HRc := yC.mk (hr111)
 go_upto_region 15 with (fail)
 try simp only [Reg.SF]
 refine Reg.det [Reg.k 112 (.slice A14 2 c14), Reg.k 113 (.agg #[.int .i64 5, .int .i64 0, .int .i64 0, .string (⟨#[32]⟩ : ByteArray), .slice (some ⟨g21, 0, none⟩) 1 1]), Reg.k 114 (.slice (some ⟨g17, 0, none⟩) 2 2), Reg.k 115 (.agg #[.slice (some ⟨g17, 0, none⟩) 2 2, .int .i64 0, .int .i64 0, .string (⟨#[]⟩ : ByteArray)]), (some 116, gotDv 116 (some ⟨g17, 0, none⟩) 2 exC ld), (some 12, Reg.Dv.box 12 36 (fun _ => #[.slice none 0 0, .int .i64 0]) [] true), (none, Reg.Dv.box 12 36 (fun l => (l.headD undef).cells) [116] false)] [(5, 6)] 211 rfl (by kernel_rfl) (by kernel_rfl) ?s16 ?_
 case s16 =>
  intro iq oq pq hiq hoq hpq ρ ev W S hE hO ec ef hB hft hΦ
  have e1 : ev (.tmp 1) = .slice A14 2 c14 := hO 1 rfl
  have e2 : ev (.tmp 2) = .slice (some ⟨g17, 0, none⟩) 2 2 := hO 2 rfl
  have e7 : ev (.tmp 7) = .pointer (some ⟨g7, 0, none⟩) := hO 7 rfl
  have mg7_0 := HX.pc hB 5 0 (.int .i64 5) rfl rfl
  have mg7_1 := HX.pc hB 5 1 (.int .i64 0) rfl rfl
  have mg7_2 := HX.pc hB 5 2 (.int .i64 0) rfl rfl
  have mg7_3 := HX.pc hB 5 3 (.string (⟨#[32]⟩ : ByteArray)) rfl rfl
  have mg7_4 := HX.pc hB 5 4 (.slice (some ⟨g21, 0, none⟩) 1 1) rfl rfl
  simp only [Reg.SV, yX] at hE
  obtain ⟨e112, e113, e114, e115, e116, e12, _⟩ := hE
  rcases Reg.lt7 hiq with rfl | rfl | rfl | rfl | rfl | rfl | rfl
  all_goals (cases hoq; cases hpq)
  rotate_left 6
  ·obtain ⟨A116, c116, h116, _⟩ := hΦ 4 _ rfl rfl rfl
   replace h116 : ρ 116 = .agg #[.slice A116 2 c116, .int .i64 0] := h116
   exact Reg.DStep.fill (us := [116]) (cs := fun l => (l.headD undef).cells) 5 (by decide) 36 (.tmp 12) (.tmp 116) rfl (by first | exact .inl rfl | exact .inr ⟨_, _, _, rfl, rfl, (by assumption)⟩) hB e12 (by rw [e116]; show ρ 116 = .agg (Value.cells (ρ 116)); rw [h116]; rfl) (hΦ 5 _ rfl rfl rfl) (by show _ = some (Value.cells (ρ 116)).size; rw [h116]; exact info36s) (by show _ = (Value.cells (ρ 116)).size; rw [h116]; rfl) (by show ((Value.cells (ρ 116)).toList.all _) = true; rw [h116]; rfl)
  rotate_right 6
  rotate_left 5
  ·refine Reg.D.box hB ?_
   go_simp
   try rfl
  rotate_right 5
  rotate_left 4
  ·refine Reg.D.call (g := 11) (args := #[.slice A14 2 c14, .agg #[.int .i64 5, .int .i64 0, .int .i64 0, .string (⟨#[32]⟩ : ByteArray), .slice (some ⟨g21, 0, none⟩) 1 1], .agg #[.slice (some ⟨g17, 0, none⟩) 2 2, .int .i64 0, .int .i64 0, .string (⟨#[]⟩ : ByteArray)]]) (by go_simp; try rfl) ?_
   exact got_step hB (HPd.out W (yD HB7.out hB))
  rotate_right 4
  all_goals try exact Reg.D.mv hB
  all_goals exact Reg.D.cx hB
 intro ρ W15 S hB hft hap hΦ
 simp only [Reg.SV, yX, Reg.SF, Nat.reduceAdd]
 obtain ⟨A116, c116, e116, q116⟩ := hΦ 4 _ rfl rfl
 replace e116 : ρ 116 = .agg #[.slice A116 2 c116, .int .i64 0] := e116
 have hr116 : Row2 (some ⟨g17, 0, none⟩) 2 exC W15 w.heap.size A116 c116 ld := q116.imp id (fun h => Kd.xE (Kd.xJ h HX.out.below.size) (fun _ _ => trivial))
 obtain ⟨g12, e12, s12, hg12, _, b12⟩ := hΦ 6 _ rfl rfl
 replace e12 : ρ 12 = .pointer (some ⟨g12, 0, none⟩) := e12
 replace b12 : W15.heap[g12]? = some (.cells (Value.cells (ρ 116)) 36 (0, 0)) := b12
 rw [e116] at b12
 try simp only [e116, e12]
 replace b12 : W15.heap[g12]? = some (.cells #[.slice A116 2 c116, .int .i64 0] 36 (0, 0)) := b12
 have HX := yC.mk (HX.out.join (Bxs.one hB hg12 b12))
 replace RA := yC.mk (Kd.yJ RA.out hB)
 replace HB7 := yC.mk (yD HB7.out hB)
 replace HRa := yC.mk (Row2.below HRa.out hB)
 replace HRb := yC.mk (Row2.below HRb.out hB)
 replace HRc := yC.mk (Row2.below HRc.out hB)
 clear hΦ hft hap 
 have HRd := yC.mk (hr116)
 go_upto_region 16 with (fail)
 try simp only [Reg.SF]
 refine Reg.det [Reg.k 117 (.slice A14 2 c14), Reg.k 118 (.agg #[.int .i64 6, .int .i64 0, .int .i64 0, .string (⟨#[44]⟩ : ByteArray), .slice (some ⟨g28, 0, none⟩) 2 2]), Reg.k 119 (.slice (some ⟨g17, 0, none⟩) 2 2), Reg.k 120 (.agg #[.int .i64 3, .int .i64 0, .string (⟨#[98, 111, 98]⟩ : ByteArray)]), Reg.k 121 (.agg #[.slice (some ⟨g17, 0, none⟩) 2 2, .int .i64 3, .int .i64 0, .string (⟨#[98, 111, 98]⟩ : ByteArray)]), (some 122, gotDv 122 (some ⟨g17, 0, none⟩) 2 exC le), (some 13, Reg.Dv.box 13 36 (fun _ => #[.slice none 0 0, .int .i64 0]) [] true), (none, Reg.Dv.box 13 36 (fun l => (l.headD undef).cells) [122] false)] [(6, 7)] 211 rfl (by kernel_rfl) (by kernel_rfl) ?s17 ?_
 case s17 =>
  intro iq oq pq hiq hoq hpq ρ ev W S hE hO ec ef hB hft hΦ
  have e1 : ev (.tmp 1) = .slice A14 2 c14 := hO 1 rfl
  have e2 : ev (.tmp 2) = .slice (some ⟨g17, 0, none⟩) 2 2 := hO 2 rfl
  have e8 : ev (.tmp 8) = .pointer (some ⟨g8, 0, none⟩) := hO 8 rfl
  have mg8_0 := HX.pc hB 4 0 (.int .i64 6) rfl rfl
  have mg8_1 := HX.pc hB 4 1 (.int .i64 0) rfl rfl
  have mg8_2 := HX.pc hB 4 2 (.int .i64 0) rfl rfl
  have mg8_3 := HX.pc hB 4 3 (.string (⟨#[44]⟩ : ByteArray)) rfl rfl
  have mg8_4 := HX.pc hB 4 4 (.slice (some ⟨g28, 0, none⟩) 2 2) rfl rfl
  simp only [Reg.SV, yX] at hE
  obtain ⟨e117, e118, e119, e120, e121, e122, e13, _⟩ := hE
  rcases Reg.lt8 hiq with rfl | rfl | rfl | rfl | rfl | rfl | rfl | rfl
  all_goals (cases hoq; cases hpq)
  rotate_left 7
  ·obtain ⟨A122, c122, h122, _⟩ := hΦ 5 _ rfl rfl rfl
   replace h122 : ρ 122 = .agg #[.slice A122 2 c122, .int .i64 0] := h122
   exact Reg.DStep.fill (us := [122]) (cs := fun l => (l.headD undef).cells) 6 (by decide) 36 (.tmp 13) (.tmp 122) rfl (by first | exact .inl rfl | exact .inr ⟨_, _, _, rfl, rfl, (by assumption)⟩) hB e13 (by rw [e122]; show ρ 122 = .agg (Value.cells (ρ 122)); rw [h122]; rfl) (hΦ 6 _ rfl rfl rfl) (by show _ = some (Value.cells (ρ 122)).size; rw [h122]; exact info36s) (by show _ = (Value.cells (ρ 122)).size; rw [h122]; rfl) (by show ((Value.cells (ρ 122)).toList.all _) = true; rw [h122]; rfl)
  rotate_right 7
  rotate_left 6
  ·refine Reg.D.box hB ?_
   go_simp
   try rfl
  rotate_right 6
  rotate_left 5
  ·refine Reg.D.call (g := 11) (args := #[.slice A14 2 c14, .agg #[.int .i64 6, .int .i64 0, .int .i64 0, .string (⟨#[44]⟩ : ByteArray), .slice (some ⟨g28, 0, none⟩) 2 2], .agg #[.slice (some ⟨g17, 0, none⟩) 2 2, .int .i64 3, .int .i64 0, .string (⟨#[98, 111, 98]⟩ : ByteArray)]]) (by go_simp; try rfl) ?_
   exact got_step hB (HPe.out W (yD HB7.out hB))
  rotate_right 5
  rotate_left 3
  ·refine Reg.D.cc (g := 29) (args := #[.string (⟨#[98, 111, 98]⟩ : ByteArray)]) hB (by go_simp; try rfl) ?_
   exact chapmanref16_Texted.calls (⟨#[98, 111, 98]⟩ : ByteArray) 3 0 (⟨#[98, 111, 98]⟩ : ByteArray) W rfl
  rotate_right 3
  all_goals try exact Reg.D.mv hB
  all_goals exact Reg.D.cx hB
 intro ρ W16 S hB hft hap hΦ
 simp only [Reg.SV, yX, Reg.SF, Nat.reduceAdd]
 obtain ⟨A122, c122, e122, q122⟩ := hΦ 5 _ rfl rfl
 replace e122 : ρ 122 = .agg #[.slice A122 2 c122, .int .i64 0] := e122
 have hr122 : Row2 (some ⟨g17, 0, none⟩) 2 exC W16 w.heap.size A122 c122 le := q122.imp id (fun h => Kd.xE (Kd.xJ h HX.out.below.size) (fun _ _ => trivial))
 obtain ⟨g13, e13, s13, hg13, _, b13⟩ := hΦ 7 _ rfl rfl
 replace e13 : ρ 13 = .pointer (some ⟨g13, 0, none⟩) := e13
 replace b13 : W16.heap[g13]? = some (.cells (Value.cells (ρ 122)) 36 (0, 0)) := b13
 rw [e122] at b13
 try simp only [e122, e13]
 replace b13 : W16.heap[g13]? = some (.cells #[.slice A122 2 c122, .int .i64 0] 36 (0, 0)) := b13
 have HX := yC.mk (HX.out.join (Bxs.one hB hg13 b13))
 replace RA := yC.mk (Kd.yJ RA.out hB)
 replace HB7 := yC.mk (yD HB7.out hB)
 replace HRa := yC.mk (Row2.below HRa.out hB)
 replace HRb := yC.mk (Row2.below HRb.out hB)
 replace HRc := yC.mk (Row2.below HRc.out hB)
 replace HRd := yC.mk (Row2.below HRd.out hB)
 clear hΦ hft hap 
 have HRe := yC.mk (hr122)
 go_upto_region 17 with (fail)
 try simp only [Reg.SF]
 refine Reg.det [Reg.k 123 (.pointer (some ⟨g10, 0, none⟩)), Reg.k 124 (.slice A105 2 c105), Reg.k 125 (.int .i64 2), Reg.k 126 (.bool false), Reg.k 127 (.bool false), Reg.k 128 (.pointer (some ⟨g11, 0, none⟩)), Reg.k 129 (.slice A111 2 c111), Reg.k 130 (.int .i64 2), Reg.k 131 (.bool false), Reg.k 132 (.bool false), Reg.k 133 (.bool false), Reg.k 134 (.pointer (some ⟨g12, 0, none⟩)), Reg.k 135 (.slice A116 2 c116), Reg.k 136 (.int .i64 2), Reg.k 137 (.bool false), Reg.k 138 (.bool false), Reg.k 139 (.bool false), Reg.k 140 (.pointer (some ⟨g13, 0, none⟩)), Reg.k 141 (.slice A122 2 c122), Reg.k 142 (.int .i64 2), Reg.k 143 (.bool false), Reg.k 144 (.bool false)] [] 211 rfl (by kernel_rfl) (by kernel_rfl) ?s18 ?_
 case s18 =>
  intro iq oq pq hiq hoq hpq ρ ev W S hE hO ec ef hB hft hΦ
  have e10 : ev (.tmp 10) = .pointer (some ⟨g10, 0, none⟩) := hO 10 rfl
  have e11 : ev (.tmp 11) = .pointer (some ⟨g11, 0, none⟩) := hO 11 rfl
  have e12 : ev (.tmp 12) = .pointer (some ⟨g12, 0, none⟩) := hO 12 rfl
  have e13 : ev (.tmp 13) = .pointer (some ⟨g13, 0, none⟩) := hO 13 rfl
  have mg10_0 := HX.pc hB 3 0 (.slice A105 2 c105) rfl rfl
  have mg11_0 := HX.pc hB 2 0 (.slice A111 2 c111) rfl rfl
  have mg12_0 := HX.pc hB 1 0 (.slice A116 2 c116) rfl rfl
  have mg13_0 := HX.pc hB 0 0 (.slice A122 2 c122) rfl rfl
  simp only [Reg.SV, yX] at hE
  obtain ⟨e123, e124, e125, e126, e127, e128, e129, e130, e131, e132, e133, e134, e135, e136, e137, e138, e139, e140, e141, e142, e143, e144, _⟩ := hE
  rcases Reg.lt22 hiq with rfl | rfl | rfl | rfl | rfl | rfl | rfl | rfl | rfl | rfl | rfl | rfl | rfl | rfl | rfl | rfl | rfl | rfl | rfl | rfl | rfl | rfl
  all_goals (cases hoq; cases hpq)
  all_goals try exact Reg.D.mv hB
  all_goals exact Reg.D.cx hB
 intro ρ W17 S hB hft hap hΦ
 simp only [Reg.SV, yX, Reg.SF, Nat.reduceAdd]
 have HX := HX.cl hB
 replace RA := yC.mk (Kd.yJ RA.out hB)
 replace HB7 := yC.mk (yD HB7.out hB)
 replace HRa := yC.mk (Row2.below HRa.out hB)
 replace HRb := yC.mk (Row2.below HRb.out hB)
 replace HRc := yC.mk (Row2.below HRc.out hB)
 replace HRd := yC.mk (Row2.below HRd.out hB)
 replace HRe := yC.mk (Row2.below HRe.out hB)
 clear hΦ hft hap 
 have hc1 : Kd.C k39 W17 (some ⟨g17, 0, none⟩) 2 exC := Kd.yI HC1'.out HB7.out
 have ha := HRa.out.has (Nat.le_refl 2) hc1
 obtain ⟨adb, eab, xb0, xb1, xb2⟩ := at_T39 (HRb.out.has (Nat.le_refl 2) hc1).2 0 (by decide) (by decide)
 cases eab
 obtain ⟨qb, hqb⟩ : ∃ q, adb.add (0 * 3) = q := ⟨_, rfl⟩
 replace xb0 : W17.cell? qb = some (.int .i64 2) := by rw [← hqb]; exact xb0
 replace xb1 : W17.cell? ⟨qb.block, qb.off + 1, none⟩ = some (.int .i64 12400000) := by rw [← hqb]; exact xb1
 replace xb2 : W17.cell? ⟨qb.block, qb.off + 2, none⟩ = some (.string (⟨#[]⟩ : ByteArray)) := by rw [← hqb]; exact xb2
 obtain ⟨adc, eac, xc0, xc1, xc2⟩ := at_T39 (HRc.out.has (Nat.le_refl 2) hc1).2 1 (by decide) (by decide)
 cases eac
 obtain ⟨qc, hqc⟩ : ∃ q, adc.add (1 * 3) = q := ⟨_, rfl⟩
 replace xc0 : W17.cell? qc = some (.int .i64 3) := by rw [← hqc]; exact xc0
 replace xc1 : W17.cell? ⟨qc.block, qc.off + 1, none⟩ = some (.int .i64 0) := by rw [← hqc]; exact xc1
 replace xc2 : W17.cell? ⟨qc.block, qc.off + 2, none⟩ = some (.string (⟨#[98, 111, 98, 32, 108, 101, 101]⟩ : ByteArray)) := by rw [← hqc]; exact xc2
 obtain ⟨add, ead, xd0, xd1, xd2⟩ := at_T39 (HRd.out.has (Nat.le_refl 2) hc1).2 1 (by decide) (by decide)
 cases ead
 obtain ⟨qd, hqd⟩ : ∃ q, add.add (1 * 3) = q := ⟨_, rfl⟩
 replace xd0 : W17.cell? qd = some (.int .i64 3) := by rw [← hqd]; exact xd0
 replace xd1 : W17.cell? ⟨qd.block, qd.off + 1, none⟩ = some (.int .i64 0) := by rw [← hqd]; exact xd1
 replace xd2 : W17.cell? ⟨qd.block, qd.off + 2, none⟩ = some (.string (⟨#[97, 110, 110]⟩ : ByteArray)) := by rw [← hqd]; exact xd2
 obtain ⟨ade, eae, xe0, xe1, xe2⟩ := at_T39 (HRe.out.has (Nat.le_refl 2) hc1).2 1 (by decide) (by decide)
 cases eae
 obtain ⟨qe, hqe⟩ : ∃ q, ade.add (1 * 3) = q := ⟨_, rfl⟩
 replace xe0 : W17.cell? qe = some (.int .i64 3) := by rw [← hqe]; exact xe0
 replace xe1 : W17.cell? ⟨qe.block, qe.off + 1, none⟩ = some (.int .i64 0) := by rw [← hqe]; exact xe1
 replace xe2 : W17.cell? ⟨qe.block, qe.off + 2, none⟩ = some (.string (⟨#[98, 111, 98]⟩ : ByteArray)) := by rw [← hqe]; exact xe2
 go_upto_region 19 with (fail)
 try simp only [Reg.SF]
 refine Reg.det [Reg.k 145 (.pointer (some ⟨g9, 0, none⟩)), Reg.k 146 (.slice A99 2 c99), Reg.k 147 (.slice (some ⟨g17, 0, none⟩) 2 2), Reg.k 148 (.bool true), Reg.k 149 (.bool false), Reg.k 150 (.bool false), Reg.k 151 (.pointer (some ⟨g10, 0, none⟩)), Reg.k 152 (.slice (some adb) 2 c105), Reg.k 153 (.pointer (some qb)), Reg.k 154 (.pointer (some ⟨qb.block, qb.off + 1, none⟩)), Reg.k 155 (.int .i64 12400000), Reg.k 156 (.bool false), Reg.k 157 (.bool false), Reg.k 158 (.bool false), Reg.k 159 (.pointer (some ⟨g11, 0, none⟩)), Reg.k 160 (.slice (some adc) 2 c111), Reg.k 161 (.pointer (some qc)), Reg.k 162 (.agg #[.int .i64 3, .int .i64 0, .string (⟨#[98, 111, 98, 32, 108, 101, 101]⟩ : ByteArray)]), Reg.k 163 (.agg #[.int .i64 3, .int .i64 0, .string (⟨#[98, 111, 98, 32, 108, 101, 101]⟩ : ByteArray)]), Reg.k 164 (.bool false), Reg.k 165 (.bool false), Reg.k 166 (.bool false), Reg.k 167 (.pointer (some ⟨g12, 0, none⟩)), Reg.k 168 (.slice (some add) 2 c116), Reg.k 169 (.pointer (some qd)), Reg.k 170 (.agg #[.int .i64 3, .int .i64 0, .string (⟨#[97, 110, 110]⟩ : ByteArray)]), Reg.k 171 (.agg #[.int .i64 3, .int .i64 0, .string (⟨#[97, 110, 110]⟩ : ByteArray)]), Reg.k 172 (.bool false), Reg.k 173 (.bool false), Reg.k 174 (.bool false), Reg.k 175 (.pointer (some ⟨g13, 0, none⟩)), Reg.k 176 (.slice (some ade) 2 c122), Reg.k 177 (.pointer (some qe)), Reg.k 178 (.agg #[.int .i64 3, .int .i64 0, .string (⟨#[98, 111, 98]⟩ : ByteArray)]), Reg.k 179 (.agg #[.int .i64 3, .int .i64 0, .string (⟨#[98, 111, 98]⟩ : ByteArray)]), Reg.k 180 (.bool false), Reg.k 181 (.bool false)] [] 211 rfl (by kernel_rfl) (by kernel_rfl) ?s19 ?_
 case s19 =>
  intro iq oq pq hiq hoq hpq ρ ev W S hE hO ec ef hB hft hΦ
  have e2 : ev (.tmp 2) = .slice (some ⟨g17, 0, none⟩) 2 2 := hO 2 rfl
  have e9 : ev (.tmp 9) = .pointer (some ⟨g9, 0, none⟩) := hO 9 rfl
  have e10 : ev (.tmp 10) = .pointer (some ⟨g10, 0, none⟩) := hO 10 rfl
  have e11 : ev (.tmp 11) = .pointer (some ⟨g11, 0, none⟩) := hO 11 rfl
  have e12 : ev (.tmp 12) = .pointer (some ⟨g12, 0, none⟩) := hO 12 rfl
  have e13 : ev (.tmp 13) = .pointer (some ⟨g13, 0, none⟩) := hO 13 rfl
  have mg9_0 := HX.pc hB 4 0 (.slice A99 2 c99) rfl rfl
  have mg10_0 := HX.pc hB 3 0 (.slice (some adb) 2 c105) rfl rfl
  have mg11_0 := HX.pc hB 2 0 (.slice (some adc) 2 c111) rfl rfl
  have mg12_0 := HX.pc hB 1 0 (.slice (some add) 2 c116) rfl rfl
  have mg13_0 := HX.pc hB 0 0 (.slice (some ade) 2 c122) rfl rfl
  have xb0' := yB hB xb0
  have xb1' := yB hB xb1
  have xb2' := yB hB xb2
  have xc0' := yB hB xc0
  have xc1' := yB hB xc1
  have xc2' := yB hB xc2
  have xd0' := yB hB xd0
  have xd1' := yB hB xd1
  have xd2' := yB hB xd2
  have xe0' := yB hB xe0
  have xe1' := yB hB xe1
  have xe2' := yB hB xe2
  simp only [Reg.SV, yX] at hE
  obtain ⟨e145, e146, e147, e148, e149, e150, e151, e152, e153, e154, e155, e156, e157, e158, e159, e160, e161, e162, e163, e164, e165, e166, e167, e168, e169, e170, e171, e172, e173, e174, e175, e176, e177, e178, e179, e180, e181, _⟩ := hE
  rcases Reg.lt37 hiq with rfl | rfl | rfl | rfl | rfl | rfl | rfl | rfl | rfl | rfl | rfl | rfl | rfl | rfl | rfl | rfl | rfl | rfl | rfl | rfl | rfl | rfl | rfl | rfl | rfl | rfl | rfl | rfl | rfl | rfl | rfl | rfl | rfl | rfl | rfl | rfl | rfl
  all_goals (cases hoq; cases hpq)
  rotate_left 34
  ·refine Reg.D.cc (g := 29) (args := #[.string (⟨#[98, 111, 98]⟩ : ByteArray)]) hB (by go_simp; try rfl) ?_
   exact chapmanref16_Texted.calls (⟨#[98, 111, 98]⟩ : ByteArray) 3 0 (⟨#[98, 111, 98]⟩ : ByteArray) W rfl
  rotate_right 34
  rotate_left 26
  ·refine Reg.D.cc (g := 29) (args := #[.string (⟨#[97, 110, 110]⟩ : ByteArray)]) hB (by go_simp; try rfl) ?_
   exact chapmanref16_Texted.calls (⟨#[97, 110, 110]⟩ : ByteArray) 3 0 (⟨#[97, 110, 110]⟩ : ByteArray) W rfl
  rotate_right 26
  rotate_left 18
  ·refine Reg.D.cc (g := 29) (args := #[.string (⟨#[98, 111, 98, 32, 108, 101, 101]⟩ : ByteArray)]) hB (by go_simp; try rfl) ?_
   exact chapmanref16_Texted.calls (⟨#[98, 111, 98, 32, 108, 101, 101]⟩ : ByteArray) 3 0 (⟨#[98, 111, 98, 32, 108, 101, 101]⟩ : ByteArray) W rfl
  rotate_right 18
  rotate_left 3
  ·refine Reg.D.cc (g := 13) (args := #[.slice A99 2 c99, .slice (some ⟨g17, 0, none⟩) 2 2]) hB (by go_simp; try rfl) ?_
   exact (chapmanref16_Same.calls 5 A99 c99 la (some ⟨g17, 0, none⟩) 2 exC true W (Kd.yI ha.2 hB) ha.1 (Kd.yI hc1 hB) (Nat.le_refl _) same_a).mono (fun e w' h => ⟨h.1, below_of_drawn h.2⟩)
  rotate_right 3
  all_goals try exact Reg.D.mv hB
  all_goals (refine Reg.D.cv hB ?_; go_simp; try (first | done | rfl | (rw [← hqb]; rfl) | (rw [← hqc]; rfl) | (rw [← hqd]; rfl) | (rw [← hqe]; rfl) | (simp; done)))
 intro ρ W19 S hB hft hap hΦ
 simp only [Reg.SV, yX, Reg.SF, Nat.reduceAdd]
 have HX := HX.cl hB
 replace RA := yC.mk (Kd.yJ RA.out hB)
 replace HB7 := yC.mk (yD HB7.out hB)
 replace HRa := yC.mk (Row2.below HRa.out hB)
 replace HRb := yC.mk (Row2.below HRb.out hB)
 replace HRc := yC.mk (Row2.below HRc.out hB)
 replace HRd := yC.mk (Row2.below HRd.out hB)
 replace HRe := yC.mk (Row2.below HRe.out hB)
 clear hΦ hft hap 
 go_upto_region 21 with (fail)
 try simp only [Reg.SF]
 refine Reg.det [Reg.k 182 (.slice A14 2 c14), Reg.k 183 (.agg #[.int .i64 3, .int .i64 0, .int .i64 1, .string (⟨#[]⟩ : ByteArray), .slice none 0 0]), Reg.k 184 (.slice (some ⟨g17, 0, none⟩) 2 2), Reg.k 185 (.agg #[.int .i64 3, .int .i64 0, .string (⟨#[49, 50, 46, 52, 48]⟩ : ByteArray)]), Reg.k 186 (.agg #[.slice (some ⟨g17, 0, none⟩) 2 2, .int .i64 3, .int .i64 0, .string (⟨#[49, 50, 46, 52, 48]⟩ : ByteArray)]), Reg.k 187 (.agg #[.slice none 0 0, .int .i64 160]), Reg.k 188 (.int .i64 160), Reg.k 189 (.bool true), Reg.k 190 (.bool true), Reg.k 191 (.slice A14 2 c14), Reg.k 192 (.agg #[.int .i64 6, .int .i64 0, .int .i64 0, .string (⟨#[44]⟩ : ByteArray), .slice (some ⟨g28, 0, none⟩) 2 2]), Reg.k 193 (.slice (some ⟨g17, 0, none⟩) 2 2), Reg.k 194 (.agg #[.int .i64 3, .int .i64 0, .string (⟨#[97, 32, 98, 44, 99]⟩ : ByteArray)]), Reg.k 195 (.agg #[.slice (some ⟨g17, 0, none⟩) 2 2, .int .i64 3, .int .i64 0, .string (⟨#[97, 32, 98, 44, 99]⟩ : ByteArray)]), Reg.k 196 (.agg #[.slice none 0 0, .int .i64 160]), Reg.k 197 (.int .i64 160), Reg.k 198 (.bool true), Reg.k 199 (.bool true), Reg.k 200 (.bool true), Reg.k 201 (.agg #[.int .i64 6, .int .i64 0, .int .i64 0, .string (⟨#[44]⟩ : ByteArray), .slice (some ⟨g28, 0, none⟩) 2 2]), (some 202, Reg.Dv.row 202 (Kd.int .i64) 3 ([1])), Reg.k 203 (.bool true), Reg.k 204 (.bool true), Reg.k 205 (.bool true), Reg.k 206 (.agg #[.int .i64 6, .int .i64 0, .int .i64 0, .string (⟨#[44]⟩ : ByteArray), .slice (some ⟨g28, 0, none⟩) 2 2]), (some 207, Reg.Dv.row 207 (Kd.int .i64) 3 ([1])), Reg.k 208 (.int .i64 1), Reg.k 209 (.bool true), Reg.k 210 (.bool true), Reg.k 0 (.bool true)] [] 211 rfl (by kernel_rfl) (by kernel_rfl) ?s20 ?_
 case s20 =>
  intro iq oq pq hiq hoq hpq ρ ev W S hE hO ec ef hB hft hΦ
  have e1 : ev (.tmp 1) = .slice A14 2 c14 := hO 1 rfl
  have e2 : ev (.tmp 2) = .slice (some ⟨g17, 0, none⟩) 2 2 := hO 2 rfl
  have e4 : ev (.tmp 4) = .pointer (some ⟨g4, 0, none⟩) := hO 4 rfl
  have e8 : ev (.tmp 8) = .pointer (some ⟨g8, 0, none⟩) := hO 8 rfl
  have mg4_0 := HX.pc hB 10 0 (.int .i64 3) rfl rfl
  have mg4_1 := HX.pc hB 10 1 (.int .i64 0) rfl rfl
  have mg4_2 := HX.pc hB 10 2 (.int .i64 1) rfl rfl
  have mg4_3 := HX.pc hB 10 3 (.string (⟨#[]⟩ : ByteArray)) rfl rfl
  have mg4_4 := HX.pc hB 10 4 (.slice none 0 0) rfl rfl
  have mg8_0 := HX.pc hB 5 0 (.int .i64 6) rfl rfl
  have mg8_1 := HX.pc hB 5 1 (.int .i64 0) rfl rfl
  have mg8_2 := HX.pc hB 5 2 (.int .i64 0) rfl rfl
  have mg8_3 := HX.pc hB 5 3 (.string (⟨#[44]⟩ : ByteArray)) rfl rfl
  have mg8_4 := HX.pc hB 5 4 (.slice (some ⟨g28, 0, none⟩) 2 2) rfl rfl
  simp only [Reg.SV, yX] at hE
  obtain ⟨e182, e183, e184, e185, e186, e187, e188, e189, e190, e191, e192, e193, e194, e195, e196, e197, e198, e199, e200, e201, e202, e203, e204, e205, e206, e207, e208, e209, e210, e0, _⟩ := hE
  rcases Reg.lt30 hiq with rfl | rfl | rfl | rfl | rfl | rfl | rfl | rfl | rfl | rfl | rfl | rfl | rfl | rfl | rfl | rfl | rfl | rfl | rfl | rfl | rfl | rfl | rfl | rfl | rfl | rfl | rfl | rfl | rfl | rfl
  all_goals (cases hoq; cases hpq)
  rotate_left 26
  ·obtain ⟨_, _, h207⟩ := Kd.R_slice (hΦ 25 _ rfl rfl rfl)
   replace h207 : ρ 207 = _ := h207
   refine Reg.D.cv hB ?_
   go_simp
   try (first | done | rfl | (simp; done) | (intro h; omega))
  rotate_right 26
  rotate_left 25
  ·refine Reg.D.crow (g := 14) (args := #[.agg #[.int .i64 6, .int .i64 0, .int .i64 0, .string (⟨#[44]⟩ : ByteArray), .slice (some ⟨g28, 0, none⟩) 2 2]]) hB (by go_simp; try rfl) ?_
   exact HAB.out W (yD HB7.out hB)
  rotate_right 25
  rotate_left 21
  ·refine Reg.D.cc (g := 19) (args := #[ρ 202, .int .i64 1]) hB (by go_simp; try rfl) ?_
   have r := hΦ 20 _ rfl rfl rfl
   replace r : Kd.R (Kd.int .i64) 3 W _ _ (ρ 202) [1] := r
   obtain ⟨A, c, e⟩ := Kd.R_slice r
   rw [e] at r ⊢
   exact (chapmanref16_In.calls 5 A c [1] 1 true W (Kd.R_reads' r).2.2 (Kd.R_reads' r).2.1 in_B).mono (fun e w' h => ⟨h.1, below_of_drawn h.2⟩)
  rotate_right 21
  rotate_left 20
  ·refine Reg.D.crow (g := 14) (args := #[.agg #[.int .i64 6, .int .i64 0, .int .i64 0, .string (⟨#[44]⟩ : ByteArray), .slice (some ⟨g28, 0, none⟩) 2 2]]) hB (by go_simp; try rfl) ?_
   exact HAB.out W (yD HB7.out hB)
  rotate_right 20
  rotate_left 14
  ·refine Reg.D.cc (g := 11) (args := #[.slice A14 2 c14, .agg #[.int .i64 6, .int .i64 0, .int .i64 0, .string (⟨#[44]⟩ : ByteArray), .slice (some ⟨g28, 0, none⟩) 2 2], .agg #[.slice (some ⟨g17, 0, none⟩) 2 2, .int .i64 3, .int .i64 0, .string (⟨#[97, 32, 98, 44, 99]⟩ : ByteArray)]]) hB (by go_simp; try rfl) ?_
   exact (HPg.out W (yD HB7.out hB)).mono (fun e w' h => ⟨h.2, h.1⟩)
  rotate_right 14
  rotate_left 12
  ·refine Reg.D.cc (g := 29) (args := #[.string (⟨#[97, 32, 98, 44, 99]⟩ : ByteArray)]) hB (by go_simp; try rfl) ?_
   exact chapmanref16_Texted.calls (⟨#[97, 32, 98, 44, 99]⟩ : ByteArray) 3 0 (⟨#[97, 32, 98, 44, 99]⟩ : ByteArray) W rfl
  rotate_right 12
  rotate_left 5
  ·refine Reg.D.cc (g := 11) (args := #[.slice A14 2 c14, .agg #[.int .i64 3, .int .i64 0, .int .i64 1, .string (⟨#[]⟩ : ByteArray), .slice none 0 0], .agg #[.slice (some ⟨g17, 0, none⟩) 2 2, .int .i64 3, .int .i64 0, .string (⟨#[49, 50, 46, 52, 48]⟩ : ByteArray)]]) hB (by go_simp; try rfl) ?_
   exact (HPf.out W (yD HB7.out hB)).mono (fun e w' h => ⟨h.2, h.1⟩)
  rotate_right 5
  rotate_left 3
  ·refine Reg.D.cc (g := 29) (args := #[.string (⟨#[49, 50, 46, 52, 48]⟩ : ByteArray)]) hB (by go_simp; try rfl) ?_
   exact chapmanref16_Texted.calls (⟨#[49, 50, 46, 52, 48]⟩ : ByteArray) 3 0 (⟨#[49, 50, 46, 52, 48]⟩ : ByteArray) W rfl
  rotate_right 3
  all_goals try exact Reg.D.mv hB
  all_goals exact Reg.D.cx hB
 intro ρ W21 S hB hft hap hΦ
 simp only [Reg.SV, yX, Reg.SF, Nat.reduceAdd]
 have r202 : Kd.R (Kd.int .i64) 3 W21 _ _ (ρ 202) ([1]) := hΦ 20 _ rfl rfl
 obtain ⟨A202, c202, e202⟩ := Kd.R_slice r202
 replace e202 : ρ 202 = .slice A202 1 c202 := e202
 rw [e202] at r202
 replace r202 := Kd.xE (ok' := fun _ => True) (Kd.xJ r202 HX.out.below.size) (fun _ _ => trivial)
 have r207 : Kd.R (Kd.int .i64) 3 W21 _ _ (ρ 207) ([1]) := hΦ 25 _ rfl rfl
 obtain ⟨A207, c207, e207⟩ := Kd.R_slice r207
 replace e207 : ρ 207 = .slice A207 1 c207 := e207
 rw [e207] at r207
 replace r207 := Kd.xE (ok' := fun _ => True) (Kd.xJ r207 HX.out.below.size) (fun _ _ => trivial)
 try simp only [e202, e207]
 have HX := HX.cl hB
 replace RA := yC.mk (Kd.yJ RA.out hB)
 replace HB7 := yC.mk (yD HB7.out hB)
 replace HRa := yC.mk (Row2.below HRa.out hB)
 replace HRb := yC.mk (Row2.below HRb.out hB)
 replace HRc := yC.mk (Row2.below HRc.out hB)
 replace HRd := yC.mk (Row2.below HRd.out hB)
 replace HRe := yC.mk (Row2.below HRe.out hB)
 clear hΦ hft hap 
 go_wp2_with fail
 go_ret
 exact ⟨rfl, HX.out.below⟩
end
section
open Go.RowKit YtmebkjdknhknbaaGreatDoor.G
def DigTo (n : Int) (s : ByteArray) : Prop := ∀ w, Calls Tryz.prog 58 #[.int .i64 n] w fun e w' => e = .returned (.string s) ∧ Below w.heap.size w w'
def digB (n : Int) : ByteArray := (⟨#[48, 49, 50, 51, 52, 53, 54, 55, 56, 57]⟩ : ByteArray).extract n.toNat (n + 1).toNat
def digF : Nat → Int → ByteArray | 0, n => digB n | k + 1, n => if n < 10 then digB n else digF k (n / 10) ++ digB (n % 10)
theorem dig_one (n : Int) (h0 : 0 ≤ n) (h1 : n < 10) : (digB n).size ≤ 1 ∧ DigTo n (digB n) := by
 refine ⟨by unfold digB; rw [ByteArray.size_extract]; omega, fun w => ?_⟩
 have w1 : IntKind.i64.wrap (n + 1) = n + 1 := by rw [IntKind.wrap_i64]; omega
 have d1 : decide (n < 10) = true := decide_eq_true h1
 have p1 : (0 ≤ n) = True := eq_true h0
 have p2 : (n ≤ n + 1) = True := eq_true (by omega)
 have p3 : (n + 1 ≤ 10) = True := eq_true (by omega)
 have p4 : (0 ≤ n + 1) = True := eq_true (by omega)
 go_enter Tryz.func58, Tryz.ntmps58
 go_wp2_with fail
 go_ret
 exact ⟨rfl, Below.refl _ _⟩
theorem dig_two (n q r : Int) (s1 s2 : ByteArray) (h1 : ¬ n < 10) (hq : IntKind.i64.wrap (Int.tdiv n 10) = q) (hr : Int.tmod n 10 = r) (H1 : DigTo q s1) (H2 : DigTo r s2) (hz : s1.size + s2.size ≤ 1000) : DigTo n (s1 ++ s2) := by
 intro w
 have d1 : decide (n < 10) = false := decide_eq_false h1
 have G1 : yC (∀ w', Calls Tryz.prog 58 #[.int .i64 q] w' fun e w'' => e = .returned (.string s1) ∧ Below w'.heap.size w' w'') := ⟨H1⟩
 have G2 : yC (∀ w', Calls Tryz.prog 58 #[.int .i64 r] w' fun e w'' => e = .returned (.string s2) ∧ Below w'.heap.size w' w'') := ⟨H2⟩
 have hz2 : s1.size + s2.size ≤ 9223372036854775807 := by omega
 clear H1 H2 h1
 go_enter Tryz.func58, Tryz.ntmps58
 go_upto_region 3 with (fail)
 go_wp2_with (first | (go_at_call 58; (with_reducible refine (G1.out _).mono ?_); rintro e W1 ⟨rfl, hb1⟩; have HB := yC.mk hb1; clear hb1 G1) | (go_at_call 58; (with_reducible refine (G2.out _).mono ?_); rintro e W2 ⟨rfl, hb2⟩; have HB2 := yC.mk (yD HB.out hb2); clear hb2))
 go_ret
 exact ⟨rfl, HB2.out⟩
theorem dig_all : ∀ (k : Nat) (n : Int), k ≤ 15 → 0 ≤ n → n < 10 ^ k → (digF k n).size ≤ k + 1 ∧ DigTo n (digF k n) := by
 intro k
 induction k with
 | zero =>
  intro n _ h0 h1
  exact dig_one n h0 (by have : (10 : Int) ^ 0 = 1 := rfl; omega)
 | succ k ih =>
  intro n hk h0 h1
  unfold digF
  by_cases h : n < 10
  ·obtain ⟨hs, hd⟩ := dig_one n h0 h
   rw [if_pos h]
   exact ⟨by omega, hd⟩
  ·have h1' : n < 10 ^ k * 10 := by rw [← Int.pow_succ]; exact h1
   have hb : (10 : Int) ^ (k + 1) ≤ 10 ^ 15 := by
    have : k + 1 = 1 ∨ k + 1 = 2 ∨ k + 1 = 3 ∨ k + 1 = 4 ∨ k + 1 = 5 ∨ k + 1 = 6 ∨ k + 1 = 7 ∨ k + 1 = 8 ∨ k + 1 = 9 ∨ k + 1 = 10 ∨ k + 1 = 11 ∨ k + 1 = 12 ∨ k + 1 = 13 ∨ k + 1 = 14 ∨ k + 1 = 15 := by omega
    rcases this with e | e | e | e | e | e | e | e | e | e | e | e | e | e | e <;> rw [e] <;> decide
   have hc : (10 : Int) ^ 15 = 1000000000000000 := by decide
   obtain ⟨hs1, hd1⟩ := ih (n / 10) (by omega) (by omega) (by omega)
   obtain ⟨hs2, hd2⟩ := dig_one (n % 10) (by omega) (by omega)
   rw [if_neg h]
   exact ⟨by rw [ByteArray.size_append]; omega, dig_two n (n / 10) (n % 10) _ _ h (by rw [IntKind.wrap_i64, Int.tdiv_eq_ediv_of_nonneg h0]; omega) (Int.tmod_eq_emod_of_nonneg h0) hd1 hd2 (by omega)⟩
end
section
open Go.RowKit YtmebkjdknhknbaaGreatDoor.G
def pwOk (k : Nat) (rest p : Int) : Prop := 0 ≤ rest ∧ (rest = 0 ∨ (k = 6 ∧ p = 100000 ∧ rest < 1000000) ∨ (k = 5 ∧ p = 10000 ∧ rest < 100000) ∨ (k = 4 ∧ p = 1000 ∧ rest < 10000) ∨ (k = 3 ∧ p = 100 ∧ rest < 1000) ∨ (k = 2 ∧ p = 10 ∧ rest < 100) ∨ (k = 1 ∧ p = 1 ∧ rest < 10))
theorem pw_step {k : Nat} {rest p : Int} (h : pwOk k rest p) (h0 : 0 < rest) : ∃ (d r q : Int) (j : Nat), k = j + 1 ∧ p ≠ 0 ∧ 0 ≤ d ∧ d < 10 ∧ IntKind.i64.wrap (Int.tdiv rest p) = d ∧ Int.tmod rest p = r ∧ IntKind.i64.wrap (Int.tdiv p 10) = q ∧ pwOk j r q ∧ d = rest / p ∧ r = rest % p ∧ q = p / 10 := by
 obtain ⟨h1, h2⟩ := h
 have key : ∀ (j : Nat) (m : Int), 0 < m → rest < 10 * m → p = m → m ≤ 100000 → k = j + 1 → pwOk j (rest % m) (m / 10) → ∃ (d r q : Int) (j : Nat), k = j + 1 ∧ p ≠ 0 ∧ 0 ≤ d ∧ d < 10 ∧ IntKind.i64.wrap (Int.tdiv rest p) = d ∧ Int.tmod rest p = r ∧ IntKind.i64.wrap (Int.tdiv p 10) = q ∧ pwOk j r q ∧ d = rest / p ∧ r = rest % p ∧ q = p / 10 := by
  intro j m hm hr hp hb hk hw
  subst hp
  have e0 : 0 ≤ rest / p := Int.ediv_nonneg h1 (by omega)
  have e1 : rest / p < 10 := Int.ediv_lt_of_lt_mul hm (by omega)
  exact ⟨rest / p, rest % p, p / 10, j, hk, by omega, e0, e1, by rw [IntKind.wrap_i64, Int.tdiv_eq_ediv_of_nonneg h1]; omega, Int.tmod_eq_emod_of_nonneg h1, by rw [IntKind.wrap_i64, Int.tdiv_eq_ediv_of_nonneg (by omega)]; omega, hw, rfl, rfl, rfl⟩
 rcases h2 with h2 | ⟨rfl, hp, hr⟩ | ⟨rfl, hp, hr⟩ | ⟨rfl, hp, hr⟩ | ⟨rfl, hp, hr⟩ | ⟨rfl, hp, hr⟩ | ⟨rfl, hp, hr⟩
 ·omega
 ·exact key 5 100000 (by decide) (by omega) hp (by decide) rfl ⟨by omega, by omega⟩
 ·exact key 4 10000 (by decide) (by omega) hp (by decide) rfl ⟨by omega, by omega⟩
 ·exact key 3 1000 (by decide) (by omega) hp (by decide) rfl ⟨by omega, by omega⟩
 ·exact key 2 100 (by decide) (by omega) hp (by decide) rfl ⟨by omega, by omega⟩
 ·exact key 1 10 (by decide) (by omega) hp (by decide) rfl ⟨by omega, by omega⟩
 ·exact key 0 1 (by decide) (by omega) hp (by decide) rfl ⟨by omega, by omega⟩
def fracF : Nat → ByteArray → Int → Int → ByteArray | 0, s, _, _ => s | k + 1, s, rest, p => if 0 < rest then fracF k (s ++ digB (rest / p)) (rest % p) (p / 10) else s
theorem fracF_size : ∀ (k : Nat) (s : ByteArray) (rest p : Int), pwOk k rest p → (fracF k s rest p).size ≤ s.size + k
 | 0, s, _, _, _ => Nat.le_refl _
 | k + 1, s, rest, p, h => by
  unfold fracF
  split
  ·rename_i h0
   obtain ⟨d, r, q, j, hj, _, hd0, hd1, _, _, _, hw, rfl, rfl, rfl⟩ := pw_step h h0
   obtain rfl : k = j := by omega
   have := fracF_size k (s ++ digB (rest / p)) _ _ hw
   have := (dig_one _ hd0 hd1).1
   rw [ByteArray.size_append] at *
   omega
  ·omega
def textS (n : Int) : ByteArray := if 0 < n % 1000000 then digF 9 (n / 1000000) ++ ⟨#[46]⟩ else digF 9 (n / 1000000)
def textP (n : Int) : ByteArray := fracF 6 (textS n) (n % 1000000) 100000
def textR (n : Int) : ByteArray := if 0 ≤ n then textP n else ⟨#[45]⟩ ++ textP (-n)
theorem pw_start {n : Int} : pwOk 6 (n % 1000000) 100000 := ⟨by omega, .inr (.inl ⟨rfl, rfl, by omega⟩)⟩
theorem textS_size (n : Int) (h0 : 0 ≤ n) (h1 : n < 1000000000000000) : (textS n).size ≤ 11 := by
 have h9 : (10 : Int) ^ 9 = 1000000000 := by decide
 have := (dig_all 9 (n / 1000000) (by decide) (by omega) (by omega)).1
 unfold textS
 split
 ·rw [ByteArray.size_append]; show _ + 1 ≤ _; omega
 ·omega
theorem textP_size (n : Int) (h0 : 0 ≤ n) (h1 : n < 1000000000000000) : (textP n).size ≤ 17 := by
 have := textS_size n h0 h1
 have := fracF_size 6 (textS n) _ _ (pw_start (n := n))
 unfold textP
 omega
theorem text_pos (n : Int) (h0 : 0 ≤ n) (h1 : n < 1000000000000000) (w : World) : Calls Tryz.prog 38 #[.int .i64 n] w fun e w' => e = .returned (.string (textP n)) ∧ Below w.heap.size w w' := by
 have h9 : (10 : Int) ^ 9 = 1000000000 := by decide
 obtain ⟨hs0, hd0⟩ := dig_all 9 (n / 1000000) (by decide) (by omega) (by rw [h9]; omega)
 have hS := textS_size n h0 h1
 clear h9
 unfold textP textS at *
 have hpw := pw_start (n := n)
 obtain ⟨s0, e0⟩ : ∃ s, digF 9 (n / 1000000) = s := ⟨_, rfl⟩
 rw [e0] at hs0 hd0 hS ⊢
 clear e0
 obtain ⟨q, hq⟩ : ∃ q, n / 1000000 = q := ⟨_, rfl⟩
 rw [hq] at hd0
 have wq : IntKind.i64.wrap (Int.tdiv n 1000000) = q := by rw [IntKind.wrap_i64, Int.tdiv_eq_ediv_of_nonneg h0]; omega
 have G0 : yC (∀ w', Calls Tryz.prog 58 #[.int .i64 q] w' fun e w'' => e = .returned (.string s0) ∧ Below w'.heap.size w' w'') := ⟨hd0⟩
 have er : Int.tmod n 1000000 = n % 1000000 := Int.tmod_eq_emod_of_nonneg h0
 generalize n % 1000000 = r at *
 obtain ⟨S1, eS⟩ : ∃ s, (if 0 < r then s0 ++ ⟨#[46]⟩ else s0) = s := ⟨_, rfl⟩
 rw [eS] at hS ⊢
 obtain ⟨RES, hRES⟩ : ∃ s, fracF 6 S1 r 100000 = s := ⟨_, rfl⟩
 rw [hRES]
 have HR := yC.mk (And.intro hRES (And.intro hpw hS))
 have dn : decide (n < 0) = false := decide_eq_false (by omega)
 have hz2 : s0.size + 1 ≤ 9223372036854775807 := by omega
 have HS0 := yC.mk eS
 clear hd0 hq hs0 h0 h1 hpw hRES eS hS
 go_enter Tryz.func38, Tryz.ntmps38
 go_upto_if 18 with (first | (go_at_call 58; (with_reducible refine (G0.out _).mono ?_); rintro e W1 ⟨rfl, hb1⟩; have HB := yC.mk hb1; clear hb1))
 go_cut [3] (fun v3 w' => v3 = .string S1 ∧ yC (Below w.heap.size w w'))
 case first =>
  by_cases hr : 0 < r
  ·have dr : decide (r > 0) = true := decide_eq_true hr
   go_wp2_with fail
   go_meet
   exact ⟨by rw [← HS0.out, if_pos hr], HB⟩
  ·have dr : decide (r > 0) = false := decide_eq_false hr
   go_wp2_with fail
   go_meet
   exact ⟨by rw [← HS0.out, if_neg (by omega)], HB⟩
 case rest =>
  clear HB G0 HS0
  obtain ⟨rfl, HB⟩ := hcut
  go_wp2_with fail
  go_loopg [3, 4, 5] 6 (fun kq v3 v4 v5 w' => ∃ (s : ByteArray) (rest p : Int), v3 = .string s ∧ v4 = .int .i64 rest ∧ v5 = .int .i64 p ∧ yC (s.size + kq ≤ 17 ∧ fracF kq s rest p = RES) ∧ yC (pwOk kq rest p) ∧ yC (Below w.heap.size w w'))
  case atStart => exact ⟨S1, r, 100000, rfl, rfl, rfl, ⟨by have := HR.out.2.2; omega, HR.out.1⟩, ⟨HR.out.2.1⟩, HB⟩
  case round =>
   clear HB HR
   obtain ⟨s, rest, p, rfl, rfl, rfl, HS, HPW, HB⟩ := hrel
   have hsz := HS.out.1
   by_cases h : 0 < rest
   ·obtain ⟨d, r2, q2, j, hj, hp, hd0, hd1, hd, hr2, hq2, hw, ed, er2, eq2⟩ := pw_step HPW.out h
    obtain ⟨hsd, hdg⟩ := dig_one d hd0 hd1
    have GD : yC (∀ w', Calls Tryz.prog 58 #[.int .i64 d] w' fun e w'' => e = .returned (.string (digB d)) ∧ Below w'.heap.size w' w'') := ⟨hdg⟩
    have hfr := HS.out.2
    cases gk with
    | zero => omega
    | succ gk1 =>
    obtain rfl : gk1 = j := by omega
    rw [show fracF (gk1 + 1) s rest p = fracF gk1 (s ++ digB d) r2 q2 from by conv => lhs; unfold fracF; rw [if_pos h, ← ed, ← er2, ← eq2]] at hfr
    have HW := yC.mk (And.intro hfr (And.intro hw hsd))
    have drr : decide (rest > 0) = true := decide_eq_true h
    have hz3 : s.size + (digB d).size ≤ 9223372036854775807 := by omega
    clear hj hw hdg hsd HPW er dn ed er2 eq2 hfr
    go_wp2_with (first | (go_at_call 58; (with_reducible refine (GD.out _).mono ?_); rintro e W1 ⟨rfl, hb1⟩; have HB2 := yC.mk (yD HB.out hb1); clear hb1))
    go_roundg gk1
    case measure => omega
    case rel => exact ⟨s ++ digB d, r2, q2, rfl, rfl, rfl, ⟨by rw [ByteArray.size_append]; have := HW.out.2.2; omega, HW.out.1⟩, ⟨HW.out.2.1⟩, HB2⟩
   ·have drr : decide (rest > 0) = false := decide_eq_false h
    have hfr := HS.out.2
    rw [show fracF gk s rest p = s from by cases gk with | zero => rfl | succ _ => unfold fracF; rw [if_neg h]] at hfr
    have HF := yC.mk hfr
    clear hfr
    go_wp2_with fail
    go_ret
    exact ⟨by rw [← HF.out]; rfl, HB.out⟩
theorem text_det (n : Int) (h0 : -1000000000000000 < n) (h1 : n < 1000000000000000) : (textR n).size ≤ 30 ∧ ∀ w : World, Calls Tryz.prog 38 #[.int .i64 n] w fun e w' => e = .returned (.string (textR n)) ∧ Below w.heap.size w w' := by
 unfold textR
 by_cases hn : 0 ≤ n
 ·rw [if_pos hn]
  exact ⟨Nat.le_trans (textP_size n hn h1) (by decide), text_pos n hn h1⟩
 ·rw [if_neg hn]
  have hm : IntKind.i64.wrap (-n) = -n := by rw [IntKind.wrap_i64]; omega
  have hz := textP_size (-n) (by omega) (by omega)
  refine ⟨by rw [ByteArray.size_append]; show 1 + _ ≤ 30; omega, fun w => ?_⟩
  have GT : yC (∀ w', Calls Tryz.prog 38 #[.int .i64 (-n)] w' fun e w'' => e = .returned (.string (textP (-n))) ∧ Below w'.heap.size w' w'') := ⟨fun w' => text_pos (-n) (by omega) (by omega) w'⟩
  have dn : decide (n < 0) = true := decide_eq_true (by omega)
  generalize textP (-n) = s at *
  clear h0 h1 hn
  go_enter Tryz.func38, Tryz.ntmps38
  go_wp2_with fail
  refine (GT.out w).mono ?_
  rintro e W1 ⟨rfl, hb1⟩
  have HB := yC.mk hb1
  have hz : 1 + s.size ≤ 9223372036854775807 := by omega
  clear hb1
  go_wp2_with fail
  go_ret
  exact ⟨rfl, HB.out⟩
theorem text_all (n : Int) (h0 : -1000000000000000 < n) (h1 : n < 1000000000000000) (w : World) : Calls Tryz.prog 38 #[.int .i64 n] w fun e w' => (∃ s : ByteArray, e = .returned (.string s) ∧ s.size ≤ 30) ∧ Below w.heap.size w w' :=
 ((text_det n h0 h1).2 w).mono fun e w' h => ⟨⟨_, h.1, (text_det n h0 h1).1⟩, h.2⟩
end
section
open Go.RowKit YtmebkjdknhknbaaGreatDoor.A YtmebkjdknhknbaaGreatDoor.C
theorem mem_compact {l : List Int} {a : Int} (h : a ∈ Lib.compact l) : a ∈ l := by
 unfold Lib.compact Lib.compactUpTo at h
 obtain ⟨j, hj, rfl⟩ := List.mem_map.1 h
 have hl : j < l.length := List.mem_range.1 (List.mem_filter.1 hj).1
 have : l.toArray[j]! = l[j] := by simp [hl]
 rw [this]; exact List.getElem_mem hl
theorem attrs_in {l0 : List S57} : ∀ (k : Nat) (x : S29), vOk k l0 x → ∀ a, a ∈ attrsV k x → 0 ≤ a ∧ a < l0.length := by
 intro k
 induction k with
 | zero => intro x h; exact h.1.elim
 | succ k ih =>
  intro x h a ha
  unfold attrsV at ha
  split at ha
  ·rename_i hx
   rw [List.mem_singleton.1 ha]
   by_cases h3 : x.f0 ≤ 3
   ·exact (vOk_plain h h3).1.2
   ·have := (xQ h h3).2.2
    rw [hx] at this
    split at this <;> simp at this
  ·have h1 := mem_compact ha
   rw [List.mem_mergeSort] at h1
   obtain ⟨y, hy, hay⟩ := List.mem_flatMap.1 h1
   obtain ⟨i, hi, rfl⟩ := List.getElem_of_mem hy
   have h2 := vOk_kid h i hi
   rw [rd_get x.f4 i hi] at h2
   exact ih _ h2 a hay
theorem wOk_of {l0 : List S57} : ∀ (k : Nat) (x : S29), vOk k l0 x → wOk k x := by
 intro k
 induction k with
 | zero => intro x h; exact h.1.elim
 | succ k ih =>
  intro x h
  refine ⟨?_, fun i hi => ih _ (vOk_kid h i hi)⟩
  by_cases h3 : x.f0 ≤ 3
  ·obtain ⟨hd, d, hv⟩ := h
   have := (of_inv hv).2.2.1
   rw [show arK x.f0 = 0 from if_pos h3] at this
   omega
  ·have := (xQ h h3).2.2
   split at this <;> omega
def tyOk (T : S49) (v : S39) : Prop := (T.f2 = true ∧ v = ⟨0, 0, ⟨#[]⟩⟩) ∨ (T.f0 = 1 ∧ (v = ⟨1, 0, ⟨#[]⟩⟩ ∨ v = ⟨1, 1, ⟨#[]⟩⟩)) ∨ (T.f0 = 2 ∧ ∃ n : Int, (-1000000000000000 ≤ n ∧ n ≤ 1000000000000000) ∧ Int.tmod n (stepOf T.f1) = 0 ∧ v = ⟨2, n, ⟨#[]⟩⟩) ∨ (T.f0 = 3 ∧ ∃ s : ByteArray, s.size ≤ 40 ∧ xD s.data.toList = true ∧ v = ⟨3, 0, s⟩)
def typOk (T : S49) : Prop := (T.f0 = 2 ∧ 0 ≤ T.f1 ∧ T.f1 ≤ 6) ∨ (T.f0 = 3 ∧ T.f1 = 0) ∨ (T.f0 = 1 ∧ T.f1 = 0)
theorem cell_ty {a : S57} {v : S39} (ha : aOk a) (h : cellOk a v) : tyOk a.f0 v ∧ typOk a.f0 := by
 refine ⟨?_, ?_⟩
 ·rcases h with h | h | ⟨h, n, h0, h1, rfl⟩ | h
  ·exact .inl h
  ·exact .inr (.inl h)
  ·have h6 : a.f0.f1 = 6 := by rcases ha.2 with h | h | h <;> omega
   exact .inr (.inr (.inl ⟨h, n, ⟨by omega, by omega⟩, by rw [h6, show stepOf 6 = 1 from rfl, Int.tmod_one], rfl⟩))
  ·exact .inr (.inr (.inr h))
 ·rcases ha.2 with h | h | h
  ·exact .inl ⟨h.1, by omega, by omega⟩
  ·exact .inr (.inl h)
  ·exact .inr (.inr h)
theorem isDig_gr {l : List UInt8} (h : l.all isDig = true) : xD l = true := by
 unfold xD
 rw [List.all_eq_true] at h ⊢
 intro c hc
 have := isDig_bounds (h c hc)
 unfold grB
 simp
 omega
theorem gr_apps {a b : List UInt8} (ha : xD a = true) (hb : xD b = true) : xD (a ++ b) = true := by unfold xD at *; rw [List.all_append, ha, hb]; rfl
theorem text_gr (n : Int) (h : n.natAbs < 10 ^ 20) : xD (textL n) = true := by
 obtain ⟨hf, _⟩ := valOf_parts n h
 rw [textL_eq]
 unfold textOf
 have hW : xD (wholeB n) = true := isDig_gr (by have := hf.w; unfold numB at this; rw [Bool.and_eq_true] at this; exact this.2)
 have hP : xD (partB n) = true := isDig_gr hf.p
 refine gr_apps (gr_apps ?_ hW) ?_
 ·split <;> decide
 ·split
  ·decide
  ·have : xD [(46 : UInt8)] = true := by decide
   exact gr_apps (a := [46]) this hP
theorem cut_in (n S B : Int) (hS : 1 ≤ S) (h0 : -B ≤ n) (h1 : n ≤ B) : -B ≤ Int.tdiv n S * S ∧ Int.tdiv n S * S ≤ B ∧ -B ≤ Int.tdiv n S ∧ Int.tdiv n S ≤ B := by
 rcases Int.le_total 0 n with h | h
 ·rw [Int.tdiv_eq_ediv_of_nonneg h]
  have e1 := Int.ediv_mul_le n (show S ≠ 0 by omega)
  have e2 : 0 ≤ n / S := Int.ediv_nonneg h (by omega)
  have e3 : n / S * 1 ≤ n / S * S := Int.mul_le_mul_of_nonneg_left hS e2
  omega
 ·obtain ⟨m, rfl⟩ : ∃ m, n = -m := ⟨-n, by omega⟩
  have hm : 0 ≤ m := by omega
  rw [Int.neg_tdiv, Int.tdiv_eq_ediv_of_nonneg hm, Int.neg_mul]
  have e1 := Int.ediv_mul_le m (show S ≠ 0 by omega)
  have e2 : 0 ≤ m / S := Int.ediv_nonneg hm (by omega)
  have e3 : m / S * 1 ≤ m / S * S := Int.mul_le_mul_of_nonneg_left hS e2
  omega
theorem scale_ty {n s : Int} (h0 : 0 ≤ s) (h6 : s ≤ 6) (h : -1000000000000000 ≤ n ∧ n ≤ 1000000000000000) : ∃ m : Int, (-1000000000000000 ≤ m ∧ m ≤ 1000000000000000) ∧ Int.tmod m (stepOf s) = 0 ∧ scaleV ⟨2, n, ⟨#[]⟩⟩ s = ⟨2, m, ⟨#[]⟩⟩ := by
 have hp := stepOf_pos s.toNat (by omega)
 have hS : stepOf s = xM.getD s.toNat 0 := rfl
 rw [← hS] at hp
 obtain ⟨e1, e2, e3, e4⟩ := cut_in n (stepOf s) 1000000000000000 hp.1 h.1 h.2
 refine ⟨Int.tdiv n (stepOf s) * stepOf s, ⟨e1, e2⟩, Int.mul_tmod_left _ _, ?_⟩
 have ht : decimal_Trunc.f n s = some (wrap64 (wrap64 (Int.tdiv n (stepOf s)) * stepOf s)) := by unfold decimal_Trunc.f; rw [if_pos ⟨h0, by omega⟩]
 unfold scaleV
 dsimp only
 rw [if_pos rfl, ht, Option.getD_some]
 have w1 : wrap64 (Int.tdiv n (stepOf s)) = Int.tdiv n (stepOf s) := by unfold wrap64; omega
 rw [w1]
 have w2 : wrap64 (Int.tdiv n (stepOf s) * stepOf s) = Int.tdiv n (stepOf s) * stepOf s := by generalize Int.tdiv n (stepOf s) * stepOf s = z at *; unfold wrap64; omega
 rw [w2]
theorem gr_take {l m : List UInt8} (h : xD l = true) (hm : ∀ c, c ∈ m → c ∈ l) : xD m = true := by
 unfold xD at *
 rw [List.all_eq_true] at h ⊢
 exact fun c hc => h c (hm c hc)
theorem cut_mem (l sep : List UInt8) : (∀ c, c ∈ (Lib.cut l sep).1 → c ∈ l) ∧ (∀ c, c ∈ (Lib.cut l sep).2.1 → c ∈ l) := by
 unfold Lib.cut
 split
 ·exact ⟨fun c hc => List.mem_of_mem_take hc, fun c hc => List.mem_of_mem_drop hc⟩
 ·exact ⟨fun c hc => hc, fun c hc => by simp at hc⟩
theorem show_leaf {l0 : List S57} {l : List S39} (hcell : ∀ a : Int, 0 ≤ a → a < l0.length → tyOk (xC l0 a).f0 (yP l a) ∧ typOk (xC l0 a).f0) (k : Nat) (x : S29) (h : vOk (k + 1) l0 x) (hx : x.f0 ≤ 3) : tyOk (tailV k l0 x).1 (shV (k + 1) l x) ∧ typOk (tailV k l0 x).1 := by
 obtain ⟨⟨h1, ha0, ha1⟩, hnum⟩ := vOk_plain h hx
 obtain ⟨c1, c2⟩ := hcell x.f1 ha0 ha1
 have hk : x.f0 = 1 ∨ x.f0 = 2 ∨ x.f0 = 3 := by omega
 rw [shV_succ]
 unfold tailV
 rcases hk with e | e | e
 ·rw [if_pos e, if_pos e]
  unfold tyVal
  split
  ·exact ⟨c1, c2⟩
  ·rename_i h2
   obtain ⟨hd, d, hv⟩ := h
   have h5 := (of_inv hv).2.2.2.2.2.1
   unfold tailV tyVal at h5
   rw [if_pos e, if_neg h2] at h5
   cases h5
 ·obtain ⟨hs0, hs6, hK⟩ := hnum (by omega)
  rw [if_neg (by omega), if_pos e, if_neg (by omega), if_pos e]
  unfold xP
  rw [if_pos ⟨hK, hs0, hs6⟩]
  refine ⟨?_, .inl ⟨rfl, hs0, hs6⟩⟩
  rcases c1 with ⟨hn, hv⟩ | ⟨hv, _⟩ | ⟨_, n, hn, _, hv⟩ | ⟨hv, _⟩
  ·rw [hv]; exact .inl ⟨hn, rfl⟩
  ·omega
  ·rw [hv]
   obtain ⟨m, hm, ht, he⟩ := scale_ty hs0 hs6 hn
   exact .inr (.inr (.inl ⟨rfl, m, hm, ht, he⟩))
  ·omega
 ·obtain ⟨hs0, hs6, hK⟩ := hnum (by omega)
  rw [if_neg (by omega), if_neg (by omega), if_pos e, if_neg (by omega), if_neg (by omega), if_pos e]
  unfold tyShow
  have hT : (xP l0 x) = (⟨2, x.f2, (xC l0 x.f1).f0.f2⟩, true) := by unfold xP; rw [if_pos ⟨hK, hs0, hs6⟩]
  rw [hT, if_pos rfl]
  refine ⟨?_, .inr (.inl ⟨rfl, rfl⟩)⟩
  rcases c1 with ⟨hn, hv⟩ | ⟨hv, _⟩ | ⟨_, n, hn, _, hv⟩ | ⟨hv, _⟩
  ·rw [hv]; exact .inl ⟨hn, rfl⟩
  ·omega
  ·rw [hv]
   obtain ⟨m, hm, ht, he⟩ := scale_ty hs0 hs6 hn
   rw [he]
   have hnT : numT m = ⟨(textL m).toArray⟩ := by unfold numT decimal_Text.f; rw [if_pos ⟨by omega, by omega⟩]; rfl
   show tyOk _ ⟨3, 0, numT m⟩
   rw [hnT]
   refine .inr (.inr (.inr ⟨rfl, _, ?_, ?_, rfl⟩))
   ·have := textL_len m
    show (textL m).toArray.size ≤ 40
    rw [List.size_toArray]; omega
   ·have := text_gr m (by omega)
    show xD (textL m).toArray.toList = true
    rw [List.toList_toArray]; exact this
  ·omega
theorem sep_gr {l0 : List S57} {k : Nat} {x : S29} (h : vOk (k + 1) l0 x) (hx : ¬ x.f0 ≤ 3) : xD x.f3.data.toList = true := by
 obtain ⟨hd, d, hv⟩ := h
 have h4 := (of_inv hv).2.2.2.1
 have ha : 0 < arK x.f0 := by unfold arK; rw [if_neg hx]; split <;> decide
 unfold okA at h4
 rw [if_pos ha] at h4
 obtain ⟨_, _, h1, h2, h3⟩ := of_decide_eq_true h4
 have hl : x.f3.data.toList.length = 1 := by rw [Array.length_toList]; exact h1
 match hm : x.f3.data.toList, hl with
 | [c], _ =>
  rw [hm] at h2 h3
  unfold xD grB
  simp at h2 h3 ⊢
  omega
theorem show_ty {l0 : List S57} {l : List S39} (hat : atOk l0) (hl : l.length = l0.length) (hc : cellsOk l0 l) : ∀ (k : Nat) (x : S29), k ≤ 8 → vOk (k + 1) l0 x → tyOk (tailV k l0 x).1 (shV (k + 1) l x) ∧ typOk (tailV k l0 x).1 := by
 have hcell : ∀ a : Int, 0 ≤ a → a < l0.length → tyOk (xC l0 a).f0 (yP l a) ∧ typOk (xC l0 a).f0 := fun a h0 h1 => by
  obtain ⟨i, rfl⟩ := Int.eq_ofNat_of_zero_le h0
  exact cell_ty (hat.2.2.1 i (by omega)) (hc i (by omega))
 intro k
 induction k with
 | zero =>
  intro x _ h
  by_cases hx : x.f0 ≤ 3
  ·exact show_leaf hcell 0 x h hx
  ·have := (xQ h hx).2.2
   have hn : 0 < x.f4.length := by split at this <;> omega
   exact (vOk_kid h 0 hn).1.elim
 | succ k ih =>
  intro x hk h
  by_cases hx : x.f0 ≤ 3
  ·exact show_leaf hcell (k + 1) x h hx
  ·obtain ⟨⟨h4, h6⟩, hs1, hlen⟩ := xQ h hx
   obtain ⟨_, _, hsep, hkt, hnul, ht⟩ := parts_inv h (by omega) hx
   have hn : 0 < x.f4.length := by split at hlen <;> omega
   obtain ⟨i0, j0⟩ := ih _ (by omega) (vOk_kid h 0 hn)
   have t0 := hkt 0 hn
   have n0 := hnul
   rw [show k + 1 - 1 = k from rfl] at t0 n0 ht
   rw [ht, shV_succ, if_neg (by omega), if_neg (by omega), if_neg (by omega)]
   have hTy : typOk ⟨3, 0, (tailV k l0 (yM x.f4 ((0 : Nat) : Int))).1.f2 || decide (x.f0 = 5)⟩ := .inr (.inl ⟨rfl, rfl⟩)
   refine ⟨?_, hTy⟩
   generalize (tailV k l0 (yM x.f4 ((0 : Nat) : Int))).1 = T at *
   generalize hv : shV (k + 1) l (yM x.f4 ((0 : Nat) : Int)) = v at *
   -- the kid's value: null, or a text
   have hk : (T.f2 = true ∧ v = ⟨0, 0, ⟨#[]⟩⟩) ∨ ∃ s : ByteArray, s.size ≤ 40 ∧ xD s.data.toList = true ∧ v = ⟨3, 0, s⟩ := by
    rcases i0 with h | h | h | h
    ·exact .inl h
    ·omega
    ·omega
    ·exact .inr h.2
   by_cases e4 : x.f0 = 4
   ·rw [if_pos e4]
    rcases hk with ⟨hT, rfl⟩ | ⟨s, hs, hg, rfl⟩
    ·exact .inl ⟨by simp [hT], rfl⟩
    ·refine .inr (.inr (.inr ⟨rfl, _, ?_, ?_, rfl⟩))
     ·show (Lib.cut s.data.toList x.f3.data.toList).1.toArray.size ≤ 40
      have h1 : (Lib.cut s.data.toList x.f3.data.toList).1.length ≤ s.data.toList.length := by
       unfold Lib.cut
       split
       ·rw [List.length_take]; exact Nat.min_le_right _ _
       ·exact Nat.le_refl _
      have h2 : s.data.toList.length = s.size := Array.length_toList
      rw [List.size_toArray]; omega
     ·exact gr_take hg (cut_mem _ _).1
   ·rw [if_neg e4]
    by_cases e5 : x.f0 = 5
    ·rw [if_pos e5]
     have hN : (T.f2 || decide (x.f0 = 5)) = true := by rw [decide_eq_true e5, Bool.or_true]
     unfold xO
     split
     ·rename_i hcond
      rcases hk with ⟨hT, rfl⟩ | ⟨s, hs, hg, rfl⟩
      ·exact absurd hcond.1 (by decide)
      ·refine .inr (.inr (.inr ⟨rfl, _, ?_, ?_, rfl⟩))
       ·show (Lib.cut s.data.toList x.f3.data.toList).2.1.toArray.size ≤ 40
        have h1 : (Lib.cut s.data.toList x.f3.data.toList).2.1.length ≤ s.data.toList.length := by
         unfold Lib.cut
         split
         ·rw [List.length_drop]; exact Nat.sub_le _ _
         ·exact Nat.zero_le _
        have h2 : s.data.toList.length = s.size := Array.length_toList
        rw [List.size_toArray]; omega
       ·exact gr_take hg (cut_mem _ _).2
     ·exact .inl ⟨hN, rfl⟩
    ·rw [if_neg e5]
     have e6 : x.f0 = 6 := by omega
     have h2 : 1 < x.f4.length := by split at hlen <;> omega
     obtain ⟨i1, _⟩ := ih _ (by omega) (vOk_kid h 1 h2)
     have t1 := hkt 1 h2
     rw [show k + 1 - 1 = k from rfl] at t1
     have hT2 := n0 e6
     rcases hk with ⟨hT, _⟩ | ⟨s, hs, hg, rfl⟩
     ·rw [hT2] at hT; cases hT
     ·refine .inr (.inr (.inr ⟨rfl, _, cut_size _, ?_, rfl⟩))
      unfold cutV
      refine gr_cut ?_ _
      unfold joinV
      split
      ·exact hg
      ·refine gr_app (gr_app hg ?_) ?_
       ·exact sep_gr h hx
       ·rcases i1 with ⟨_, e⟩ | h | h | ⟨_, s', _, hg', e⟩
        ·rw [e]; rfl
        ·omega
        ·omega
        ·rw [e]; exact hg'
end
section
open Go.RowKit YtmebkjdknhknbaaGreatDoor.G
theorem step_pow (s : Int) (h0 : 0 ≤ s) (h6 : s ≤ 6) : chapmanref16_power.f 14 (6 - s) = some (stepOf s) := by
 have : s = 0 ∨ s = 1 ∨ s = 2 ∨ s = 3 ∨ s = 4 ∨ s = 5 ∨ s = 6 := by omega
 rcases this with rfl | rfl | rfl | rfl | rfl | rfl | rfl
 ·exact (show chapmanref16_power.f 14 (6 - 0) = some 1000000 by kernel_rfl)
 ·exact (show chapmanref16_power.f 14 (6 - 1) = some 100000 by kernel_rfl)
 ·exact (show chapmanref16_power.f 14 (6 - 2) = some 10000 by kernel_rfl)
 ·exact (show chapmanref16_power.f 14 (6 - 3) = some 1000 by kernel_rfl)
 ·exact (show chapmanref16_power.f 14 (6 - 4) = some 100 by kernel_rfl)
 ·exact (show chapmanref16_power.f 14 (6 - 5) = some 10 by kernel_rfl)
 ·exact (show chapmanref16_power.f 14 (6 - 6) = some 1 by kernel_rfl)
theorem step_ne (s : Int) (h0 : 0 ≤ s) (h6 : s ≤ 6) : stepOf s ≠ 0 := by
 have := stepOf_pos s.toNat (by omega)
 have hS : stepOf s = xM.getD s.toNat 0 := rfl
 omega
end
section
open Go.RowKit YtmebkjdknhknbaaGreatDoor.G
def rngV (v : S39) : Prop := v.f0 = 1 → v.f1 = 0 ∨ v.f1 = 1
def strP (v : Value) (B : Nat) (W : World) (S : Nat → Prop) : Prop := ∃ s : ByteArray, v = .string s ∧ s.size ≤ 30
theorem strP_st {v : Value} {B : Nat} {W W' : World} {S : Nat → Prop} (hz : W.heap.size ≤ W'.heap.size) (hk : ∀ k, k < W.heap.size → S k → W'.heap[k]? = W.heap[k]?) (h : strP v B W S) : strP v B W' S := h
def strDv (d : Nat) : Reg.Dv := Reg.Dv.n d strP strP_st
theorem val_str (d : Nat) (n : Nat) (ρ : Nat → Value) : (strDv d).val n ρ = ρ n := rfl
theorem str_step {f d : Nat} {eats : List (Nat × Nat)} {i : Nat} {ρ : Nat → Value} {S : Nat → Nat → Prop} {w W : World} {args : Array Value} (hB : Below w.heap.size w W) (h : Calls Tryz.prog f args W fun e w' => (∃ s : ByteArray, e = .returned (.string s) ∧ s.size ≤ 30) ∧ Below W.heap.size W w') :
  Calls Tryz.prog f args W fun e w' => ∃ v, e = .returned v ∧ Reg.Kv eats w i (some d) (strDv d) ρ W S v w' := by
 refine h.mono fun e w' h => ?_
 obtain ⟨⟨s, rfl, hs⟩, hb⟩ := h
 exact ⟨_, rfl, Reg.Kv.n (Φ := strP) (st := strP_st) (fun k => W.heap.size ≤ k ∧ k < w'.heap.size) hB hb (fun k hk => hk) ⟨s, rfl, hs⟩⟩
theorem Cut_calls (n s : Int) (h0 : 0 ≤ s) (h6 : s ≤ 6) (w : World) : Calls Tryz.prog 21 #[.int .i64 n, .int .i64 s] w fun e w' => e = .returned (.int .i64 (wrap64 (n - Int.tmod n (stepOf s)))) ∧ Below w.heap.size w w' := by
 obtain ⟨P, hPe⟩ : ∃ P, stepOf s = P := ⟨_, rfl⟩
 have HP : yC (∀ w', Calls Tryz.prog 37 #[.int .i64 (6 - s)] w' fun r w'' => r = .returned (.int .i64 P) ∧ Below w'.heap.size w' w'') := ⟨fun w' => (chapmanref16_power.calls 14 (6 - s) P w' (by rw [← hPe]; exact step_pow s h0 h6)).mono fun r w'' h => ⟨h.1, xS h.2⟩⟩
 have hP0 : P ≠ 0 := by rw [← hPe]; exact step_ne s h0 h6
 have hs6 : IntKind.i64.wrap (6 - s) = 6 - s := by rw [IntKind.wrap_i64]; omega
 rw [hPe]
 clear hPe
 go_enter Tryz.func21, Tryz.ntmps21
 go_wp2_with (first | (go_at_call 37; (with_reducible refine (HP.out _).mono ?_); rintro e W1 ⟨rfl, hb1⟩; have HB := yC.mk hb1; clear hb1))
 go_ret
 exact ⟨rfl, HB.out⟩
theorem Cut_ex (n s : Int) (h0 : 0 ≤ s) (h6 : s ≤ 6) : ∃ C : Int, ∀ w, Calls Tryz.prog 21 #[.int .i64 n, .int .i64 s] w fun e w' => e = .returned (.int .i64 C) ∧ Below w.heap.size w w' := ⟨_, Cut_calls n s h0 h6⟩
theorem wish_walk (T : S49) (sv : S39) (B : Option Addr) (nb cb : Nat) (K N N2 X7 X11 P11 M11 N5 X13 S6 X15 P15 M15 L17 J17 X18 Y18 : Int) (WS : ByteArray) (w : World) (hsv : sv.f2.size ≤ 100) (hsr : rngV sv) (hN2r : N2 = 0 ∨ N2 = 1)
  (HK : yC (∀ w', Below w.heap.size w w' → Calls Tryz.prog 36 #[.slice B nb cb, .int .i64 0] w' fun e w'' => e = .returned (.int .i64 K) ∧ Below w'.heap.size w' w''))
  (HN : yC (∀ w', Below w.heap.size w w' → Calls Tryz.prog 36 #[.slice B nb cb, .int .i64 1] w' fun e w'' => e = .returned (.int .i64 N) ∧ Below w'.heap.size w' w''))
  (hK16 : IntKind.i64.wrap (Int.tdiv K 16) = Int.tdiv K 16) (hX7 : Int.tmod (Int.tdiv K 16) 4 = X7) (hN2 : Int.tmod N 2 = N2) (w128 : IntKind.i64.wrap (N - 128) = N - 128) (hK8 : IntKind.i64.wrap (Int.tdiv K 8) = Int.tdiv K 8) (hX11 : Int.tmod (Int.tdiv K 8) 12 = X11) (hM11 : IntKind.i64.wrap ((N - 128) * P11) = M11) (hN5 : Int.tmod N 5 = N5) (hX13 : IntKind.i64.wrap (N5 - 2) = X13) (hS6 : IntKind.i64.wrap (6 - T.f1) = S6)
  (hX15 : Int.tmod (Int.tdiv K 8) 9 = X15) (hM15 : IntKind.i64.wrap ((N - 128) * P15) = M15) (hL17 : IntKind.i64.wrap ((sv.f2.size : Int) + 1) = L17) (hJ17 : Int.tmod N L17 = J17) (hL0 : L17 ≠ 0) (hJa : 0 ≤ J17) (hJb : J17 ≤ sv.f2.size) (hX18 : IntKind.i64.wrap (Int.tdiv K 8 * 5) = X18) (hY18 : IntKind.i64.wrap (X18 + N) = Y18)
  (HP11 : yC (∀ w', Calls Tryz.prog 37 #[.int .i64 X11] w' fun e w'' => e = .returned (.int .i64 P11) ∧ Below w'.heap.size w' w'')) (HP15 : yC (∀ w', Calls Tryz.prog 37 #[.int .i64 X15] w' fun e w'' => e = .returned (.int .i64 P15) ∧ Below w'.heap.size w' w''))
  (HP6 : yC (T.f0 = 2 → ∃ P : Int, ∀ w', Calls Tryz.prog 37 #[.int .i64 S6] w' fun e w'' => e = .returned (.int .i64 P) ∧ Below w'.heap.size w' w'')) (HCu : yC (T.f0 = 2 → ∃ C : Int, ∀ w', Calls Tryz.prog 21 #[.int .i64 M11, .int .i64 T.f1] w' fun e w'' => e = .returned (.int .i64 C) ∧ Below w'.heap.size w' w''))
  (HTx : yC (∀ w', Calls Tryz.prog 38 #[.int .i64 M15] w' fun e w'' => (∃ s : ByteArray, e = .returned (.string s) ∧ s.size ≤ 30) ∧ Below w'.heap.size w' w'')) (HWo : yC (∀ w', Calls Tryz.prog 39 #[.int .i64 Y18, .int .i64 N] w' fun e w'' => e = .returned (.string WS) ∧ Below w'.heap.size w' w'')) (HWS : yC (WS.size ≤ 40)) :
  Calls Tryz.prog 15 #[.agg #[.int .i64 T.f0, .int .i64 T.f1, .bool T.f2], .agg #[.int .i64 sv.f0, .int .i64 sv.f1, .string sv.f2], .slice B nb cb] w fun e w' => (∃ v : S39, e = .returned (.agg (vC v)) ∧ v.f2.size ≤ 100 ∧ rngV v) ∧ Below w.heap.size w w' := by
 have hu49 := Tryz.underlying49
 have hu39 := Tryz.underlying39
 have HX := yC.mk (Bxs.start w)
 go_enter Tryz.func15, Tryz.ntmps15
 go_upto_region 0 with (fail)
 refine Reg.det [(some 3, Reg.Dv.box 3 49 (fun _ => #[.int .i64 T.f0, .int .i64 T.f1, .bool T.f2]) [] true), (some 4, Reg.Dv.box 4 39 (fun _ => #[.int .i64 sv.f0, .int .i64 sv.f1, .string sv.f2]) [] true), (some 6, Reg.Dv.box 6 39 (fun _ => #[.int .i64 0, .int .i64 0, .string (⟨#[]⟩ : ByteArray)]) [] true)] [] 111 rfl (by kernel_rfl) (by kernel_rfl) ?s1 ?_
 case s1 =>
  intro iq oq pq hiq hoq hpq ρ ev W S hE hO ec ef hB hft hΦ
  have e0 : ev (.tmp 0) = .agg #[.int .i64 T.f0, .int .i64 T.f1, .bool T.f2] := hO 0 rfl
  have e1 : ev (.tmp 1) = .agg #[.int .i64 sv.f0, .int .i64 sv.f1, .string sv.f2] := hO 1 rfl
  simp only [Reg.SV, val_str] at hE
  obtain ⟨e3, e4, e6, _⟩ := hE
  rcases Reg.lt3 hiq with rfl | rfl | rfl
  all_goals (cases hoq; cases hpq)
  rotate_left 2
  ·refine Reg.D.box hB ?_
   go_simp
   try rfl
  rotate_right 2
  rotate_left 1
  ·refine Reg.D.box hB ?_
   go_simp
   try rfl
  rotate_right 1
  ·refine Reg.D.box hB ?_
   go_simp
   try rfl
 intro ρ W0 S hB hft hap hΦ
 simp only [Reg.SV, val_str, Reg.SF, Nat.reduceAdd]
 obtain ⟨g3, e3, s3, hg3, _, b3⟩ := hΦ 0 _ rfl rfl
 replace e3 : ρ 3 = .pointer (some ⟨g3, 0, none⟩) := e3
 obtain ⟨g4, e4, s4, hg4, _, b4⟩ := hΦ 1 _ rfl rfl
 replace e4 : ρ 4 = .pointer (some ⟨g4, 0, none⟩) := e4
 obtain ⟨g6, e6, s6, hg6, _, b6⟩ := hΦ 2 _ rfl rfl
 replace e6 : ρ 6 = .pointer (some ⟨g6, 0, none⟩) := e6
 try simp only [e3, e4, e6]
 replace b3 : W0.heap[g3]? = some (.cells #[.int .i64 T.f0, .int .i64 T.f1, .bool T.f2] 49 (0, 0)) := b3
 replace b4 : W0.heap[g4]? = some (.cells #[.int .i64 sv.f0, .int .i64 sv.f1, .string sv.f2] 39 (0, 0)) := b4
 replace b6 : W0.heap[g6]? = some (.cells #[.int .i64 0, .int .i64 0, .string (⟨#[]⟩ : ByteArray)] 39 (0, 0)) := b6
 have HX := yC.mk (HX.out.join (((Bxs.one hB hg3 b3).more hg4 b4 (by intro p hp; simp only [List.mem_cons, List.mem_singleton, List.not_mem_nil, or_false] at hp; rcases hp with rfl <;> (intro e; dsimp only at e; subst e; first | exact absurd (hap _ _ _ s3 s4) (by decide)))).more hg6 b6 (by intro p hp; simp only [List.mem_cons, List.mem_singleton, List.not_mem_nil, or_false] at hp; rcases hp with rfl | rfl <;> (intro e; dsimp only at e; subst e; first | exact absurd (hap _ _ _ s3 s6) (by decide) | exact absurd (hap _ _ _ s4 s6) (by decide)))))
 clear hΦ hft hap 
 go_upto_region 1 with (fail)
 try simp only [Reg.SF]
 refine Reg.det [Reg.k 9 (.slice B nb cb), Reg.k 10 (.int .i64 K), Reg.k 11 (.slice B nb cb), Reg.k 12 (.int .i64 N), Reg.k 7 (.int .i64 K), Reg.k 8 (.int .i64 N)] [] 111 rfl (by kernel_rfl) (by kernel_rfl) ?s2 ?_
 case s2 =>
  intro iq oq pq hiq hoq hpq ρ ev W S hE hO ec ef hB hft hΦ
  have e2 : ev (.tmp 2) = .slice B nb cb := hO 2 rfl
  simp only [Reg.SV, val_str] at hE
  obtain ⟨e9, e10, e11, e12, e7, e8, _⟩ := hE
  rcases Reg.lt6 hiq with rfl | rfl | rfl | rfl | rfl | rfl
  all_goals (cases hoq; cases hpq)
  rotate_left 3
  ·refine Reg.D.cc (g := 36) (args := #[.slice B nb cb, .int .i64 1]) hB (by go_simp; try rfl) ?_
   exact HN.out W (yD HX.out.below hB)
  rotate_right 3
  rotate_left 1
  ·refine Reg.D.cc (g := 36) (args := #[.slice B nb cb, .int .i64 0]) hB (by go_simp; try rfl) ?_
   exact HK.out W (yD HX.out.below hB)
  rotate_right 1
  all_goals try exact Reg.D.mv hB
  all_goals exact Reg.D.cx hB
 intro ρ W1 S hB hft hap hΦ
 simp only [Reg.SV, val_str, Reg.SF, Nat.reduceAdd]
 have HX := HX.cl hB
 clear hΦ hft hap 
 obtain ⟨c2, hc2⟩ : ∃ b, (Int.tmod K 8 == 0) = b := ⟨_, rfl⟩
 have Ac2 := yC.mk hc2
 clear hc2
 obtain ⟨c4, hc4⟩ : ∃ b, (Int.tmod K 8 == 1) = b := ⟨_, rfl⟩
 have Ac4 := yC.mk hc4
 clear hc4
 obtain ⟨c6, hc6⟩ : ∃ b, (Int.tmod K 16 == 2) = b := ⟨_, rfl⟩
 have Ac6 := yC.mk hc6
 clear hc6
 obtain ⟨c8, hc8⟩ : ∃ b, (T.f0 == 1) = b := ⟨_, rfl⟩
 have Ac8 := yC.mk hc8
 clear hc8
 obtain ⟨cT, hcT⟩ : ∃ b, (T.f0 == 2) = b := ⟨_, rfl⟩
 have AcT := yC.mk hcT
 clear hcT
 obtain ⟨c14, hc14⟩ : ∃ b, (Int.tmod K 8 == 3) = b := ⟨_, rfl⟩
 have Ac14 := yC.mk hc14
 clear hc14
 obtain ⟨c16, hc16⟩ : ∃ b, (Int.tmod K 8 == 4) = b := ⟨_, rfl⟩
 have Ac16 := yC.mk hc16
 clear hc16
 obtain ⟨c5, hc5⟩ : ∃ b, decide (Int.tmod K 8 < 5) = b := ⟨_, rfl⟩
 have Ac5 := yC.mk hc5
 clear hc5
 have AcT2 : yC (cT = true → T.f0 = 2) := ⟨fun h => by have := AcT.out; rw [h] at this; simpa using this⟩
 go_upto_region 2 with (fail)
 try simp only [Reg.SF]
 refine Reg.det [Reg.k 14 (.int .i64 K), Reg.k 15 (.int .i64 (Int.tmod K 8)), Reg.k 16 (.bool c2), Reg.k 13 (.bool c2)] [] 111 rfl (by kernel_rfl) (by kernel_rfl) ?s3 ?_
 case s3 =>
  intro iq oq pq hiq hoq hpq ρ ev W S hE hO ec ef hB hft hΦ
  have e7 : ev (.tmp 7) = .int .i64 K := hO 7 rfl
  simp only [Reg.SV, val_str] at hE
  obtain ⟨e14, e15, e16, e13, _⟩ := hE
  rcases Reg.lt4 hiq with rfl | rfl | rfl | rfl
  all_goals (cases hoq; cases hpq)
  all_goals try exact Reg.D.mv hB
  all_goals (refine Reg.D.cv hB ?_; go_simp; try (first | done | rfl | (exact Ac2.out) | (simp; done)))
 intro ρ W2 S hB hft hap hΦ
 simp only [Reg.SV, val_str, Reg.SF, Nat.reduceAdd]
 have HX := HX.cl hB
 clear hΦ hft hap 
 cases c2 with
 | true =>
  go_upto_region 3 with (fail)
  try simp only [Reg.SF]
  refine Reg.det [Reg.k 17 (.agg #[.int .i64 sv.f0, .int .i64 sv.f1, .string sv.f2])] [] 111 rfl (by kernel_rfl) (by kernel_rfl) ?s4 ?_
  case s4 =>
   intro iq oq pq hiq hoq hpq ρ ev W S hE hO ec ef hB hft hΦ
   have e4 : ev (.tmp 4) = .pointer (some ⟨g4, 0, none⟩) := hO 4 rfl
   have mg4_0 := HX.pc hB 1 0 (.int .i64 sv.f0) rfl rfl
   have mg4_1 := HX.pc hB 1 1 (.int .i64 sv.f1) rfl rfl
   have mg4_2 := HX.pc hB 1 2 (.string sv.f2) rfl rfl
   simp only [Reg.SV, val_str] at hE
   obtain ⟨e17, _⟩ := hE
   obtain rfl : iq = 0 := by have : iq < 1 := hiq; omega
   cases hoq; cases hpq
   all_goals exact Reg.D.cx hB
  intro ρ W3 S hB hft hap hΦ
  simp only [Reg.SV, val_str, Reg.SF, Nat.reduceAdd]
  have HX := HX.cl hB
  clear hΦ hft hap 
  refine xG (w := w) rfl 39 (.tmp 6) (.tmp 17) rfl rfl (L1 := []) (cells := #[.int .i64 sv.f0, .int .i64 sv.f1, .string sv.f2]) HX.out rfl rfl (by kernel_rfl) rfl rfl ?_
  intro Wp hx
  have HX := yC.mk hx
  clear hx
  go_wp2_with fail
  refine bodyPost_ret (results_cell_row rfl _ _ g6 39 #[.int .i64 sv.f0, .int .i64 sv.f1, .string sv.f2] (0, 0) _ rfl (HX.out.at 0 rfl) hu39 rfl (by kernel_rfl)) rfl ?_
  exact ⟨⟨⟨sv.f0, sv.f1, sv.f2⟩, rfl, hsv, hsr⟩, HX.out.below⟩
 | false =>
  go_upto_region 4 with (fail)
  try simp only [Reg.SF]
  refine Reg.det [Reg.k 19 (.int .i64 K), Reg.k 20 (.int .i64 (Int.tmod K 8)), Reg.k 21 (.bool c4), Reg.k 18 (.bool c4)] [] 111 rfl (by kernel_rfl) (by kernel_rfl) ?s5 ?_
  case s5 =>
   intro iq oq pq hiq hoq hpq ρ ev W S hE hO ec ef hB hft hΦ
   have e7 : ev (.tmp 7) = .int .i64 K := hO 7 rfl
   simp only [Reg.SV, val_str] at hE
   obtain ⟨e19, e20, e21, e18, _⟩ := hE
   rcases Reg.lt4 hiq with rfl | rfl | rfl | rfl
   all_goals (cases hoq; cases hpq)
   all_goals try exact Reg.D.mv hB
   all_goals (refine Reg.D.cv hB ?_; go_simp; try (first | done | rfl | (exact Ac4.out) | (simp; done)))
  intro ρ W4 S hB hft hap hΦ
  simp only [Reg.SV, val_str, Reg.SF, Nat.reduceAdd]
  have HX := HX.cl hB
  clear hΦ hft hap 
  cases c4 with
  | true =>
   go_upto_region 5 with (fail)
   try simp only [Reg.SF]
   refine Reg.det [Reg.k 22 (.agg #[.int .i64 0, .int .i64 0, .string (⟨#[]⟩ : ByteArray)])] [] 111 rfl (by kernel_rfl) (by kernel_rfl) ?s6 ?_
   case s6 =>
    intro iq oq pq hiq hoq hpq ρ ev W S hE hO ec ef hB hft hΦ
    simp only [Reg.SV, val_str] at hE
    obtain ⟨e22, _⟩ := hE
    obtain rfl : iq = 0 := by have : iq < 1 := hiq; omega
    cases hoq; cases hpq
    all_goals exact Reg.D.cx hB
   intro ρ W5 S hB hft hap hΦ
   simp only [Reg.SV, val_str, Reg.SF, Nat.reduceAdd]
   have HX := HX.cl hB
   clear hΦ hft hap 
   refine xG (w := w) rfl 39 (.tmp 6) (.tmp 22) rfl rfl (L1 := []) (cells := #[.int .i64 0, .int .i64 0, .string (⟨#[]⟩ : ByteArray)]) HX.out rfl rfl (by kernel_rfl) rfl rfl ?_
   intro Wp hx
   have HX := yC.mk hx
   clear hx
   go_wp2_with fail
   refine bodyPost_ret (results_cell_row rfl _ _ g6 39 #[.int .i64 0, .int .i64 0, .string (⟨#[]⟩ : ByteArray)] (0, 0) _ rfl (HX.out.at 0 rfl) hu39 rfl (by kernel_rfl)) rfl ?_
   exact ⟨⟨⟨0, 0, (⟨#[]⟩ : ByteArray)⟩, rfl, (show (⟨#[]⟩ : ByteArray).size ≤ 100 by decide), fun h => absurd h (by show ¬ (0 : Int) = 1; decide)⟩, HX.out.below⟩
  | false =>
   go_upto_region 6 with (fail)
   try simp only [Reg.SF]
   refine Reg.det [Reg.k 24 (.int .i64 K), Reg.k 25 (.int .i64 (Int.tmod K 16)), Reg.k 26 (.bool c6), Reg.k 23 (.bool c6)] [] 111 rfl (by kernel_rfl) (by kernel_rfl) ?s7 ?_
   case s7 =>
    intro iq oq pq hiq hoq hpq ρ ev W S hE hO ec ef hB hft hΦ
    have e7 : ev (.tmp 7) = .int .i64 K := hO 7 rfl
    simp only [Reg.SV, val_str] at hE
    obtain ⟨e24, e25, e26, e23, _⟩ := hE
    rcases Reg.lt4 hiq with rfl | rfl | rfl | rfl
    all_goals (cases hoq; cases hpq)
    all_goals try exact Reg.D.mv hB
    all_goals (refine Reg.D.cv hB ?_; go_simp; try (first | done | rfl | (exact Ac6.out) | (simp; done)))
   intro ρ W6 S hB hft hap hΦ
   simp only [Reg.SV, val_str, Reg.SF, Nat.reduceAdd]
   have HX := HX.cl hB
   clear hΦ hft hap 
   cases c6 with
   | true =>
    go_upto_region 7 with (fail)
    try simp only [Reg.SF]
    refine Reg.det [Reg.k 27 (.int .i64 K), Reg.k 28 (.int .i64 (Int.tdiv K 16)), Reg.k 29 (.int .i64 X7), Reg.k 30 (.int .i64 N), Reg.k 31 (.int .i64 N2), Reg.k 32 (.agg #[.int .i64 X7, .int .i64 N2, .string (⟨#[]⟩ : ByteArray)])] [] 111 rfl (by kernel_rfl) (by kernel_rfl) ?s8 ?_
    case s8 =>
     intro iq oq pq hiq hoq hpq ρ ev W S hE hO ec ef hB hft hΦ
     have e7 : ev (.tmp 7) = .int .i64 K := hO 7 rfl
     have e8 : ev (.tmp 8) = .int .i64 N := hO 8 rfl
     simp only [Reg.SV, val_str] at hE
     obtain ⟨e27, e28, e29, e30, e31, e32, _⟩ := hE
     rcases Reg.lt6 hiq with rfl | rfl | rfl | rfl | rfl | rfl
     all_goals (cases hoq; cases hpq)
     all_goals try exact Reg.D.mv hB
     all_goals (refine Reg.D.cv hB ?_; go_simp; try (first | done | rfl | (exact hK16) | (exact hX7) | (exact hN2) | (simp; done)))
    intro ρ W7 S hB hft hap hΦ
    simp only [Reg.SV, val_str, Reg.SF, Nat.reduceAdd]
    have HX := HX.cl hB
    clear hΦ hft hap 
    refine xG (w := w) rfl 39 (.tmp 6) (.tmp 32) rfl rfl (L1 := []) (cells := #[.int .i64 X7, .int .i64 N2, .string (⟨#[]⟩ : ByteArray)]) HX.out rfl rfl (by kernel_rfl) rfl rfl ?_
    intro Wp hx
    have HX := yC.mk hx
    clear hx
    go_wp2_with fail
    refine bodyPost_ret (results_cell_row rfl _ _ g6 39 #[.int .i64 X7, .int .i64 N2, .string (⟨#[]⟩ : ByteArray)] (0, 0) _ rfl (HX.out.at 0 rfl) hu39 rfl (by kernel_rfl)) rfl ?_
    exact ⟨⟨⟨X7, N2, (⟨#[]⟩ : ByteArray)⟩, rfl, (show (⟨#[]⟩ : ByteArray).size ≤ 100 by decide), fun _ => hN2r⟩, HX.out.below⟩
   | false =>
    go_upto_region 8 with (fail)
    try simp only [Reg.SF]
    refine Reg.det [Reg.k 34 (.pointer (some ⟨g3, 0, none⟩)), Reg.k 35 (.int .i64 T.f0), Reg.k 36 (.bool c8), Reg.k 33 (.bool c8)] [] 111 rfl (by kernel_rfl) (by kernel_rfl) ?s9 ?_
    case s9 =>
     intro iq oq pq hiq hoq hpq ρ ev W S hE hO ec ef hB hft hΦ
     have e3 : ev (.tmp 3) = .pointer (some ⟨g3, 0, none⟩) := hO 3 rfl
     have mg3_0 := HX.pc hB 2 0 (.int .i64 T.f0) rfl rfl
     simp only [Reg.SV, val_str] at hE
     obtain ⟨e34, e35, e36, e33, _⟩ := hE
     rcases Reg.lt4 hiq with rfl | rfl | rfl | rfl
     all_goals (cases hoq; cases hpq)
     all_goals try exact Reg.D.mv hB
     all_goals (refine Reg.D.cv hB ?_; go_simp; try (first | done | rfl | (exact Ac8.out) | (simp; done)))
    intro ρ W8 S hB hft hap hΦ
    simp only [Reg.SV, val_str, Reg.SF, Nat.reduceAdd]
    have HX := HX.cl hB
    clear hΦ hft hap 
    cases c8 with
    | true =>
     go_upto_region 9 with (fail)
     try simp only [Reg.SF]
     refine Reg.det [Reg.k 37 (.int .i64 N), Reg.k 38 (.int .i64 N2), Reg.k 39 (.agg #[.int .i64 1, .int .i64 N2, .string (⟨#[]⟩ : ByteArray)])] [] 111 rfl (by kernel_rfl) (by kernel_rfl) ?s10 ?_
     case s10 =>
      intro iq oq pq hiq hoq hpq ρ ev W S hE hO ec ef hB hft hΦ
      have e8 : ev (.tmp 8) = .int .i64 N := hO 8 rfl
      simp only [Reg.SV, val_str] at hE
      obtain ⟨e37, e38, e39, _⟩ := hE
      rcases Reg.lt3 hiq with rfl | rfl | rfl
      all_goals (cases hoq; cases hpq)
      all_goals try exact Reg.D.mv hB
      all_goals (refine Reg.D.cv hB ?_; go_simp; try (first | done | rfl | (exact hN2) | (simp; done)))
     intro ρ W9 S hB hft hap hΦ
     simp only [Reg.SV, val_str, Reg.SF, Nat.reduceAdd]
     have HX := HX.cl hB
     clear hΦ hft hap 
     refine xG (w := w) rfl 39 (.tmp 6) (.tmp 39) rfl rfl (L1 := []) (cells := #[.int .i64 1, .int .i64 N2, .string (⟨#[]⟩ : ByteArray)]) HX.out rfl rfl (by kernel_rfl) rfl rfl ?_
     intro Wp hx
     have HX := yC.mk hx
     clear hx
     go_wp2_with fail
     refine bodyPost_ret (results_cell_row rfl _ _ g6 39 #[.int .i64 1, .int .i64 N2, .string (⟨#[]⟩ : ByteArray)] (0, 0) _ rfl (HX.out.at 0 rfl) hu39 rfl (by kernel_rfl)) rfl ?_
     exact ⟨⟨⟨1, N2, (⟨#[]⟩ : ByteArray)⟩, rfl, (show (⟨#[]⟩ : ByteArray).size ≤ 100 by decide), fun _ => hN2r⟩, HX.out.below⟩
    | false =>
     go_upto_region 10 with (fail)
     go_cut [40] (fun v40 wd => v40 = .bool (cT && c5) ∧ yC (Bxs w wd [(g6, 39, #[.int .i64 0, .int .i64 0, .string (⟨#[]⟩ : ByteArray)]), (g4, 39, #[.int .i64 sv.f0, .int .i64 sv.f1, .string sv.f2]), (g3, 49, #[.int .i64 T.f0, .int .i64 T.f1, .bool T.f2])]))
     case first =>
      cases cT with
      | true =>
       go_upto_region 10 with (fail)
       try simp only [Reg.SF]
       refine Reg.det [Reg.k 41 (.pointer (some ⟨g3, 0, none⟩)), Reg.k 42 (.int .i64 T.f0), Reg.k 43 (.bool true), Reg.k 44 (.bool true), Reg.k 45 (.int .i64 K), Reg.k 46 (.int .i64 (Int.tmod K 8)), Reg.k 47 (.bool c5), Reg.k 48 (.bool c5), Reg.k 40 (.bool c5)] [] 111 rfl (by kernel_rfl) (by kernel_rfl) ?s11 ?_
       case s11 =>
        intro iq oq pq hiq hoq hpq ρ ev W S hE hO ec ef hB hft hΦ
        have e3 : ev (.tmp 3) = .pointer (some ⟨g3, 0, none⟩) := hO 3 rfl
        have e7 : ev (.tmp 7) = .int .i64 K := hO 7 rfl
        have mg3_0 := HX.pc hB 2 0 (.int .i64 T.f0) rfl rfl
        simp only [Reg.SV, val_str] at hE
        obtain ⟨e41, e42, e43, e44, e45, e46, e47, e48, e40, _⟩ := hE
        rcases Reg.lt9 hiq with rfl | rfl | rfl | rfl | rfl | rfl | rfl | rfl | rfl
        all_goals (cases hoq; cases hpq)
        all_goals try exact Reg.D.mv hB
        all_goals (refine Reg.D.cv hB ?_; go_simp; try (first | done | rfl | (exact Ac5.out) | (have := AcT.out; simp at this; simp [this]; done) | (have := AcT.out; simp at this; omega) | (simp; done)))
       intro ρ W10 S hB hft hap hΦ
       simp only [Reg.SV, val_str, Reg.SF, Nat.reduceAdd]
       have HX := HX.cl hB
       clear hΦ hft hap 
       go_wp2_with fail
       go_meet
       case rel => exact ⟨by first | rfl | simp, HX⟩
      | false =>
       go_upto_region 10 with (fail)
       try simp only [Reg.SF]
       refine Reg.det [Reg.k 41 (.pointer (some ⟨g3, 0, none⟩)), Reg.k 42 (.int .i64 T.f0), Reg.k 43 (.bool false), Reg.k 44 (.bool false), Reg.u 45, Reg.u 46, Reg.u 47, Reg.k 48 (.bool false), Reg.k 40 (.bool false)] [] 111 rfl (by kernel_rfl) (by kernel_rfl) ?s12 ?_
       case s12 =>
        intro iq oq pq hiq hoq hpq ρ ev W S hE hO ec ef hB hft hΦ
        have e3 : ev (.tmp 3) = .pointer (some ⟨g3, 0, none⟩) := hO 3 rfl
        have e7 : ev (.tmp 7) = .int .i64 K := hO 7 rfl
        have mg3_0 := HX.pc hB 2 0 (.int .i64 T.f0) rfl rfl
        simp only [Reg.SV, val_str] at hE
        obtain ⟨e41, e42, e43, e44, e45, e46, e47, e48, e40, _⟩ := hE
        rcases Reg.lt9 hiq with rfl | rfl | rfl | rfl | rfl | rfl | rfl | rfl | rfl
        all_goals (cases hoq; cases hpq)
        all_goals (first | exact Reg.D.sk hB | skip)
        all_goals try exact Reg.D.mv hB
        all_goals (refine Reg.D.cv hB ?_; go_simp; try (first | done | rfl | (exact Ac5.out) | (have := AcT.out; simp at this; simp [this]; done) | (have := AcT.out; simp at this; omega) | (simp; done)))
       intro ρ W10 S hB hft hap hΦ
       simp only [Reg.SV, val_str, Reg.SF, Nat.reduceAdd]
       have HX := HX.cl hB
       clear hΦ hft hap 
       go_wp2_with fail
       go_meet
       case rel => exact ⟨by first | rfl | simp, HX⟩
     clear HX 
     obtain ⟨hv40, HX⟩ := hcut
     generalize wc = W10c at *
     subst hv40
     obtain ⟨cz, hcz⟩ : ∃ b, (cT && c5) = b := ⟨_, rfl⟩
     rw [hcz]
     have ACZ := yC.mk hcz
     clear hcz
     cases cz with
     | true =>
      have h2 := AcT2.out (by have := ACZ.out; rw [Bool.and_eq_true] at this; exact this.1)
      obtain ⟨CV, hCV⟩ := HCu.out h2
      have HCV := yC.mk hCV
      clear hCV h2
      go_upto_region 11 with (fail)
      try simp only [Reg.SF]
      refine Reg.det [Reg.k 49 (.int .i64 N), Reg.k 50 (.int .i64 (N - 128)), Reg.k 51 (.int .i64 K), Reg.k 52 (.int .i64 (Int.tdiv K 8)), Reg.k 53 (.int .i64 X11), Reg.k 54 (.int .i64 P11), Reg.k 55 (.int .i64 M11), Reg.k 56 (.pointer (some ⟨g3, 1, none⟩)), Reg.k 57 (.int .i64 T.f1), Reg.k 58 (.int .i64 CV), Reg.k 59 (.agg #[.int .i64 2, .int .i64 CV, .string (⟨#[]⟩ : ByteArray)])] [] 111 rfl (by kernel_rfl) (by kernel_rfl) ?s13 ?_
      case s13 =>
       intro iq oq pq hiq hoq hpq ρ ev W S hE hO ec ef hB hft hΦ
       have e3 : ev (.tmp 3) = .pointer (some ⟨g3, 0, none⟩) := hO 3 rfl
       have e7 : ev (.tmp 7) = .int .i64 K := hO 7 rfl
       have e8 : ev (.tmp 8) = .int .i64 N := hO 8 rfl
       have mg3_1 := HX.pc hB 2 1 (.int .i64 T.f1) rfl rfl
       simp only [Reg.SV, val_str] at hE
       obtain ⟨e49, e50, e51, e52, e53, e54, e55, e56, e57, e58, e59, _⟩ := hE
       rcases Reg.lt11 hiq with rfl | rfl | rfl | rfl | rfl | rfl | rfl | rfl | rfl | rfl | rfl
       all_goals (cases hoq; cases hpq)
       rotate_left 9
       ·refine Reg.D.cc (g := 21) (args := #[.int .i64 M11, .int .i64 T.f1]) hB (by go_simp; try rfl) ?_
        exact HCV.out W
       rotate_right 9
       rotate_left 5
       ·refine Reg.D.cc (g := 37) (args := #[.int .i64 X11]) hB (by go_simp; try rfl) ?_
        exact HP11.out W
       rotate_right 5
       all_goals try exact Reg.D.mv hB
       all_goals (refine Reg.D.cv hB ?_; go_simp; try (first | done | rfl | (exact w128) | (exact hK8) | (exact hX11) | (exact hM11) | (simp; done)))
      intro ρ W11 S hB hft hap hΦ
      simp only [Reg.SV, val_str, Reg.SF, Nat.reduceAdd]
      have HX := HX.cl hB
      clear hΦ hft hap 
      refine xG (w := w) rfl 39 (.tmp 6) (.tmp 59) rfl rfl (L1 := []) (cells := #[.int .i64 2, .int .i64 CV, .string (⟨#[]⟩ : ByteArray)]) HX.out rfl rfl (by kernel_rfl) rfl rfl ?_
      intro Wp hx
      have HX := yC.mk hx
      clear hx
      go_wp2_with fail
      refine bodyPost_ret (results_cell_row rfl _ _ g6 39 #[.int .i64 2, .int .i64 CV, .string (⟨#[]⟩ : ByteArray)] (0, 0) _ rfl (HX.out.at 0 rfl) hu39 rfl (by kernel_rfl)) rfl ?_
      exact ⟨⟨⟨2, CV, (⟨#[]⟩ : ByteArray)⟩, rfl, (show (⟨#[]⟩ : ByteArray).size ≤ 100 by decide), fun h => absurd h (by show ¬ (2 : Int) = 1; decide)⟩, HX.out.below⟩
     | false =>
      go_upto_region 12 with (fail)
      try simp only [Reg.SF]
      refine Reg.det [Reg.k 61 (.pointer (some ⟨g3, 0, none⟩)), Reg.k 62 (.int .i64 T.f0), Reg.k 63 (.bool cT), Reg.k 60 (.bool cT)] [] 111 rfl (by kernel_rfl) (by kernel_rfl) ?s14 ?_
      case s14 =>
       intro iq oq pq hiq hoq hpq ρ ev W S hE hO ec ef hB hft hΦ
       have e3 : ev (.tmp 3) = .pointer (some ⟨g3, 0, none⟩) := hO 3 rfl
       have mg3_0 := HX.pc hB 2 0 (.int .i64 T.f0) rfl rfl
       simp only [Reg.SV, val_str] at hE
       obtain ⟨e61, e62, e63, e60, _⟩ := hE
       rcases Reg.lt4 hiq with rfl | rfl | rfl | rfl
       all_goals (cases hoq; cases hpq)
       all_goals try exact Reg.D.mv hB
       all_goals (refine Reg.D.cv hB ?_; go_simp; try (first | done | rfl | (exact AcT.out) | (simp; done)))
      intro ρ W12 S hB hft hap hΦ
      simp only [Reg.SV, val_str, Reg.SF, Nat.reduceAdd]
      have HX := HX.cl hB
      clear hΦ hft hap 
      cases cT with
      | true =>
       have h2 := AcT2.out rfl
       obtain ⟨P13, hP13⟩ := HP6.out h2
       have HP13 := yC.mk hP13
       clear hP13 h2
       obtain ⟨M13, hM13⟩ : ∃ z, IntKind.i64.wrap (X13 * P13) = z := ⟨_, rfl⟩
       obtain ⟨Y13, hY13⟩ : ∃ z, IntKind.i64.wrap (sv.f1 + M13) = z := ⟨_, rfl⟩
       go_upto_region 13 with (fail)
       try simp only [Reg.SF]
       refine Reg.det [Reg.k 64 (.pointer (some ⟨g4, 1, none⟩)), Reg.k 65 (.int .i64 sv.f1), Reg.k 66 (.int .i64 N), Reg.k 67 (.int .i64 N5), Reg.k 68 (.int .i64 X13), Reg.k 69 (.pointer (some ⟨g3, 1, none⟩)), Reg.k 70 (.int .i64 T.f1), Reg.k 71 (.int .i64 S6), Reg.k 72 (.int .i64 P13), Reg.k 73 (.int .i64 M13), Reg.k 74 (.int .i64 Y13), Reg.k 75 (.agg #[.int .i64 2, .int .i64 Y13, .string (⟨#[]⟩ : ByteArray)])] [] 111 rfl (by kernel_rfl) (by kernel_rfl) ?s15 ?_
       case s15 =>
        intro iq oq pq hiq hoq hpq ρ ev W S hE hO ec ef hB hft hΦ
        have e3 : ev (.tmp 3) = .pointer (some ⟨g3, 0, none⟩) := hO 3 rfl
        have e4 : ev (.tmp 4) = .pointer (some ⟨g4, 0, none⟩) := hO 4 rfl
        have e8 : ev (.tmp 8) = .int .i64 N := hO 8 rfl
        have mg4_1 := HX.pc hB 1 1 (.int .i64 sv.f1) rfl rfl
        have mg3_1 := HX.pc hB 2 1 (.int .i64 T.f1) rfl rfl
        simp only [Reg.SV, val_str] at hE
        obtain ⟨e64, e65, e66, e67, e68, e69, e70, e71, e72, e73, e74, e75, _⟩ := hE
        rcases Reg.lt12 hiq with rfl | rfl | rfl | rfl | rfl | rfl | rfl | rfl | rfl | rfl | rfl | rfl
        all_goals (cases hoq; cases hpq)
        rotate_left 8
        ·refine Reg.D.cc (g := 37) (args := #[.int .i64 S6]) hB (by go_simp; try rfl) ?_
         exact HP13.out W
        rotate_right 8
        all_goals try exact Reg.D.mv hB
        all_goals (refine Reg.D.cv hB ?_; go_simp; try (first | done | rfl | (exact hN5) | (exact hX13) | (exact hS6) | (exact hM13) | (exact hY13) | (simp; done)))
       intro ρ W13 S hB hft hap hΦ
       simp only [Reg.SV, val_str, Reg.SF, Nat.reduceAdd]
       have HX := HX.cl hB
       clear hΦ hft hap 
       refine xG (w := w) rfl 39 (.tmp 6) (.tmp 75) rfl rfl (L1 := []) (cells := #[.int .i64 2, .int .i64 Y13, .string (⟨#[]⟩ : ByteArray)]) HX.out rfl rfl (by kernel_rfl) rfl rfl ?_
       intro Wp hx
       have HX := yC.mk hx
       clear hx
       go_wp2_with fail
       refine bodyPost_ret (results_cell_row rfl _ _ g6 39 #[.int .i64 2, .int .i64 Y13, .string (⟨#[]⟩ : ByteArray)] (0, 0) _ rfl (HX.out.at 0 rfl) hu39 rfl (by kernel_rfl)) rfl ?_
       exact ⟨⟨⟨2, Y13, (⟨#[]⟩ : ByteArray)⟩, rfl, (show (⟨#[]⟩ : ByteArray).size ≤ 100 by decide), fun h => absurd h (by show ¬ (2 : Int) = 1; decide)⟩, HX.out.below⟩
      | false =>
       go_upto_region 14 with (fail)
       try simp only [Reg.SF]
       refine Reg.det [Reg.k 77 (.int .i64 K), Reg.k 78 (.int .i64 (Int.tmod K 8)), Reg.k 79 (.bool c14), Reg.k 76 (.bool c14)] [] 111 rfl (by kernel_rfl) (by kernel_rfl) ?s16 ?_
       case s16 =>
        intro iq oq pq hiq hoq hpq ρ ev W S hE hO ec ef hB hft hΦ
        have e7 : ev (.tmp 7) = .int .i64 K := hO 7 rfl
        simp only [Reg.SV, val_str] at hE
        obtain ⟨e77, e78, e79, e76, _⟩ := hE
        rcases Reg.lt4 hiq with rfl | rfl | rfl | rfl
        all_goals (cases hoq; cases hpq)
        all_goals try exact Reg.D.mv hB
        all_goals (refine Reg.D.cv hB ?_; go_simp; try (first | done | rfl | (exact Ac14.out) | (simp; done)))
       intro ρ W14 S hB hft hap hΦ
       simp only [Reg.SV, val_str, Reg.SF, Nat.reduceAdd]
       have HX := HX.cl hB
       clear hΦ hft hap 
       cases c14 with
       | true =>
        go_upto_region 15 with (fail)
        try simp only [Reg.SF]
        refine Reg.det [Reg.k 80 (.int .i64 N), Reg.k 81 (.int .i64 (N - 128)), Reg.k 82 (.int .i64 K), Reg.k 83 (.int .i64 (Int.tdiv K 8)), Reg.k 84 (.int .i64 X15), Reg.k 85 (.int .i64 P15), Reg.k 86 (.int .i64 M15), (some 87, strDv 87), (some 88, Reg.Dv.u [87] (fun l => .agg #[.int .i64 3, .int .i64 0, (l.headD undef)]))] [] 111 rfl (by kernel_rfl) (by kernel_rfl) ?s17 ?_
        case s17 =>
         intro iq oq pq hiq hoq hpq ρ ev W S hE hO ec ef hB hft hΦ
         have e7 : ev (.tmp 7) = .int .i64 K := hO 7 rfl
         have e8 : ev (.tmp 8) = .int .i64 N := hO 8 rfl
         simp only [Reg.SV, val_str] at hE
         obtain ⟨e80, e81, e82, e83, e84, e85, e86, e87, e88, _⟩ := hE
         rcases Reg.lt9 hiq with rfl | rfl | rfl | rfl | rfl | rfl | rfl | rfl | rfl
         all_goals (cases hoq; cases hpq)
         rotate_left 8
         ·refine Reg.D.uc (g := 29) (args := #[ρ 87]) hB (by go_simp; try rfl) ?_
          obtain ⟨s87, h87, _⟩ := hΦ 7 _ rfl rfl rfl
          replace h87 : ρ 87 = .string s87 := h87
          simp only [List.map_cons, List.map_nil, List.headD_cons, h87]
          exact chapmanref16_Texted.calls s87 3 0 s87 W rfl
         rotate_right 8
         rotate_left 7
         ·refine Reg.D.call (g := 38) (args := #[.int .i64 M15]) (by go_simp; try rfl) ?_
          exact str_step hB (HTx.out W)
         rotate_right 7
         rotate_left 5
         ·refine Reg.D.cc (g := 37) (args := #[.int .i64 X15]) hB (by go_simp; try rfl) ?_
          exact HP15.out W
         rotate_right 5
         all_goals try exact Reg.D.mv hB
         all_goals (refine Reg.D.cv hB ?_; go_simp; try (first | done | rfl | (exact w128) | (exact hK8) | (exact hX15) | (exact hM15) | (simp; done)))
        intro ρ W15 S hB hft hap hΦ
        simp only [Reg.SV, val_str, Reg.SF, Nat.reduceAdd]
        obtain ⟨s87, e87, z87⟩ := hΦ 7 _ rfl rfl
        replace e87 : ρ 87 = .string s87 := e87
        try simp only [e87]
        have HX := HX.cl hB
        clear hΦ hft hap 
        refine xG (w := w) rfl 39 (.tmp 6) (.tmp 88) rfl rfl (L1 := []) (cells := #[.int .i64 3, .int .i64 0, .string s87]) HX.out rfl rfl (by kernel_rfl) rfl rfl ?_
        intro Wp hx
        have HX := yC.mk hx
        clear hx
        go_wp2_with fail
        refine bodyPost_ret (results_cell_row rfl _ _ g6 39 #[.int .i64 3, .int .i64 0, .string s87] (0, 0) _ rfl (HX.out.at 0 rfl) hu39 rfl (by kernel_rfl)) rfl ?_
        exact ⟨⟨⟨3, 0, s87⟩, rfl, by show s87.size ≤ 100; omega, fun h => absurd h (by show ¬ (3 : Int) = 1; decide)⟩, HX.out.below⟩
       | false =>
        go_upto_region 16 with (fail)
        try simp only [Reg.SF]
        refine Reg.det [Reg.k 90 (.int .i64 K), Reg.k 91 (.int .i64 (Int.tmod K 8)), Reg.k 92 (.bool c16), Reg.k 89 (.bool c16)] [] 111 rfl (by kernel_rfl) (by kernel_rfl) ?s18 ?_
        case s18 =>
         intro iq oq pq hiq hoq hpq ρ ev W S hE hO ec ef hB hft hΦ
         have e7 : ev (.tmp 7) = .int .i64 K := hO 7 rfl
         simp only [Reg.SV, val_str] at hE
         obtain ⟨e90, e91, e92, e89, _⟩ := hE
         rcases Reg.lt4 hiq with rfl | rfl | rfl | rfl
         all_goals (cases hoq; cases hpq)
         all_goals try exact Reg.D.mv hB
         all_goals (refine Reg.D.cv hB ?_; go_simp; try (first | done | rfl | (exact Ac16.out) | (simp; done)))
        intro ρ W16 S hB hft hap hΦ
        simp only [Reg.SV, val_str, Reg.SF, Nat.reduceAdd]
        have HX := HX.cl hB
        clear hΦ hft hap 
        cases c16 with
        | true =>
         go_upto_region 17 with (fail)
         try simp only [Reg.SF]
         refine Reg.det [Reg.k 93 (.pointer (some ⟨g4, 2, none⟩)), Reg.k 94 (.string sv.f2), Reg.k 95 (.int .i64 N), Reg.k 96 (.pointer (some ⟨g4, 2, none⟩)), Reg.k 97 (.string sv.f2), Reg.k 98 (.int .i64 sv.f2.size), Reg.k 99 (.int .i64 L17), Reg.k 100 (.int .i64 J17), Reg.k 101 (.string (sv.f2.extract 0 J17.toNat)), Reg.k 102 (.agg #[.int .i64 3, .int .i64 0, .string (sv.f2.extract 0 J17.toNat)])] [] 111 rfl (by kernel_rfl) (by kernel_rfl) ?s19 ?_
         case s19 =>
          intro iq oq pq hiq hoq hpq ρ ev W S hE hO ec ef hB hft hΦ
          have e4 : ev (.tmp 4) = .pointer (some ⟨g4, 0, none⟩) := hO 4 rfl
          have e8 : ev (.tmp 8) = .int .i64 N := hO 8 rfl
          have mg4_2 := HX.pc hB 1 2 (.string sv.f2) rfl rfl
          simp only [Reg.SV, val_str] at hE
          obtain ⟨e93, e94, e95, e96, e97, e98, e99, e100, e101, e102, _⟩ := hE
          rcases Reg.lt10 hiq with rfl | rfl | rfl | rfl | rfl | rfl | rfl | rfl | rfl | rfl
          all_goals (cases hoq; cases hpq)
          rotate_left 9
          ·refine Reg.D.cc (g := 29) (args := #[.string (sv.f2.extract 0 J17.toNat)]) hB (by go_simp; try rfl) ?_
           exact chapmanref16_Texted.calls (sv.f2.extract 0 J17.toNat) 3 0 (sv.f2.extract 0 J17.toNat) W rfl
          rotate_right 9
          all_goals try exact Reg.D.mv hB
          all_goals (refine Reg.D.cv hB ?_; go_simp; try (first | done | rfl | (exact hL17) | (exact hJ17) | (rw [if_pos hJa, if_pos hJb]; rfl) | (simp [hJa, hJb]; done) | (simp; done)))
         intro ρ W17 S hB hft hap hΦ
         simp only [Reg.SV, val_str, Reg.SF, Nat.reduceAdd]
         have HX := HX.cl hB
         clear hΦ hft hap 
         refine xG (w := w) rfl 39 (.tmp 6) (.tmp 102) rfl rfl (L1 := []) (cells := #[.int .i64 3, .int .i64 0, .string (sv.f2.extract 0 J17.toNat)]) HX.out rfl rfl (by kernel_rfl) rfl rfl ?_
         intro Wp hx
         have HX := yC.mk hx
         clear hx
         go_wp2_with fail
         refine bodyPost_ret (results_cell_row rfl _ _ g6 39 #[.int .i64 3, .int .i64 0, .string (sv.f2.extract 0 J17.toNat)] (0, 0) _ rfl (HX.out.at 0 rfl) hu39 rfl (by kernel_rfl)) rfl ?_
         exact ⟨⟨⟨3, 0, (sv.f2.extract 0 J17.toNat)⟩, rfl, by show ByteArray.size _ ≤ 100; rw [ByteArray.size_extract]; omega, fun h => absurd h (by show ¬ (3 : Int) = 1; decide)⟩, HX.out.below⟩
        | false =>
         go_upto_region 18 with (fail)
         try simp only [Reg.SF]
         refine Reg.det [Reg.k 103 (.int .i64 K), Reg.k 104 (.int .i64 (Int.tdiv K 8)), Reg.k 105 (.int .i64 X18), Reg.k 106 (.int .i64 N), Reg.k 107 (.int .i64 Y18), Reg.k 108 (.int .i64 N), Reg.k 109 (.string WS), Reg.k 110 (.agg #[.int .i64 3, .int .i64 0, .string WS])] [] 111 rfl (by kernel_rfl) (by kernel_rfl) ?s20 ?_
         case s20 =>
          intro iq oq pq hiq hoq hpq ρ ev W S hE hO ec ef hB hft hΦ
          have e7 : ev (.tmp 7) = .int .i64 K := hO 7 rfl
          have e8 : ev (.tmp 8) = .int .i64 N := hO 8 rfl
          simp only [Reg.SV, val_str] at hE
          obtain ⟨e103, e104, e105, e106, e107, e108, e109, e110, _⟩ := hE
          rcases Reg.lt8 hiq with rfl | rfl | rfl | rfl | rfl | rfl | rfl | rfl
          all_goals (cases hoq; cases hpq)
          rotate_left 7
          ·refine Reg.D.cc (g := 29) (args := #[.string WS]) hB (by go_simp; try rfl) ?_
           exact chapmanref16_Texted.calls WS 3 0 WS W rfl
          rotate_right 7
          rotate_left 6
          ·refine Reg.D.cc (g := 39) (args := #[.int .i64 Y18, .int .i64 N]) hB (by go_simp; try rfl) ?_
           exact HWo.out W
          rotate_right 6
          all_goals try exact Reg.D.mv hB
          all_goals (refine Reg.D.cv hB ?_; go_simp; try (first | done | rfl | (exact hK8) | (exact hX18) | (exact hY18) | (simp; done)))
         intro ρ W18 S hB hft hap hΦ
         simp only [Reg.SV, val_str, Reg.SF, Nat.reduceAdd]
         have HX := HX.cl hB
         clear hΦ hft hap 
         refine xG (w := w) rfl 39 (.tmp 6) (.tmp 110) rfl rfl (L1 := []) (cells := #[.int .i64 3, .int .i64 0, .string WS]) HX.out rfl rfl (by kernel_rfl) rfl rfl ?_
         intro Wp hx
         have HX := yC.mk hx
         clear hx
         go_wp2_with fail
         refine bodyPost_ret (results_cell_row rfl _ _ g6 39 #[.int .i64 3, .int .i64 0, .string WS] (0, 0) _ rfl (HX.out.at 0 rfl) hu39 rfl (by kernel_rfl)) rfl ?_
         exact ⟨⟨⟨3, 0, WS⟩, rfl, by have := HWS.out; show WS.size ≤ 100; omega, fun h => absurd h (by show ¬ (3 : Int) = 1; decide)⟩, HX.out.below⟩
theorem Wish_calls {T : S49} {sv : S39} (hT : typOk T) (hsv : sv.f2.size ≤ 100) (hsr : rngV sv) (B : Option Addr) (cb : Nat) (lb : List Int) (hlb : ∀ x, x ∈ lb → 0 ≤ x ∧ x ≤ 255) (hcb : lb.length ≤ cb) (w : World) (hrb : Kd.C (Kd.int .u8) w B lb.length lb) :
  Calls Tryz.prog 15 #[.agg #[.int .i64 T.f0, .int .i64 T.f1, .bool T.f2], .agg #[.int .i64 sv.f0, .int .i64 sv.f1, .string sv.f2], .slice B lb.length cb] w fun e w' => (∃ v : S39, e = .returned (.agg (vC v)) ∧ v.f2.size ≤ 100 ∧ rngV v) ∧ Below w.heap.size w w' := by
 have hK := byteV_in hlb 0
 have hN := byteV_in hlb 1
 have HK := (byte_calls hrb hcb).out 0 (by decide) (by decide)
 have HN := (byte_calls hrb hcb).out 1 (by decide) (by decide)
 generalize byteV lb 0 = K at hK HK
 generalize byteV lb 1 = N at hN HN
 have e8 : Int.tdiv K 8 = K / 8 := Int.tdiv_eq_ediv_of_nonneg hK.1
 have e16 : Int.tdiv K 16 = K / 16 := Int.tdiv_eq_ediv_of_nonneg hK.1
 have x11 : 0 ≤ Int.tmod (Int.tdiv K 8) 12 ∧ Int.tmod (Int.tdiv K 8) 12 ≤ 11 := by rw [e8, Int.tmod_eq_emod_of_nonneg (by omega)]; omega
 have x15 : 0 ≤ Int.tmod (Int.tdiv K 8) 9 ∧ Int.tmod (Int.tdiv K 8) 9 ≤ 11 := by rw [e8, Int.tmod_eq_emod_of_nonneg (by omega)]; omega
 obtain ⟨P11, hP11, g11⟩ := power_calls.out _ x11.1 x11.2
 obtain ⟨P15, hP15, g15⟩ := power_calls.out _ x15.1 x15.2
 have m15 := mul_in (a := N - 128) (by omega) (by omega) hP15.1 hP15.2
 have w15 : IntKind.i64.wrap ((N - 128) * P15) = (N - 128) * P15 := by rw [IntKind.wrap_i64]; generalize (N - 128) * P15 = z at *; omega
 have h2 : T.f0 = 2 → 0 ≤ T.f1 ∧ T.f1 ≤ 6 := fun h => by rcases hT with h3 | h3 | h3 <;> omega
 have w6 : T.f0 = 2 → IntKind.i64.wrap (6 - T.f1) = 6 - T.f1 := fun h => by have := h2 h; rw [IntKind.wrap_i64]; omega
 have y18 : IntKind.i64.wrap (IntKind.i64.wrap (Int.tdiv K 8 * 5) + N) = K / 8 * 5 + N := by rw [e8, IntKind.wrap_i64, IntKind.wrap_i64]; omega
 have l17 : IntKind.i64.wrap ((sv.f2.size : Int) + 1) = (sv.f2.size : Int) + 1 := by rw [IntKind.wrap_i64]; omega
 have j0 : 0 ≤ Int.tmod N (IntKind.i64.wrap ((sv.f2.size : Int) + 1)) := Int.tmod_nonneg _ hN.1
 have j1 : Int.tmod N (IntKind.i64.wrap ((sv.f2.size : Int) + 1)) < IntKind.i64.wrap ((sv.f2.size : Int) + 1) := Int.tmod_lt_of_pos _ (by omega)
 obtain ⟨WS, hWS, hs40, _⟩ := word_l0 (a := K / 8 * 5 + N) (b := N) (by omega) (by omega) hN.1 hN.2 8 ⟨#[]⟩ 0 100 (by omega) (by omega) (by decide) (by decide)
 exact wish_walk T sv B lb.length cb K N _ _ _ P11 _ _ _ _ _ P15 _ _ _ _ _ WS w hsv hsr (by rw [Int.tmod_eq_emod_of_nonneg hN.1]; omega) ⟨HK⟩ ⟨HN⟩ (by rw [IntKind.wrap_i64, e16]; omega) rfl rfl (by rw [IntKind.wrap_i64]; omega) (by rw [IntKind.wrap_i64, e8]; omega) rfl rfl rfl rfl rfl rfl rfl rfl rfl (by omega) j0 (by omega) rfl rfl ⟨g11⟩ ⟨g15⟩
  ⟨fun h => ⟨stepOf T.f1, fun w' => (chapmanref16_power.calls 14 _ (stepOf T.f1) w' (by rw [w6 h]; exact step_pow _ (h2 h).1 (h2 h).2)).mono fun r w'' h => ⟨h.1, xS h.2⟩⟩⟩ ⟨fun h => Cut_ex _ _ (h2 h).1 (h2 h).2⟩ ⟨fun w' => by rw [w15]; exact text_all _ (by generalize (N - 128) * P15 = z at *; omega) (by generalize (N - 128) * P15 = z at *; omega) w'⟩ ⟨fun w' => by rw [y18]; exact chapmanref16_word.calls 100 _ _ WS w' hWS⟩ ⟨hs40⟩
end
section
open Go.RowKit YtmebkjdknhknbaaGreatDoor.G
def atF (s sep : ByteArray) : Nat → Nat → Int | 0, _ => -1 | n + 1, i => if ((s.extract i (i + 1)).toList == sep.toList) = true then (i : Int) else atF s sep n (i + 1)
theorem atF_in (s sep : ByteArray) : ∀ n i : Nat, -1 ≤ atF s sep n i ∧ atF s sep n i < (n + i : Nat)
 | 0, i => ⟨by show (-1 : Int) ≤ -1; omega, by show (-1 : Int) < _; omega⟩
 | n + 1, i => by
  unfold atF
  split
  ·omega
  ·have := atF_in s sep n (i + 1); omega
theorem At_calls (s sep : ByteArray) (hs : s.size ≤ 1000) (w : World) : Calls Tryz.prog 61 #[.string s, .string sep] w fun e w' => e = .returned (.int .i64 (atF s sep s.size 0)) ∧ Below w.heap.size w w' := by
 obtain ⟨AT, hAT⟩ : ∃ a, atF s sep s.size 0 = a := ⟨_, rfl⟩
 rw [hAT]
 have H' := yC.mk hAT
 have HZ := yC.mk hs
 clear hAT hs
 go_enter Tryz.func61, Tryz.ntmps61
 go_wp2
 go_loopg [5] s.size (fun kq v5 w' => ∃ i : Nat, v5 = .int .i64 (i : Int) ∧ yC (kq + i = s.size ∧ atF s sep kq i = AT) ∧ yR w w')
 case atStart => exact ⟨0, rfl, ⟨rfl, H'.out⟩, by repeat (first | exact yR.refl _ | apply yR.step)⟩
 case round =>
  clear H'
  obtain ⟨i, rfl, HA, ⟨m1, rfl⟩⟩ := hrel
  cases gk with
  | zero =>
   have c3 : decide (i < s.size) = false := decide_eq_false (by have := HA.out.1; omega)
   go_wp2
   go_ret
   exact ⟨by rw [← HA.out.2]; rfl, by exact xS (by repeat (first | exact yR.refl _ | apply yR.step))⟩
  | succ k1 =>
   have hi : i < s.size := by have := HA.out.1; omega
   obtain ⟨j, hj⟩ : ∃ j, i + 1 = j := ⟨_, rfl⟩
   have c3 : decide (i < s.size) = true := decide_eq_true hi
   have w1 : wrap64 ((i : Int) + 1) = (j : Int) := by unfold wrap64; have := HZ.out; omega
   have b2 : (j ≤ s.size) = True := eq_true (by omega)
   have b3 : (i ≤ j) = True := eq_true (by omega)
   obtain ⟨cb, hcb⟩ : ∃ b, ((s.extract i j).toList == sep.toList) = b := ⟨_, rfl⟩
   have HJ := yC.mk (And.intro hj hcb)
   clear hi hj
   cases cb with
   | true =>
    go_wp2
    go_ret
    exact ⟨by rw [← HA.out.2]; unfold atF; rw [if_pos (by rw [HJ.out.1]; exact HJ.out.2)]; rfl, by exact xS (by repeat (first | exact yR.refl _ | apply yR.step))⟩
   | false =>
    go_wp2
    go_roundg k1
    case measure => omega
    case rel => exact ⟨j, congrArg _ w1, ⟨by have := HA.out.1; have := HJ.out.1; omega, by rw [← HJ.out.1, ← HA.out.2]; conv => rhs; unfold atF; rw [if_neg (by rw [HJ.out.1, HJ.out.2]; decide)]⟩, by repeat (first | exact yR.refl _ | apply yR.step)⟩
end
section
open Go.RowKit YtmebkjdknhknbaaGreatDoor.A YtmebkjdknhknbaaGreatDoor.C YtmebkjdknhknbaaGreatDoor.F
theorem neV {a b : S39} {c : Bool} (h : eqV a b = c) : (a.f0 == b.f0 && (a.f1 == b.f1 && (a.f2.toList == b.f2.toList))) = c ∧ (!(a.f0 == b.f0 && (a.f1 == b.f1 && (a.f2.toList == b.f2.toList)))) = !c ∧ (a.f0 != b.f0 || (a.f1 != b.f1 || !(a.f2.toList == b.f2.toList))) = !c := by
 unfold eqV at h
 refine ⟨h, by rw [h], ?_⟩
 rw [← h]
 unfold bne
 cases (a.f0 == b.f0) <;> cases (a.f1 == b.f1) <;> cases (a.f2.toList == b.f2.toList) <;> rfl
def vlP (v : Value) (B : Nat) (W : World) (S : Nat → Prop) : Prop := ∃ x : S39, v = .agg (vC x) ∧ x.f2.size ≤ 100 ∧ rngV x
theorem vlP_st {v : Value} {B : Nat} {W W' : World} {S : Nat → Prop} (hz : W.heap.size ≤ W'.heap.size) (hk : ∀ k, k < W.heap.size → S k → W'.heap[k]? = W.heap[k]?) (h : vlP v B W S) : vlP v B W' S := h
def vlDv (d : Nat) : Reg.Dv := Reg.Dv.n d vlP vlP_st
theorem val_vl (d : Nat) (n : Nat) (ρ : Nat → Value) : (vlDv d).val n ρ = ρ n := rfl
theorem vl_step {f d : Nat} {eats : List (Nat × Nat)} {i : Nat} {ρ : Nat → Value} {S : Nat → Nat → Prop} {w W : World} {args : Array Value} (hB : Below w.heap.size w W) (h : Calls Tryz.prog f args W fun e w' => (∃ x : S39, e = .returned (.agg (vC x)) ∧ x.f2.size ≤ 100 ∧ rngV x) ∧ Below W.heap.size W w') :
  Calls Tryz.prog f args W fun e w' => ∃ v, e = .returned v ∧ Reg.Kv eats w i (some d) (vlDv d) ρ W S v w' := by
 refine h.mono fun e w' h => ?_
 obtain ⟨⟨x, rfl, h1, h2⟩, hb⟩ := h
 exact ⟨_, rfl, Reg.Kv.n (Φ := vlP) (st := vlP_st) (fun k => W.heap.size ≤ k ∧ k < w'.heap.size) hB hb (fun k hk => hk) ⟨x, rfl, h1, h2⟩⟩
end
section
open Go.RowKit YtmebkjdknhknbaaGreatDoor.G
theorem ahead_w (v0 : Int) (v1 : Int) (v2 sep : ByteArray) (at_ : Int) (w : World) (c1 c2 : Bool) (HC1 : yC ((v0 != 3) = c1)) (HC2 : yC (decide (at_ < 0) = c2)) (hz : v2.size ≤ 1000) (h0 : -1 ≤ at_) (h1 : at_ < v2.size) (HA : yC (∀ w', Calls Tryz.prog 61 #[.string v2, .string sep] w' fun e w'' => e = .returned (.int .i64 at_) ∧ Below w'.heap.size w' w'')) :
  Calls Tryz.prog 41 #[.agg #[.int .i64 v0, .int .i64 v1, .string v2], .string sep] w fun e w' => e = .returned (bif c1 then .agg #[.int .i64 0, .int .i64 0, .string (⟨#[]⟩ : ByteArray)] else bif c2 then .agg #[.int .i64 v0, .int .i64 v1, .string v2] else .agg #[.int .i64 3, .int .i64 0, .string (v2.extract 0 at_.toNat)]) ∧ Below w.heap.size w w' := by
 have hu := Tryz.underlying39
 have hu2 := Tryz.underlying29
 have HX := yC.mk (Bxs.start w)
 go_enter Tryz.func41, Tryz.ntmps41
 go_upto_region 0 with (fail)
 refine Reg.det [(some 2, Reg.Dv.box 2 39 (fun _ => #[.int .i64 v0, .int .i64 v1, .string v2]) [] true), (some 4, Reg.Dv.box 4 39 (fun _ => #[.int .i64 0, .int .i64 0, .string (⟨#[]⟩ : ByteArray)]) [] true)] [] 22 rfl (by kernel_rfl) (by kernel_rfl) ?s1 ?_
 case s1 =>
  intro iq oq pq hiq hoq hpq ρ ev W S hE hO ec ef hB hft hΦ
  have e0 : ev (.tmp 0) = .agg #[.int .i64 v0, .int .i64 v1, .string v2] := hO 0 rfl
  simp only [Reg.SV] at hE
  obtain ⟨e2, e4, _⟩ := hE
  rcases Reg.lt2 hiq with rfl | rfl
  all_goals (cases hoq; cases hpq)
  rotate_left 1
  ·refine Reg.D.box hB ?_
   go_simp
   try rfl
  rotate_right 1
  ·refine Reg.D.box hB ?_
   go_simp
   try rfl
 intro ρ W0 S hB hft hap hΦ
 simp only [Reg.SV, Reg.SF, Nat.reduceAdd]
 obtain ⟨g2, e2, s2, hg2, _, b2⟩ := hΦ 0 _ rfl rfl
 replace e2 : ρ 2 = .pointer (some ⟨g2, 0, none⟩) := e2
 obtain ⟨g4, e4, s4, hg4, _, b4⟩ := hΦ 1 _ rfl rfl
 replace e4 : ρ 4 = .pointer (some ⟨g4, 0, none⟩) := e4
 try simp only [e2, e4]
 replace b2 : W0.heap[g2]? = some (.cells #[.int .i64 v0, .int .i64 v1, .string v2] 39 (0, 0)) := b2
 replace b4 : W0.heap[g4]? = some (.cells #[.int .i64 0, .int .i64 0, .string (⟨#[]⟩ : ByteArray)] 39 (0, 0)) := b4
 have HX := yC.mk (HX.out.join ((Bxs.one hB hg2 b2).more hg4 b4 (by intro p hp; simp only [List.mem_cons, List.mem_singleton, List.not_mem_nil, or_false] at hp; rcases hp with rfl <;> (intro e; dsimp only at e; subst e; first | exact absurd (hap _ _ _ s2 s4) (by decide)))))
 clear hΦ hft hap 
 go_upto_region 1 with (fail)
 try simp only [Reg.SF]
 refine Reg.det [Reg.k 6 (.pointer (some ⟨g2, 2, none⟩)), Reg.k 7 (.string v2), Reg.k 8 (.string sep), Reg.k 9 (.int .i64 at_), Reg.k 5 (.int .i64 at_)] [] 22 rfl (by kernel_rfl) (by kernel_rfl) ?s2 ?_
 case s2 =>
  intro iq oq pq hiq hoq hpq ρ ev W S hE hO ec ef hB hft hΦ
  have e1 : ev (.tmp 1) = .string sep := hO 1 rfl
  have e2 : ev (.tmp 2) = .pointer (some ⟨g2, 0, none⟩) := hO 2 rfl
  have mg2_2 := HX.pc hB 1 2 (.string v2) rfl rfl
  simp only [Reg.SV] at hE
  obtain ⟨e6, e7, e8, e9, e5, _⟩ := hE
  rcases Reg.lt5 hiq with rfl | rfl | rfl | rfl | rfl
  all_goals (cases hoq; cases hpq)
  rotate_left 3
  ·refine Reg.D.cc (g := 61) (args := #[.string v2, .string sep]) hB (by go_simp; try rfl) ?_
   exact HA.out W
  rotate_right 3
  all_goals try exact Reg.D.mv hB
  all_goals exact Reg.D.cx hB
 intro ρ W1 S hB hft hap hΦ
 simp only [Reg.SV, Reg.SF, Nat.reduceAdd]
 have HX := HX.cl hB
 clear hΦ hft hap 
 go_upto_region 2 with (fail)
 try simp only [Reg.SF]
 refine Reg.det [Reg.k 10 (.pointer (some ⟨g2, 0, none⟩)), Reg.k 11 (.int .i64 v0), Reg.k 12 (.bool c1)] [] 22 rfl (by kernel_rfl) (by kernel_rfl) ?s3 ?_
 case s3 =>
  intro iq oq pq hiq hoq hpq ρ ev W S hE hO ec ef hB hft hΦ
  have e2 : ev (.tmp 2) = .pointer (some ⟨g2, 0, none⟩) := hO 2 rfl
  have mg2_0 := HX.pc hB 1 0 (.int .i64 v0) rfl rfl
  simp only [Reg.SV] at hE
  obtain ⟨e10, e11, e12, _⟩ := hE
  rcases Reg.lt3 hiq with rfl | rfl | rfl
  all_goals (cases hoq; cases hpq)
  all_goals (refine Reg.D.cv hB ?_; go_simp; try (first | done | rfl | (exact HC1.out) | (exact HC2.out)))
 intro ρ W2 S hB hft hap hΦ
 simp only [Reg.SV, Reg.SF, Nat.reduceAdd]
 have HX := HX.cl hB
 clear hΦ hft hap 
 cases c1 with
 | true =>
  go_upto_region 3 with (fail)
  try simp only [Reg.SF]
  refine Reg.det [Reg.k 13 (.agg #[.int .i64 0, .int .i64 0, .string (⟨#[]⟩ : ByteArray)])] [] 22 rfl (by kernel_rfl) (by kernel_rfl) ?s4 ?_
  case s4 =>
   intro iq oq pq hiq hoq hpq ρ ev W S hE hO ec ef hB hft hΦ
   simp only [Reg.SV] at hE
   obtain ⟨e13, _⟩ := hE
   obtain rfl : iq = 0 := by have : iq < 1 := hiq; omega
   cases hoq; cases hpq
   all_goals (refine Reg.D.cv hB ?_; go_simp; try (first | done | rfl | (exact HC1.out) | (exact HC2.out)))
  intro ρ W3 S hB hft hap hΦ
  simp only [Reg.SV, Reg.SF, Nat.reduceAdd]
  have HX := HX.cl hB
  clear hΦ hft hap 
  refine xG (w := w) rfl 39 (.tmp 4) (.tmp 13) rfl rfl (L1 := []) (cells := #[.int .i64 0, .int .i64 0, .string (⟨#[]⟩ : ByteArray)]) HX.out rfl rfl (by kernel_rfl) rfl rfl ?_
  intro Wp hx
  have HX := yC.mk hx
  clear hx
  go_wp2_with fail
  refine bodyPost_ret (results_cell_row rfl _ _ g4 39 #[.int .i64 0, .int .i64 0, .string (⟨#[]⟩ : ByteArray)] (0, 0) _ rfl (HX.out.at 0 rfl) hu rfl (by kernel_rfl)) rfl ?_
  exact ⟨rfl, HX.out.below⟩
 | false =>
  go_upto_region 4 with (fail)
  try simp only [Reg.SF]
  refine Reg.det [Reg.k 14 (.int .i64 at_), Reg.k 15 (.bool c2)] [] 22 rfl (by kernel_rfl) (by kernel_rfl) ?s5 ?_
  case s5 =>
   intro iq oq pq hiq hoq hpq ρ ev W S hE hO ec ef hB hft hΦ
   have e5 : ev (.tmp 5) = .int .i64 at_ := hO 5 rfl
   simp only [Reg.SV] at hE
   obtain ⟨e14, e15, _⟩ := hE
   rcases Reg.lt2 hiq with rfl | rfl
   all_goals (cases hoq; cases hpq)
   all_goals try exact Reg.D.mv hB
   all_goals (refine Reg.D.cv hB ?_; go_simp; try (first | done | rfl | (exact HC1.out) | (exact HC2.out)))
  intro ρ W4 S hB hft hap hΦ
  simp only [Reg.SV, Reg.SF, Nat.reduceAdd]
  have HX := HX.cl hB
  clear hΦ hft hap 
  cases c2 with
  | true =>
   go_upto_region 5 with (fail)
   try simp only [Reg.SF]
   refine Reg.det [Reg.k 16 (.agg #[.int .i64 v0, .int .i64 v1, .string v2])] [] 22 rfl (by kernel_rfl) (by kernel_rfl) ?s6 ?_
   case s6 =>
    intro iq oq pq hiq hoq hpq ρ ev W S hE hO ec ef hB hft hΦ
    have e2 : ev (.tmp 2) = .pointer (some ⟨g2, 0, none⟩) := hO 2 rfl
    have mg2_0 := HX.pc hB 1 0 (.int .i64 v0) rfl rfl
    have mg2_1 := HX.pc hB 1 1 (.int .i64 v1) rfl rfl
    have mg2_2 := HX.pc hB 1 2 (.string v2) rfl rfl
    simp only [Reg.SV] at hE
    obtain ⟨e16, _⟩ := hE
    obtain rfl : iq = 0 := by have : iq < 1 := hiq; omega
    cases hoq; cases hpq
    all_goals (refine Reg.D.cv hB ?_; go_simp; try (first | done | rfl | (exact HC1.out) | (exact HC2.out)))
   intro ρ W5 S hB hft hap hΦ
   simp only [Reg.SV, Reg.SF, Nat.reduceAdd]
   have HX := HX.cl hB
   clear hΦ hft hap 
   refine xG (w := w) rfl 39 (.tmp 4) (.tmp 16) rfl rfl (L1 := []) (cells := #[.int .i64 v0, .int .i64 v1, .string v2]) HX.out rfl rfl (by kernel_rfl) rfl rfl ?_
   intro Wp hx
   have HX := yC.mk hx
   clear hx
   go_wp2_with fail
   refine bodyPost_ret (results_cell_row rfl _ _ g4 39 #[.int .i64 v0, .int .i64 v1, .string v2] (0, 0) _ rfl (HX.out.at 0 rfl) hu rfl (by kernel_rfl)) rfl ?_
   exact ⟨rfl, HX.out.below⟩
  | false =>
   have hq : 0 ≤ at_ := by have := HC2.out; simp at this; omega
   go_upto_region 6 with (fail)
   try simp only [Reg.SF]
   refine Reg.det [Reg.k 17 (.pointer (some ⟨g2, 2, none⟩)), Reg.k 18 (.string v2), Reg.k 19 (.int .i64 at_), Reg.k 20 (.string (v2.extract 0 at_.toNat)), Reg.k 21 (.agg #[.int .i64 3, .int .i64 0, .string (v2.extract 0 at_.toNat)])] [] 22 rfl (by kernel_rfl) (by kernel_rfl) ?s7 ?_
   case s7 =>
    intro iq oq pq hiq hoq hpq ρ ev W S hE hO ec ef hB hft hΦ
    have e2 : ev (.tmp 2) = .pointer (some ⟨g2, 0, none⟩) := hO 2 rfl
    have e5 : ev (.tmp 5) = .int .i64 at_ := hO 5 rfl
    have mg2_2 := HX.pc hB 1 2 (.string v2) rfl rfl
    simp only [Reg.SV] at hE
    obtain ⟨e17, e18, e19, e20, e21, _⟩ := hE
    rcases Reg.lt5 hiq with rfl | rfl | rfl | rfl | rfl
    all_goals (cases hoq; cases hpq)
    rotate_left 4
    ·refine Reg.D.cc (g := 29) (args := #[.string (v2.extract 0 at_.toNat)]) hB (by go_simp; try rfl) ?_
     exact chapmanref16_Texted.calls _ 3 0 _ W rfl
    rotate_right 4
    all_goals try exact Reg.D.mv hB
    all_goals (refine Reg.D.cv hB ?_; go_simp; try (first | done | rfl | (intro h; omega) | (intro h; have := h hq; omega)))
   intro ρ W6 S hB hft hap hΦ
   simp only [Reg.SV, Reg.SF, Nat.reduceAdd]
   have HX := HX.cl hB
   clear hΦ hft hap 
   refine xG (w := w) rfl 39 (.tmp 4) (.tmp 21) rfl rfl (L1 := []) (cells := #[.int .i64 3, .int .i64 0, .string (v2.extract 0 at_.toNat)]) HX.out rfl rfl (by kernel_rfl) rfl rfl ?_
   intro Wp hx
   have HX := yC.mk hx
   clear hx
   go_wp2_with fail
   refine bodyPost_ret (results_cell_row rfl _ _ g4 39 #[.int .i64 3, .int .i64 0, .string (v2.extract 0 at_.toNat)] (0, 0) _ rfl (HX.out.at 0 rfl) hu rfl (by kernel_rfl)) rfl ?_
   exact ⟨rfl, HX.out.below⟩
theorem behind_w (v0 : Int) (v1 : Int) (v2 sep : ByteArray) (at_ : Int) (w : World) (c1 c2 : Bool) (HC1 : yC ((v0 != 3) = c1)) (HC2 : yC (decide (at_ < 0) = c2)) (hw1 : IntKind.i64.wrap (at_ + 1) = at_ + 1) (hz : v2.size ≤ 1000) (h0 : -1 ≤ at_) (h1 : at_ < v2.size) (HA : yC (∀ w', Calls Tryz.prog 61 #[.string v2, .string sep] w' fun e w'' => e = .returned (.int .i64 at_) ∧ Below w'.heap.size w' w'')) :
  Calls Tryz.prog 42 #[.agg #[.int .i64 v0, .int .i64 v1, .string v2], .string sep] w fun e w' => e = .returned (bif c1 then .agg #[.int .i64 0, .int .i64 0, .string (⟨#[]⟩ : ByteArray)] else bif c2 then .agg #[.int .i64 0, .int .i64 0, .string (⟨#[]⟩ : ByteArray)] else .agg #[.int .i64 3, .int .i64 0, .string (v2.extract (at_ + 1).toNat v2.size)]) ∧ Below w.heap.size w w' := by
 have hu := Tryz.underlying39
 have hu2 := Tryz.underlying29
 have HX := yC.mk (Bxs.start w)
 go_enter Tryz.func42, Tryz.ntmps42
 go_upto_region 0 with (fail)
 refine Reg.det [(some 2, Reg.Dv.box 2 39 (fun _ => #[.int .i64 v0, .int .i64 v1, .string v2]) [] true), (some 4, Reg.Dv.box 4 39 (fun _ => #[.int .i64 0, .int .i64 0, .string (⟨#[]⟩ : ByteArray)]) [] true)] [] 24 rfl (by kernel_rfl) (by kernel_rfl) ?s8 ?_
 case s8 =>
  intro iq oq pq hiq hoq hpq ρ ev W S hE hO ec ef hB hft hΦ
  have e0 : ev (.tmp 0) = .agg #[.int .i64 v0, .int .i64 v1, .string v2] := hO 0 rfl
  simp only [Reg.SV] at hE
  obtain ⟨e2, e4, _⟩ := hE
  rcases Reg.lt2 hiq with rfl | rfl
  all_goals (cases hoq; cases hpq)
  rotate_left 1
  ·refine Reg.D.box hB ?_
   go_simp
   try rfl
  rotate_right 1
  ·refine Reg.D.box hB ?_
   go_simp
   try rfl
 intro ρ W0 S hB hft hap hΦ
 simp only [Reg.SV, Reg.SF, Nat.reduceAdd]
 obtain ⟨g2, e2, s2, hg2, _, b2⟩ := hΦ 0 _ rfl rfl
 replace e2 : ρ 2 = .pointer (some ⟨g2, 0, none⟩) := e2
 obtain ⟨g4, e4, s4, hg4, _, b4⟩ := hΦ 1 _ rfl rfl
 replace e4 : ρ 4 = .pointer (some ⟨g4, 0, none⟩) := e4
 try simp only [e2, e4]
 replace b2 : W0.heap[g2]? = some (.cells #[.int .i64 v0, .int .i64 v1, .string v2] 39 (0, 0)) := b2
 replace b4 : W0.heap[g4]? = some (.cells #[.int .i64 0, .int .i64 0, .string (⟨#[]⟩ : ByteArray)] 39 (0, 0)) := b4
 have HX := yC.mk (HX.out.join ((Bxs.one hB hg2 b2).more hg4 b4 (by intro p hp; simp only [List.mem_cons, List.mem_singleton, List.not_mem_nil, or_false] at hp; rcases hp with rfl <;> (intro e; dsimp only at e; subst e; first | exact absurd (hap _ _ _ s2 s4) (by decide)))))
 clear hΦ hft hap 
 go_upto_region 1 with (fail)
 try simp only [Reg.SF]
 refine Reg.det [Reg.k 6 (.pointer (some ⟨g2, 2, none⟩)), Reg.k 7 (.string v2), Reg.k 8 (.string sep), Reg.k 9 (.int .i64 at_), Reg.k 5 (.int .i64 at_)] [] 24 rfl (by kernel_rfl) (by kernel_rfl) ?s9 ?_
 case s9 =>
  intro iq oq pq hiq hoq hpq ρ ev W S hE hO ec ef hB hft hΦ
  have e1 : ev (.tmp 1) = .string sep := hO 1 rfl
  have e2 : ev (.tmp 2) = .pointer (some ⟨g2, 0, none⟩) := hO 2 rfl
  have mg2_2 := HX.pc hB 1 2 (.string v2) rfl rfl
  simp only [Reg.SV] at hE
  obtain ⟨e6, e7, e8, e9, e5, _⟩ := hE
  rcases Reg.lt5 hiq with rfl | rfl | rfl | rfl | rfl
  all_goals (cases hoq; cases hpq)
  rotate_left 3
  ·refine Reg.D.cc (g := 61) (args := #[.string v2, .string sep]) hB (by go_simp; try rfl) ?_
   exact HA.out W
  rotate_right 3
  all_goals try exact Reg.D.mv hB
  all_goals exact Reg.D.cx hB
 intro ρ W1 S hB hft hap hΦ
 simp only [Reg.SV, Reg.SF, Nat.reduceAdd]
 have HX := HX.cl hB
 clear hΦ hft hap 
 cases c1 with
 | true =>
  go_upto_region 2 with (fail)
  try simp only [Reg.SF]
  refine Reg.det [Reg.k 10 (.pointer (some ⟨g2, 0, none⟩)), Reg.k 11 (.int .i64 v0), Reg.k 12 (.bool true), Reg.k 13 (.bool true), Reg.u 14, Reg.u 15, Reg.k 16 (.bool true)] [] 24 rfl (by kernel_rfl) (by kernel_rfl) ?s10 ?_
  case s10 =>
   intro iq oq pq hiq hoq hpq ρ ev W S hE hO ec ef hB hft hΦ
   have e2 : ev (.tmp 2) = .pointer (some ⟨g2, 0, none⟩) := hO 2 rfl
   have e5 : ev (.tmp 5) = .int .i64 at_ := hO 5 rfl
   have mg2_0 := HX.pc hB 1 0 (.int .i64 v0) rfl rfl
   simp only [Reg.SV] at hE
   obtain ⟨e10, e11, e12, e13, e14, e15, e16, _⟩ := hE
   rcases Reg.lt7 hiq with rfl | rfl | rfl | rfl | rfl | rfl | rfl
   all_goals (cases hoq; cases hpq)
   all_goals (first | exact Reg.D.sk hB | skip)
   all_goals try exact Reg.D.mv hB
   all_goals (refine Reg.D.cv hB ?_; go_simp; try (first | done | rfl | (exact HC1.out) | (simpa using HC1.out) | (simp [HC1.out]; done)))
  intro ρ W2 S hB hft hap hΦ
  simp only [Reg.SV, Reg.SF, Nat.reduceAdd]
  have HX := HX.cl hB
  clear hΦ hft hap 
  go_upto_region 3 with (fail)
  try simp only [Reg.SF]
  refine Reg.det [Reg.k 17 (.agg #[.int .i64 0, .int .i64 0, .string (⟨#[]⟩ : ByteArray)])] [] 24 rfl (by kernel_rfl) (by kernel_rfl) ?s11 ?_
  case s11 =>
   intro iq oq pq hiq hoq hpq ρ ev W S hE hO ec ef hB hft hΦ
   simp only [Reg.SV] at hE
   obtain ⟨e17, _⟩ := hE
   obtain rfl : iq = 0 := by have : iq < 1 := hiq; omega
   cases hoq; cases hpq
   all_goals (refine Reg.D.cv hB ?_; go_simp; try (first | done | rfl | (exact HC1.out) | (simpa using HC1.out) | (simp [HC1.out]; done)))
  intro ρ W3 S hB hft hap hΦ
  simp only [Reg.SV, Reg.SF, Nat.reduceAdd]
  have HX := HX.cl hB
  clear hΦ hft hap 
  refine xG (w := w) rfl 39 (.tmp 4) (.tmp 17) rfl rfl (L1 := []) (cells := #[.int .i64 0, .int .i64 0, .string (⟨#[]⟩ : ByteArray)]) HX.out rfl rfl (by kernel_rfl) rfl rfl ?_
  intro Wp hx
  have HX := yC.mk hx
  clear hx
  go_wp2_with fail
  refine bodyPost_ret (results_cell_row rfl _ _ g4 39 #[.int .i64 0, .int .i64 0, .string (⟨#[]⟩ : ByteArray)] (0, 0) _ rfl (HX.out.at 0 rfl) hu rfl (by kernel_rfl)) rfl ?_
  exact ⟨rfl, HX.out.below⟩
 | false =>
  go_upto_region 2 with (fail)
  try simp only [Reg.SF]
  refine Reg.det [Reg.k 10 (.pointer (some ⟨g2, 0, none⟩)), Reg.k 11 (.int .i64 v0), Reg.k 12 (.bool false), Reg.k 13 (.bool false), Reg.k 14 (.int .i64 at_), Reg.k 15 (.bool c2), Reg.k 16 (.bool c2)] [] 24 rfl (by kernel_rfl) (by kernel_rfl) ?s12 ?_
  case s12 =>
   intro iq oq pq hiq hoq hpq ρ ev W S hE hO ec ef hB hft hΦ
   have e2 : ev (.tmp 2) = .pointer (some ⟨g2, 0, none⟩) := hO 2 rfl
   have e5 : ev (.tmp 5) = .int .i64 at_ := hO 5 rfl
   have mg2_0 := HX.pc hB 1 0 (.int .i64 v0) rfl rfl
   simp only [Reg.SV] at hE
   obtain ⟨e10, e11, e12, e13, e14, e15, e16, _⟩ := hE
   rcases Reg.lt7 hiq with rfl | rfl | rfl | rfl | rfl | rfl | rfl
   all_goals (cases hoq; cases hpq)
   all_goals try exact Reg.D.mv hB
   all_goals (refine Reg.D.cv hB ?_; go_simp; try (first | done | rfl | (exact HC1.out) | (exact HC2.out) | (simpa using HC1.out) | (simp [HC1.out]; done)))
  intro ρ W2 S hB hft hap hΦ
  simp only [Reg.SV, Reg.SF, Nat.reduceAdd]
  have HX := HX.cl hB
  clear hΦ hft hap 
  cases c2 with
  | true =>
   go_upto_region 3 with (fail)
   try simp only [Reg.SF]
   refine Reg.det [Reg.k 17 (.agg #[.int .i64 0, .int .i64 0, .string (⟨#[]⟩ : ByteArray)])] [] 24 rfl (by kernel_rfl) (by kernel_rfl) ?s13 ?_
   case s13 =>
    intro iq oq pq hiq hoq hpq ρ ev W S hE hO ec ef hB hft hΦ
    simp only [Reg.SV] at hE
    obtain ⟨e17, _⟩ := hE
    obtain rfl : iq = 0 := by have : iq < 1 := hiq; omega
    cases hoq; cases hpq
    all_goals (refine Reg.D.cv hB ?_; go_simp; try (first | done | rfl | (exact HC1.out) | (exact HC2.out) | (simpa using HC1.out) | (simp [HC1.out]; done)))
   intro ρ W3 S hB hft hap hΦ
   simp only [Reg.SV, Reg.SF, Nat.reduceAdd]
   have HX := HX.cl hB
   clear hΦ hft hap 
   refine xG (w := w) rfl 39 (.tmp 4) (.tmp 17) rfl rfl (L1 := []) (cells := #[.int .i64 0, .int .i64 0, .string (⟨#[]⟩ : ByteArray)]) HX.out rfl rfl (by kernel_rfl) rfl rfl ?_
   intro Wp hx
   have HX := yC.mk hx
   clear hx
   go_wp2_with fail
   refine bodyPost_ret (results_cell_row rfl _ _ g4 39 #[.int .i64 0, .int .i64 0, .string (⟨#[]⟩ : ByteArray)] (0, 0) _ rfl (HX.out.at 0 rfl) hu rfl (by kernel_rfl)) rfl ?_
   exact ⟨rfl, HX.out.below⟩
  | false =>
   have hq : 0 ≤ at_ := by have := HC2.out; simp at this; omega
   go_upto_region 4 with (fail)
   try simp only [Reg.SF]
   refine Reg.det [Reg.k 18 (.pointer (some ⟨g2, 2, none⟩)), Reg.k 19 (.string v2), Reg.k 20 (.int .i64 at_), Reg.k 21 (.int .i64 (at_ + 1)), Reg.k 22 (.string (v2.extract (at_ + 1).toNat v2.size)), Reg.k 23 (.agg #[.int .i64 3, .int .i64 0, .string (v2.extract (at_ + 1).toNat v2.size)])] [] 24 rfl (by kernel_rfl) (by kernel_rfl) ?s14 ?_
   case s14 =>
    intro iq oq pq hiq hoq hpq ρ ev W S hE hO ec ef hB hft hΦ
    have e2 : ev (.tmp 2) = .pointer (some ⟨g2, 0, none⟩) := hO 2 rfl
    have e5 : ev (.tmp 5) = .int .i64 at_ := hO 5 rfl
    have mg2_2 := HX.pc hB 1 2 (.string v2) rfl rfl
    simp only [Reg.SV] at hE
    obtain ⟨e18, e19, e20, e21, e22, e23, _⟩ := hE
    rcases Reg.lt6 hiq with rfl | rfl | rfl | rfl | rfl | rfl
    all_goals (cases hoq; cases hpq)
    rotate_left 5
    ·refine Reg.D.cc (g := 29) (args := #[.string (v2.extract (at_ + 1).toNat v2.size)]) hB (by go_simp; try rfl) ?_
     exact chapmanref16_Texted.calls _ 3 0 _ W rfl
    rotate_right 5
    all_goals try exact Reg.D.mv hB
    all_goals (refine Reg.D.cv hB ?_; go_simp; try (first | done | rfl | (exact hw1) | (intro h; omega) | (intro h; have := h (by omega); omega)))
   intro ρ W4 S hB hft hap hΦ
   simp only [Reg.SV, Reg.SF, Nat.reduceAdd]
   have HX := HX.cl hB
   clear hΦ hft hap 
   refine xG (w := w) rfl 39 (.tmp 4) (.tmp 23) rfl rfl (L1 := []) (cells := #[.int .i64 3, .int .i64 0, .string (v2.extract (at_ + 1).toNat v2.size)]) HX.out rfl rfl (by kernel_rfl) rfl rfl ?_
   intro Wp hx
   have HX := yC.mk hx
   clear hx
   go_wp2_with fail
   refine bodyPost_ret (results_cell_row rfl _ _ g4 39 #[.int .i64 3, .int .i64 0, .string (v2.extract (at_ + 1).toNat v2.size)] (0, 0) _ rfl (HX.out.at 0 rfl) hu rfl (by kernel_rfl)) rfl ?_
   exact ⟨rfl, HX.out.below⟩
theorem joined_w (a0 a1 b0 b1 : Int) (a2 b2 sep : ByteArray) (w : World) (c1 : Bool) (HC1 : yC ((b0 != 3) = c1)) (hz : a2.size ≤ 1000 ∧ b2.size ≤ 1000 ∧ sep.size ≤ 1000) :
  Calls Tryz.prog 43 #[.agg #[.int .i64 a0, .int .i64 a1, .string a2], .agg #[.int .i64 b0, .int .i64 b1, .string b2], .string sep] w fun e w' => e = .returned (bif c1 then .string a2 else .string (a2 ++ sep ++ b2)) ∧ Below w.heap.size w w' := by
 have hu := Tryz.underlying39
 have hu2 := Tryz.underlying29
 have HX := yC.mk (Bxs.start w)
 go_enter Tryz.func43, Tryz.ntmps43
 go_upto_region 0 with (fail)
 refine Reg.det [(some 3, Reg.Dv.box 3 39 (fun _ => #[.int .i64 a0, .int .i64 a1, .string a2]) [] true), (some 4, Reg.Dv.box 4 39 (fun _ => #[.int .i64 b0, .int .i64 b1, .string b2]) [] true), Reg.k 6 (.string (⟨#[]⟩ : ByteArray))] [] 19 rfl (by kernel_rfl) (by kernel_rfl) ?s15 ?_
 case s15 =>
  intro iq oq pq hiq hoq hpq ρ ev W S hE hO ec ef hB hft hΦ
  have e0 : ev (.tmp 0) = .agg #[.int .i64 a0, .int .i64 a1, .string a2] := hO 0 rfl
  have e1 : ev (.tmp 1) = .agg #[.int .i64 b0, .int .i64 b1, .string b2] := hO 1 rfl
  simp only [Reg.SV] at hE
  obtain ⟨e3, e4, e6, _⟩ := hE
  rcases Reg.lt3 hiq with rfl | rfl | rfl
  all_goals (cases hoq; cases hpq)
  rotate_left 1
  ·refine Reg.D.box hB ?_
   go_simp
   try rfl
  rotate_right 1
  ·refine Reg.D.box hB ?_
   go_simp
   try rfl
  all_goals try exact Reg.D.mv hB
  all_goals exact Reg.D.cx hB
 intro ρ W0 S hB hft hap hΦ
 simp only [Reg.SV, Reg.SF, Nat.reduceAdd]
 obtain ⟨g3, e3, s3, hg3, _, b3⟩ := hΦ 0 _ rfl rfl
 replace e3 : ρ 3 = .pointer (some ⟨g3, 0, none⟩) := e3
 obtain ⟨g4, e4, s4, hg4, _, b4⟩ := hΦ 1 _ rfl rfl
 replace e4 : ρ 4 = .pointer (some ⟨g4, 0, none⟩) := e4
 try simp only [e3, e4]
 replace b3 : W0.heap[g3]? = some (.cells #[.int .i64 a0, .int .i64 a1, .string a2] 39 (0, 0)) := b3
 replace b4 : W0.heap[g4]? = some (.cells #[.int .i64 b0, .int .i64 b1, .string b2] 39 (0, 0)) := b4
 have HX := yC.mk (HX.out.join ((Bxs.one hB hg3 b3).more hg4 b4 (by intro p hp; simp only [List.mem_cons, List.mem_singleton, List.not_mem_nil, or_false] at hp; rcases hp with rfl <;> (intro e; dsimp only at e; subst e; first | exact absurd (hap _ _ _ s3 s4) (by decide)))))
 clear hΦ hft hap 
 go_upto_region 1 with (fail)
 try simp only [Reg.SF]
 refine Reg.det [Reg.k 7 (.pointer (some ⟨g4, 0, none⟩)), Reg.k 8 (.int .i64 b0), Reg.k 9 (.bool c1)] [] 19 rfl (by kernel_rfl) (by kernel_rfl) ?s16 ?_
 case s16 =>
  intro iq oq pq hiq hoq hpq ρ ev W S hE hO ec ef hB hft hΦ
  have e4 : ev (.tmp 4) = .pointer (some ⟨g4, 0, none⟩) := hO 4 rfl
  have mg4_0 := HX.pc hB 0 0 (.int .i64 b0) rfl rfl
  simp only [Reg.SV] at hE
  obtain ⟨e7, e8, e9, _⟩ := hE
  rcases Reg.lt3 hiq with rfl | rfl | rfl
  all_goals (cases hoq; cases hpq)
  all_goals (refine Reg.D.cv hB ?_; go_simp; try (first | done | rfl | (exact HC1.out)))
 intro ρ W1 S hB hft hap hΦ
 simp only [Reg.SV, Reg.SF, Nat.reduceAdd]
 have HX := HX.cl hB
 clear hΦ hft hap 
 cases c1 with
 | true =>
  go_upto_region 2 with (fail)
  try simp only [Reg.SF]
  refine Reg.det [Reg.k 10 (.pointer (some ⟨g3, 2, none⟩)), Reg.k 11 (.string a2), Reg.k 6 (.string a2)] [] 19 rfl (by kernel_rfl) (by kernel_rfl) ?s17 ?_
  case s17 =>
   intro iq oq pq hiq hoq hpq ρ ev W S hE hO ec ef hB hft hΦ
   have e3 : ev (.tmp 3) = .pointer (some ⟨g3, 0, none⟩) := hO 3 rfl
   have mg3_2 := HX.pc hB 1 2 (.string a2) rfl rfl
   simp only [Reg.SV] at hE
   obtain ⟨e10, e11, e6, _⟩ := hE
   rcases Reg.lt3 hiq with rfl | rfl | rfl
   all_goals (cases hoq; cases hpq)
   all_goals try exact Reg.D.mv hB
   all_goals (refine Reg.D.cv hB ?_; go_simp; try (first | done | rfl | (exact HC1.out)))
  intro ρ W2 S hB hft hap hΦ
  simp only [Reg.SV, Reg.SF, Nat.reduceAdd]
  have HX := HX.cl hB
  clear hΦ hft hap 
  go_wp2_with fail
  go_ret
  exact ⟨rfl, HX.out.below⟩
 | false =>
  go_upto_region 3 with (fail)
  try simp only [Reg.SF]
  refine Reg.det [Reg.k 12 (.pointer (some ⟨g3, 2, none⟩)), Reg.k 13 (.string a2), Reg.k 14 (.string sep), Reg.k 15 (.string (a2 ++ sep)), Reg.k 16 (.pointer (some ⟨g4, 2, none⟩)), Reg.k 17 (.string b2), Reg.k 18 (.string (a2 ++ sep ++ b2)), Reg.k 6 (.string (a2 ++ sep ++ b2))] [] 19 rfl (by kernel_rfl) (by kernel_rfl) ?s18 ?_
  case s18 =>
   intro iq oq pq hiq hoq hpq ρ ev W S hE hO ec ef hB hft hΦ
   have e2 : ev (.tmp 2) = .string sep := hO 2 rfl
   have e3 : ev (.tmp 3) = .pointer (some ⟨g3, 0, none⟩) := hO 3 rfl
   have e4 : ev (.tmp 4) = .pointer (some ⟨g4, 0, none⟩) := hO 4 rfl
   have mg3_2 := HX.pc hB 1 2 (.string a2) rfl rfl
   have mg4_2 := HX.pc hB 0 2 (.string b2) rfl rfl
   simp only [Reg.SV] at hE
   obtain ⟨e12, e13, e14, e15, e16, e17, e18, e6, _⟩ := hE
   rcases Reg.lt8 hiq with rfl | rfl | rfl | rfl | rfl | rfl | rfl | rfl
   all_goals (cases hoq; cases hpq)
   all_goals try exact Reg.D.mv hB
   all_goals (refine Reg.D.cv hB ?_; go_simp; try (first | done | rfl | (omega) | (rw [if_pos (by simp only [ByteArray.size_append]; omega)]) | (simp [ByteArray.size_append]; omega)))
  intro ρ W3 S hB hft hap hΦ
  simp only [Reg.SV, Reg.SF, Nat.reduceAdd]
  have HX := HX.cl hB
  clear hΦ hft hap 
  go_wp2_with fail
  go_ret
  exact ⟨rfl, HX.out.below⟩
theorem show_1 (a s : Int) (sep : ByteArray) (A : Option Addr) (n4 c4 : Nat) (ad q : Addr) (n c : Nat) (v0 v1 : Int) (v2 : ByteArray) (w : World) (Q : yC (w.cell? q = some (.int .i64 v0) ∧ w.cell? ⟨q.block, q.off + 1, none⟩ = some (.int .i64 v1) ∧ w.cell? ⟨q.block, q.off + 2, none⟩ = some (.string v2))) (hq : ad.add (a.toNat * 3) = q) (h0 : 0 ≤ a) (h1 : a < n) :
  Calls Tryz.prog 17 #[.agg #[.int .i64 1, .int .i64 a, .int .i64 s, .string sep, .slice A n4 c4], .slice (some ad) n c] w fun e w' => e = .returned (.agg #[.int .i64 v0, .int .i64 v1, .string v2]) ∧ Below w.heap.size w w' := by
 have hu := Tryz.underlying39
 have hu2 := Tryz.underlying29
 have HX := yC.mk (Bxs.start w)
 go_enter Tryz.func17, Tryz.ntmps17
 go_upto_region 0 with (fail)
 refine Reg.det [(some 2, Reg.Dv.box 2 29 (fun _ => #[.int .i64 1, .int .i64 a, .int .i64 s, .string sep, .slice A n4 c4]) [] true), (some 4, Reg.Dv.box 4 39 (fun _ => #[.int .i64 0, .int .i64 0, .string (⟨#[]⟩ : ByteArray)]) [] true)] [] 79 rfl (by kernel_rfl) (by kernel_rfl) ?s19 ?_
 case s19 =>
  intro iq oq pq hiq hoq hpq ρ ev W S hE hO ec ef hB hft hΦ
  have e0 : ev (.tmp 0) = .agg #[.int .i64 1, .int .i64 a, .int .i64 s, .string sep, .slice A n4 c4] := hO 0 rfl
  simp only [Reg.SV] at hE
  obtain ⟨e2, e4, _⟩ := hE
  rcases Reg.lt2 hiq with rfl | rfl
  all_goals (cases hoq; cases hpq)
  rotate_left 1
  ·refine Reg.D.box hB ?_
   go_simp
   try rfl
  rotate_right 1
  ·refine Reg.D.box hB ?_
   go_simp
   try rfl
 intro ρ W0 S hB hft hap hΦ
 simp only [Reg.SV, Reg.SF, Nat.reduceAdd]
 obtain ⟨g2, e2, s2, hg2, _, b2⟩ := hΦ 0 _ rfl rfl
 replace e2 : ρ 2 = .pointer (some ⟨g2, 0, none⟩) := e2
 obtain ⟨g4, e4, s4, hg4, _, b4⟩ := hΦ 1 _ rfl rfl
 replace e4 : ρ 4 = .pointer (some ⟨g4, 0, none⟩) := e4
 try simp only [e2, e4]
 replace b2 : W0.heap[g2]? = some (.cells #[.int .i64 1, .int .i64 a, .int .i64 s, .string sep, .slice A n4 c4] 29 (0, 0)) := b2
 replace b4 : W0.heap[g4]? = some (.cells #[.int .i64 0, .int .i64 0, .string (⟨#[]⟩ : ByteArray)] 39 (0, 0)) := b4
 have HX := yC.mk (HX.out.join ((Bxs.one hB hg2 b2).more hg4 b4 (by intro p hp; simp only [List.mem_cons, List.mem_singleton, List.not_mem_nil, or_false] at hp; rcases hp with rfl <;> (intro e; dsimp only at e; subst e; first | exact absurd (hap _ _ _ s2 s4) (by decide)))))
 clear hΦ hft hap 
 go_upto_region 1 with (fail)
 try simp only [Reg.SF]
 refine Reg.det [Reg.k 8 (.pointer (some ⟨g2, 0, none⟩)), Reg.k 9 (.int .i64 1)] [] 79 rfl (by kernel_rfl) (by kernel_rfl) ?s20 ?_
 case s20 =>
  intro iq oq pq hiq hoq hpq ρ ev W S hE hO ec ef hB hft hΦ
  have e2 : ev (.tmp 2) = .pointer (some ⟨g2, 0, none⟩) := hO 2 rfl
  have mg2_0 := HX.pc hB 1 0 (.int .i64 1) rfl rfl
  simp only [Reg.SV] at hE
  obtain ⟨e8, e9, _⟩ := hE
  rcases Reg.lt2 hiq with rfl | rfl
  all_goals (cases hoq; cases hpq)
  all_goals exact Reg.D.cx hB
 intro ρ W1 S hB hft hap hΦ
 simp only [Reg.SV, Reg.SF, Nat.reduceAdd]
 have HX := HX.cl hB
 clear hΦ hft hap 
 go_upto_region 2 with (fail)
 try simp only [Reg.SF]
 refine Reg.det [Reg.k 11 (.bool true), Reg.k 10 (.bool true)] [] 79 rfl (by kernel_rfl) (by kernel_rfl) ?s21 ?_
 case s21 =>
  intro iq oq pq hiq hoq hpq ρ ev W S hE hO ec ef hB hft hΦ
  have e9 : ev (.tmp 9) = .int .i64 1 := hO 9 rfl
  simp only [Reg.SV] at hE
  obtain ⟨e11, e10, _⟩ := hE
  rcases Reg.lt2 hiq with rfl | rfl
  all_goals (cases hoq; cases hpq)
  all_goals try exact Reg.D.mv hB
  all_goals exact Reg.D.cx hB
 intro ρ W2 S hB hft hap hΦ
 simp only [Reg.SV, Reg.SF, Nat.reduceAdd]
 have HX := HX.cl hB
 clear hΦ hft hap 
 have ma0 := yB HX.out.below Q.out.1
 have ma1 := yB HX.out.below Q.out.2.1
 have ma2 := yB HX.out.below Q.out.2.2
 go_upto_region 3 with (fail)
 try simp only [Reg.SF]
 refine Reg.det [Reg.k 12 (.slice (some ad) n c), Reg.k 13 (.pointer (some ⟨g2, 1, none⟩)), Reg.k 14 (.int .i64 a), Reg.k 15 (.pointer (some q)), Reg.k 16 (.agg #[.int .i64 v0, .int .i64 v1, .string v2])] [] 79 rfl (by kernel_rfl) (by kernel_rfl) ?s22 ?_
 case s22 =>
  intro iq oq pq hiq hoq hpq ρ ev W S hE hO ec ef hB hft hΦ
  have e1 : ev (.tmp 1) = .slice (some ad) n c := hO 1 rfl
  have e2 : ev (.tmp 2) = .pointer (some ⟨g2, 0, none⟩) := hO 2 rfl
  have mg2_1 := HX.pc hB 1 1 (.int .i64 a) rfl rfl
  have ma0' := yB hB ma0
  have ma1' := yB hB ma1
  have ma2' := yB hB ma2
  simp only [Reg.SV] at hE
  obtain ⟨e12, e13, e14, e15, e16, _⟩ := hE
  rcases Reg.lt5 hiq with rfl | rfl | rfl | rfl | rfl
  all_goals (cases hoq; cases hpq)
  all_goals try exact Reg.D.mv hB
  all_goals (refine Reg.D.cv hB ?_; go_simp; try (first | done | rfl | (rw [← hq]; rfl) | (simp [h0, h1, hq]; done)))
 intro ρ W3 S hB hft hap hΦ
 simp only [Reg.SV, Reg.SF, Nat.reduceAdd]
 have HX := HX.cl hB
 clear hΦ hft hap 
 clear ma0 ma1 ma2
 refine xG (w := w) rfl 39 (.tmp 4) (.tmp 16) rfl rfl (L1 := []) (cells := #[.int .i64 v0, .int .i64 v1, .string v2]) HX.out rfl rfl (by kernel_rfl) rfl rfl ?_
 intro Wp hx
 have HX := yC.mk hx
 clear hx
 go_wp2_with fail
 refine bodyPost_ret (results_cell_row rfl _ _ g4 39 #[.int .i64 v0, .int .i64 v1, .string v2] (0, 0) _ rfl (HX.out.at 0 rfl) hu rfl (by kernel_rfl)) rfl ?_
 exact ⟨rfl, HX.out.below⟩
theorem show_2 (a s : Int) (sep : ByteArray) (A : Option Addr) (n4 c4 : Nat) (ad q : Addr) (n c : Nat) (v0 v1 : Int) (v2 : ByteArray) (w : World) (cv : Int) (tx : ByteArray) (c0 : Bool) (HC0 : yC ((v0 == 0) = c0)) (HCu : yC (∀ w', Calls Tryz.prog 21 #[.int .i64 v1, .int .i64 s] w' fun e w'' => e = .returned (.int .i64 cv) ∧ Below w'.heap.size w' w'')) (HTx : yC (∀ w', Calls Tryz.prog 38 #[.int .i64 cv] w' fun e w'' => e = .returned (.string tx) ∧ Below w'.heap.size w' w'')) (Q : yC (w.cell? q = some (.int .i64 v0) ∧ w.cell? ⟨q.block, q.off + 1, none⟩ = some (.int .i64 v1) ∧ w.cell? ⟨q.block, q.off + 2, none⟩ = some (.string v2))) (hq : ad.add (a.toNat * 3) = q) (h0 : 0 ≤ a) (h1 : a < n) :
  Calls Tryz.prog 17 #[.agg #[.int .i64 2, .int .i64 a, .int .i64 s, .string sep, .slice A n4 c4], .slice (some ad) n c] w fun e w' => e = .returned (bif c0 then .agg #[.int .i64 v0, .int .i64 v1, .string v2] else .agg #[.int .i64 v0, .int .i64 cv, .string v2]) ∧ Below w.heap.size w w' := by
 have hu := Tryz.underlying39
 have hu2 := Tryz.underlying29
 have HX := yC.mk (Bxs.start w)
 go_enter Tryz.func17, Tryz.ntmps17
 go_upto_region 0 with (fail)
 refine Reg.det [(some 2, Reg.Dv.box 2 29 (fun _ => #[.int .i64 2, .int .i64 a, .int .i64 s, .string sep, .slice A n4 c4]) [] true), (some 4, Reg.Dv.box 4 39 (fun _ => #[.int .i64 0, .int .i64 0, .string (⟨#[]⟩ : ByteArray)]) [] true)] [] 79 rfl (by kernel_rfl) (by kernel_rfl) ?s23 ?_
 case s23 =>
  intro iq oq pq hiq hoq hpq ρ ev W S hE hO ec ef hB hft hΦ
  have e0 : ev (.tmp 0) = .agg #[.int .i64 2, .int .i64 a, .int .i64 s, .string sep, .slice A n4 c4] := hO 0 rfl
  simp only [Reg.SV] at hE
  obtain ⟨e2, e4, _⟩ := hE
  rcases Reg.lt2 hiq with rfl | rfl
  all_goals (cases hoq; cases hpq)
  rotate_left 1
  ·refine Reg.D.box hB ?_
   go_simp
   try rfl
  rotate_right 1
  ·refine Reg.D.box hB ?_
   go_simp
   try rfl
 intro ρ W0 S hB hft hap hΦ
 simp only [Reg.SV, Reg.SF, Nat.reduceAdd]
 obtain ⟨g2, e2, s2, hg2, _, b2⟩ := hΦ 0 _ rfl rfl
 replace e2 : ρ 2 = .pointer (some ⟨g2, 0, none⟩) := e2
 obtain ⟨g4, e4, s4, hg4, _, b4⟩ := hΦ 1 _ rfl rfl
 replace e4 : ρ 4 = .pointer (some ⟨g4, 0, none⟩) := e4
 try simp only [e2, e4]
 replace b2 : W0.heap[g2]? = some (.cells #[.int .i64 2, .int .i64 a, .int .i64 s, .string sep, .slice A n4 c4] 29 (0, 0)) := b2
 replace b4 : W0.heap[g4]? = some (.cells #[.int .i64 0, .int .i64 0, .string (⟨#[]⟩ : ByteArray)] 39 (0, 0)) := b4
 have HX := yC.mk (HX.out.join ((Bxs.one hB hg2 b2).more hg4 b4 (by intro p hp; simp only [List.mem_cons, List.mem_singleton, List.not_mem_nil, or_false] at hp; rcases hp with rfl <;> (intro e; dsimp only at e; subst e; first | exact absurd (hap _ _ _ s2 s4) (by decide)))))
 clear hΦ hft hap 
 go_upto_region 1 with (fail)
 try simp only [Reg.SF]
 refine Reg.det [Reg.k 8 (.pointer (some ⟨g2, 0, none⟩)), Reg.k 9 (.int .i64 2)] [] 79 rfl (by kernel_rfl) (by kernel_rfl) ?s24 ?_
 case s24 =>
  intro iq oq pq hiq hoq hpq ρ ev W S hE hO ec ef hB hft hΦ
  have e2 : ev (.tmp 2) = .pointer (some ⟨g2, 0, none⟩) := hO 2 rfl
  have mg2_0 := HX.pc hB 1 0 (.int .i64 2) rfl rfl
  simp only [Reg.SV] at hE
  obtain ⟨e8, e9, _⟩ := hE
  rcases Reg.lt2 hiq with rfl | rfl
  all_goals (cases hoq; cases hpq)
  all_goals exact Reg.D.cx hB
 intro ρ W1 S hB hft hap hΦ
 simp only [Reg.SV, Reg.SF, Nat.reduceAdd]
 have HX := HX.cl hB
 clear hΦ hft hap 
 go_upto_region 2 with (fail)
 try simp only [Reg.SF]
 refine Reg.det [Reg.k 11 (.bool false), Reg.k 10 (.bool false)] [] 79 rfl (by kernel_rfl) (by kernel_rfl) ?s25 ?_
 case s25 =>
  intro iq oq pq hiq hoq hpq ρ ev W S hE hO ec ef hB hft hΦ
  have e9 : ev (.tmp 9) = .int .i64 2 := hO 9 rfl
  simp only [Reg.SV] at hE
  obtain ⟨e11, e10, _⟩ := hE
  rcases Reg.lt2 hiq with rfl | rfl
  all_goals (cases hoq; cases hpq)
  all_goals try exact Reg.D.mv hB
  all_goals exact Reg.D.cx hB
 intro ρ W2 S hB hft hap hΦ
 simp only [Reg.SV, Reg.SF, Nat.reduceAdd]
 have HX := HX.cl hB
 clear hΦ hft hap 
 go_upto_region 4 with (fail)
 try simp only [Reg.SF]
 refine Reg.det [Reg.k 18 (.bool true), Reg.k 17 (.bool true)] [] 79 rfl (by kernel_rfl) (by kernel_rfl) ?s26 ?_
 case s26 =>
  intro iq oq pq hiq hoq hpq ρ ev W S hE hO ec ef hB hft hΦ
  have e9 : ev (.tmp 9) = .int .i64 2 := hO 9 rfl
  simp only [Reg.SV] at hE
  obtain ⟨e18, e17, _⟩ := hE
  rcases Reg.lt2 hiq with rfl | rfl
  all_goals (cases hoq; cases hpq)
  all_goals try exact Reg.D.mv hB
  all_goals exact Reg.D.cx hB
 intro ρ W4 S hB hft hap hΦ
 simp only [Reg.SV, Reg.SF, Nat.reduceAdd]
 have HX := HX.cl hB
 clear hΦ hft hap 
 have ma0 := yB HX.out.below Q.out.1
 have ma1 := yB HX.out.below Q.out.2.1
 have ma2 := yB HX.out.below Q.out.2.2
 go_upto_region 6 with (fail)
 try simp only [Reg.SF]
 refine Reg.det [Reg.k 20 (.slice (some ad) n c), Reg.k 21 (.pointer (some ⟨g2, 1, none⟩)), Reg.k 22 (.int .i64 a), Reg.k 23 (.pointer (some q)), Reg.k 24 (.agg #[.int .i64 v0, .int .i64 v1, .string v2]), (some 5, Reg.Dv.box 5 39 (fun _ => #[.int .i64 0, .int .i64 0, .string (⟨#[]⟩ : ByteArray)]) [] true), (none, Reg.Dv.box 5 39 (fun _ => #[.int .i64 v0, .int .i64 v1, .string v2]) [] false)] [(5, 6)] 79 rfl (by kernel_rfl) (by kernel_rfl) ?s27 ?_
 case s27 =>
  intro iq oq pq hiq hoq hpq ρ ev W S hE hO ec ef hB hft hΦ
  have e1 : ev (.tmp 1) = .slice (some ad) n c := hO 1 rfl
  have e2 : ev (.tmp 2) = .pointer (some ⟨g2, 0, none⟩) := hO 2 rfl
  have mg2_1 := HX.pc hB 1 1 (.int .i64 a) rfl rfl
  have ma0' := yB hB ma0
  have ma1' := yB hB ma1
  have ma2' := yB hB ma2
  simp only [Reg.SV] at hE
  obtain ⟨e20, e21, e22, e23, e24, e5, _⟩ := hE
  rcases Reg.lt7 hiq with rfl | rfl | rfl | rfl | rfl | rfl | rfl
  all_goals (cases hoq; cases hpq)
  rotate_left 6
  ·exact Reg.D.fill 5 39 (.tmp 5) (.tmp 24) hB e5 (by first | assumption | rfl | (simp [*]; done)) (hΦ 5 _ rfl rfl rfl) info39s (by first | rfl | (simp only [Reg.SV]; rfl))
  rotate_right 6
  rotate_left 5
  ·refine Reg.D.box hB ?_
   go_simp
   try rfl
  rotate_right 5
  all_goals try exact Reg.D.mv hB
  all_goals (refine Reg.D.cv hB ?_; go_simp; try (first | done | rfl | (rw [← hq]; rfl) | (simp [h0, h1, hq]; done)))
 intro ρ W6 S hB hft hap hΦ
 simp only [Reg.SV, Reg.SF, Nat.reduceAdd]
 obtain ⟨g5, e5, s5, hg5, _, b5⟩ := hΦ 6 _ rfl rfl
 replace e5 : ρ 5 = .pointer (some ⟨g5, 0, none⟩) := e5
 try simp only [e5]
 replace b5 : W6.heap[g5]? = some (.cells #[.int .i64 v0, .int .i64 v1, .string v2] 39 (0, 0)) := b5
 have HX := yC.mk (HX.out.join (Bxs.one hB hg5 b5))
 clear hΦ hft hap 
 clear ma0 ma1 ma2
 go_upto_region 7 with (fail)
 try simp only [Reg.SF]
 refine Reg.det [Reg.k 25 (.pointer (some ⟨g5, 0, none⟩)), Reg.k 26 (.int .i64 v0), Reg.k 27 (.bool c0)] [] 79 rfl (by kernel_rfl) (by kernel_rfl) ?s28 ?_
 case s28 =>
  intro iq oq pq hiq hoq hpq ρ ev W S hE hO ec ef hB hft hΦ
  have e5 : ev (.tmp 5) = .pointer (some ⟨g5, 0, none⟩) := hO 5 rfl
  have mg5_0 := HX.pc hB 0 0 (.int .i64 v0) rfl rfl
  simp only [Reg.SV] at hE
  obtain ⟨e25, e26, e27, _⟩ := hE
  rcases Reg.lt3 hiq with rfl | rfl | rfl
  all_goals (cases hoq; cases hpq)
  all_goals (refine Reg.D.cv hB ?_; go_simp; try (first | done | rfl | (exact HC0.out)))
 intro ρ W7 S hB hft hap hΦ
 simp only [Reg.SV, Reg.SF, Nat.reduceAdd]
 have HX := HX.cl hB
 clear hΦ hft hap 
 cases c0 with
 | true =>
  go_upto_region 8 with (fail)
  try simp only [Reg.SF]
  refine Reg.det [Reg.k 28 (.agg #[.int .i64 v0, .int .i64 v1, .string v2])] [] 79 rfl (by kernel_rfl) (by kernel_rfl) ?s29 ?_
  case s29 =>
   intro iq oq pq hiq hoq hpq ρ ev W S hE hO ec ef hB hft hΦ
   have e5 : ev (.tmp 5) = .pointer (some ⟨g5, 0, none⟩) := hO 5 rfl
   have mg5_0 := HX.pc hB 0 0 (.int .i64 v0) rfl rfl
   have mg5_1 := HX.pc hB 0 1 (.int .i64 v1) rfl rfl
   have mg5_2 := HX.pc hB 0 2 (.string v2) rfl rfl
   simp only [Reg.SV] at hE
   obtain ⟨e28, _⟩ := hE
   obtain rfl : iq = 0 := by have : iq < 1 := hiq; omega
   cases hoq; cases hpq
   all_goals exact Reg.D.cx hB
  intro ρ W8 S hB hft hap hΦ
  simp only [Reg.SV, Reg.SF, Nat.reduceAdd]
  have HX := HX.cl hB
  clear hΦ hft hap 
  refine xG (w := w) rfl 39 (.tmp 4) (.tmp 28) rfl rfl (L1 := [_]) (cells := #[.int .i64 v0, .int .i64 v1, .string v2]) HX.out rfl rfl (by kernel_rfl) rfl rfl ?_
  intro Wp hx
  have HX := yC.mk hx
  clear hx
  go_wp2_with fail
  refine bodyPost_ret (results_cell_row rfl _ _ g4 39 #[.int .i64 v0, .int .i64 v1, .string v2] (0, 0) _ rfl (HX.out.at 1 rfl) hu rfl (by kernel_rfl)) rfl ?_
  exact ⟨rfl, HX.out.below⟩
 | false =>
  go_upto_region 9 with (fail)
  try simp only [Reg.SF]
  refine Reg.det [Reg.k 29 (.pointer (some ⟨g5, 1, none⟩)), Reg.k 30 (.int .i64 v1), Reg.k 31 (.pointer (some ⟨g2, 2, none⟩)), Reg.k 32 (.int .i64 s), Reg.k 33 (.int .i64 cv), Reg.k 34 (.pointer (some ⟨g5, 1, none⟩))] [] 79 rfl (by kernel_rfl) (by kernel_rfl) ?s30 ?_
  case s30 =>
   intro iq oq pq hiq hoq hpq ρ ev W S hE hO ec ef hB hft hΦ
   have e2 : ev (.tmp 2) = .pointer (some ⟨g2, 0, none⟩) := hO 2 rfl
   have e5 : ev (.tmp 5) = .pointer (some ⟨g5, 0, none⟩) := hO 5 rfl
   have mg5_1 := HX.pc hB 0 1 (.int .i64 v1) rfl rfl
   have mg2_2 := HX.pc hB 2 2 (.int .i64 s) rfl rfl
   simp only [Reg.SV] at hE
   obtain ⟨e29, e30, e31, e32, e33, e34, _⟩ := hE
   rcases Reg.lt6 hiq with rfl | rfl | rfl | rfl | rfl | rfl
   all_goals (cases hoq; cases hpq)
   rotate_left 4
   ·refine Reg.D.cc (g := 21) (args := #[.int .i64 v1, .int .i64 s]) hB (by go_simp; try rfl) ?_
    exact HCu.out W
   rotate_right 4
   all_goals exact Reg.D.cx hB
  intro ρ W9 S hB hft hap hΦ
  simp only [Reg.SV, Reg.SF, Nat.reduceAdd]
  have HX := HX.cl hB
  clear hΦ hft hap 
  have fz1_ := HX.out.frz 0 1 rfl
  have cl1_ := HX.out.cell 0 1 rfl rfl
  go_upto_region 10 with (fail)
  try simp only [Reg.SF]
  have HY0 := HX.out.set (L1 := []) 1 (.int .i64 cv)
  clear HX  fz1_ cl1_ 
  generalize World.setCell _ ⟨g5, 1, none⟩ (.int .i64 cv) = W9s at *
  have HX := yC.mk HY0
  clear HY0
  go_upto_region 10 with (fail)
  try simp only [Reg.SF]
  refine Reg.det [Reg.k 35 (.pointer (some ⟨g2, 0, none⟩)), Reg.k 36 (.int .i64 2), Reg.k 37 (.bool false)] [] 79 rfl (by kernel_rfl) (by kernel_rfl) ?s31 ?_
  case s31 =>
   intro iq oq pq hiq hoq hpq ρ ev W S hE hO ec ef hB hft hΦ
   have e2 : ev (.tmp 2) = .pointer (some ⟨g2, 0, none⟩) := hO 2 rfl
   have mg2_0 := HX.pc hB 2 0 (.int .i64 2) rfl rfl
   simp only [Reg.SV] at hE
   obtain ⟨e35, e36, e37, _⟩ := hE
   rcases Reg.lt3 hiq with rfl | rfl | rfl
   all_goals (cases hoq; cases hpq)
   all_goals exact Reg.D.cx hB
  intro ρ W10 S hB hft hap hΦ
  simp only [Reg.SV, Reg.SF, Nat.reduceAdd]
  have HX := HX.cl hB
  clear hΦ hft hap 
  go_upto_region 12 with (fail)
  try simp only [Reg.SF]
  refine Reg.det [Reg.k 42 (.agg #[.int .i64 v0, .int .i64 cv, .string v2])] [] 79 rfl (by kernel_rfl) (by kernel_rfl) ?s32 ?_
  case s32 =>
   intro iq oq pq hiq hoq hpq ρ ev W S hE hO ec ef hB hft hΦ
   have e5 : ev (.tmp 5) = .pointer (some ⟨g5, 0, none⟩) := hO 5 rfl
   have mg5_0 := HX.pc hB 0 0 (.int .i64 v0) rfl rfl
   have mg5_1 := HX.pc hB 0 1 (.int .i64 cv) rfl rfl
   have mg5_2 := HX.pc hB 0 2 (.string v2) rfl rfl
   simp only [Reg.SV] at hE
   obtain ⟨e42, _⟩ := hE
   obtain rfl : iq = 0 := by have : iq < 1 := hiq; omega
   cases hoq; cases hpq
   all_goals exact Reg.D.cx hB
  intro ρ W12 S hB hft hap hΦ
  simp only [Reg.SV, Reg.SF, Nat.reduceAdd]
  have HX := HX.cl hB
  clear hΦ hft hap 
  refine xG (w := w) rfl 39 (.tmp 4) (.tmp 42) rfl rfl (L1 := [_]) (cells := #[.int .i64 v0, .int .i64 cv, .string v2]) HX.out rfl rfl (by kernel_rfl) rfl rfl ?_
  intro Wp hx
  have HX := yC.mk hx
  clear hx
  go_wp2_with fail
  refine bodyPost_ret (results_cell_row rfl _ _ g4 39 #[.int .i64 v0, .int .i64 cv, .string v2] (0, 0) _ rfl (HX.out.at 1 rfl) hu rfl (by kernel_rfl)) rfl ?_
  exact ⟨rfl, HX.out.below⟩
theorem show_3 (a s : Int) (sep : ByteArray) (A : Option Addr) (n4 c4 : Nat) (ad q : Addr) (n c : Nat) (v0 v1 : Int) (v2 : ByteArray) (w : World) (cv : Int) (tx : ByteArray) (c0 : Bool) (HC0 : yC ((v0 == 0) = c0)) (HCu : yC (∀ w', Calls Tryz.prog 21 #[.int .i64 v1, .int .i64 s] w' fun e w'' => e = .returned (.int .i64 cv) ∧ Below w'.heap.size w' w'')) (HTx : yC (∀ w', Calls Tryz.prog 38 #[.int .i64 cv] w' fun e w'' => e = .returned (.string tx) ∧ Below w'.heap.size w' w'')) (Q : yC (w.cell? q = some (.int .i64 v0) ∧ w.cell? ⟨q.block, q.off + 1, none⟩ = some (.int .i64 v1) ∧ w.cell? ⟨q.block, q.off + 2, none⟩ = some (.string v2))) (hq : ad.add (a.toNat * 3) = q) (h0 : 0 ≤ a) (h1 : a < n) :
  Calls Tryz.prog 17 #[.agg #[.int .i64 3, .int .i64 a, .int .i64 s, .string sep, .slice A n4 c4], .slice (some ad) n c] w fun e w' => e = .returned (bif c0 then .agg #[.int .i64 v0, .int .i64 v1, .string v2] else .agg #[.int .i64 3, .int .i64 0, .string tx]) ∧ Below w.heap.size w w' := by
 have hu := Tryz.underlying39
 have hu2 := Tryz.underlying29
 have HX := yC.mk (Bxs.start w)
 go_enter Tryz.func17, Tryz.ntmps17
 go_upto_region 0 with (fail)
 refine Reg.det [(some 2, Reg.Dv.box 2 29 (fun _ => #[.int .i64 3, .int .i64 a, .int .i64 s, .string sep, .slice A n4 c4]) [] true), (some 4, Reg.Dv.box 4 39 (fun _ => #[.int .i64 0, .int .i64 0, .string (⟨#[]⟩ : ByteArray)]) [] true)] [] 79 rfl (by kernel_rfl) (by kernel_rfl) ?s33 ?_
 case s33 =>
  intro iq oq pq hiq hoq hpq ρ ev W S hE hO ec ef hB hft hΦ
  have e0 : ev (.tmp 0) = .agg #[.int .i64 3, .int .i64 a, .int .i64 s, .string sep, .slice A n4 c4] := hO 0 rfl
  simp only [Reg.SV] at hE
  obtain ⟨e2, e4, _⟩ := hE
  rcases Reg.lt2 hiq with rfl | rfl
  all_goals (cases hoq; cases hpq)
  rotate_left 1
  ·refine Reg.D.box hB ?_
   go_simp
   try rfl
  rotate_right 1
  ·refine Reg.D.box hB ?_
   go_simp
   try rfl
 intro ρ W0 S hB hft hap hΦ
 simp only [Reg.SV, Reg.SF, Nat.reduceAdd]
 obtain ⟨g2, e2, s2, hg2, _, b2⟩ := hΦ 0 _ rfl rfl
 replace e2 : ρ 2 = .pointer (some ⟨g2, 0, none⟩) := e2
 obtain ⟨g4, e4, s4, hg4, _, b4⟩ := hΦ 1 _ rfl rfl
 replace e4 : ρ 4 = .pointer (some ⟨g4, 0, none⟩) := e4
 try simp only [e2, e4]
 replace b2 : W0.heap[g2]? = some (.cells #[.int .i64 3, .int .i64 a, .int .i64 s, .string sep, .slice A n4 c4] 29 (0, 0)) := b2
 replace b4 : W0.heap[g4]? = some (.cells #[.int .i64 0, .int .i64 0, .string (⟨#[]⟩ : ByteArray)] 39 (0, 0)) := b4
 have HX := yC.mk (HX.out.join ((Bxs.one hB hg2 b2).more hg4 b4 (by intro p hp; simp only [List.mem_cons, List.mem_singleton, List.not_mem_nil, or_false] at hp; rcases hp with rfl <;> (intro e; dsimp only at e; subst e; first | exact absurd (hap _ _ _ s2 s4) (by decide)))))
 clear hΦ hft hap 
 go_upto_region 1 with (fail)
 try simp only [Reg.SF]
 refine Reg.det [Reg.k 8 (.pointer (some ⟨g2, 0, none⟩)), Reg.k 9 (.int .i64 3)] [] 79 rfl (by kernel_rfl) (by kernel_rfl) ?s34 ?_
 case s34 =>
  intro iq oq pq hiq hoq hpq ρ ev W S hE hO ec ef hB hft hΦ
  have e2 : ev (.tmp 2) = .pointer (some ⟨g2, 0, none⟩) := hO 2 rfl
  have mg2_0 := HX.pc hB 1 0 (.int .i64 3) rfl rfl
  simp only [Reg.SV] at hE
  obtain ⟨e8, e9, _⟩ := hE
  rcases Reg.lt2 hiq with rfl | rfl
  all_goals (cases hoq; cases hpq)
  all_goals exact Reg.D.cx hB
 intro ρ W1 S hB hft hap hΦ
 simp only [Reg.SV, Reg.SF, Nat.reduceAdd]
 have HX := HX.cl hB
 clear hΦ hft hap 
 go_upto_region 2 with (fail)
 try simp only [Reg.SF]
 refine Reg.det [Reg.k 11 (.bool false), Reg.k 10 (.bool false)] [] 79 rfl (by kernel_rfl) (by kernel_rfl) ?s35 ?_
 case s35 =>
  intro iq oq pq hiq hoq hpq ρ ev W S hE hO ec ef hB hft hΦ
  have e9 : ev (.tmp 9) = .int .i64 3 := hO 9 rfl
  simp only [Reg.SV] at hE
  obtain ⟨e11, e10, _⟩ := hE
  rcases Reg.lt2 hiq with rfl | rfl
  all_goals (cases hoq; cases hpq)
  all_goals try exact Reg.D.mv hB
  all_goals exact Reg.D.cx hB
 intro ρ W2 S hB hft hap hΦ
 simp only [Reg.SV, Reg.SF, Nat.reduceAdd]
 have HX := HX.cl hB
 clear hΦ hft hap 
 go_upto_region 4 with (fail)
 try simp only [Reg.SF]
 refine Reg.det [Reg.k 18 (.bool false), Reg.k 17 (.bool false)] [] 79 rfl (by kernel_rfl) (by kernel_rfl) ?s36 ?_
 case s36 =>
  intro iq oq pq hiq hoq hpq ρ ev W S hE hO ec ef hB hft hΦ
  have e9 : ev (.tmp 9) = .int .i64 3 := hO 9 rfl
  simp only [Reg.SV] at hE
  obtain ⟨e18, e17, _⟩ := hE
  rcases Reg.lt2 hiq with rfl | rfl
  all_goals (cases hoq; cases hpq)
  all_goals try exact Reg.D.mv hB
  all_goals exact Reg.D.cx hB
 intro ρ W4 S hB hft hap hΦ
 simp only [Reg.SV, Reg.SF, Nat.reduceAdd]
 have HX := HX.cl hB
 clear hΦ hft hap 
 go_upto_region 5 with (fail)
 try simp only [Reg.SF]
 refine Reg.det [Reg.k 19 (.bool true), Reg.k 17 (.bool true)] [] 79 rfl (by kernel_rfl) (by kernel_rfl) ?s37 ?_
 case s37 =>
  intro iq oq pq hiq hoq hpq ρ ev W S hE hO ec ef hB hft hΦ
  have e9 : ev (.tmp 9) = .int .i64 3 := hO 9 rfl
  simp only [Reg.SV] at hE
  obtain ⟨e19, e17, _⟩ := hE
  rcases Reg.lt2 hiq with rfl | rfl
  all_goals (cases hoq; cases hpq)
  all_goals try exact Reg.D.mv hB
  all_goals exact Reg.D.cx hB
 intro ρ W5 S hB hft hap hΦ
 simp only [Reg.SV, Reg.SF, Nat.reduceAdd]
 have HX := HX.cl hB
 clear hΦ hft hap 
 have ma0 := yB HX.out.below Q.out.1
 have ma1 := yB HX.out.below Q.out.2.1
 have ma2 := yB HX.out.below Q.out.2.2
 go_upto_region 6 with (fail)
 try simp only [Reg.SF]
 refine Reg.det [Reg.k 20 (.slice (some ad) n c), Reg.k 21 (.pointer (some ⟨g2, 1, none⟩)), Reg.k 22 (.int .i64 a), Reg.k 23 (.pointer (some q)), Reg.k 24 (.agg #[.int .i64 v0, .int .i64 v1, .string v2]), (some 5, Reg.Dv.box 5 39 (fun _ => #[.int .i64 0, .int .i64 0, .string (⟨#[]⟩ : ByteArray)]) [] true), (none, Reg.Dv.box 5 39 (fun _ => #[.int .i64 v0, .int .i64 v1, .string v2]) [] false)] [(5, 6)] 79 rfl (by kernel_rfl) (by kernel_rfl) ?s38 ?_
 case s38 =>
  intro iq oq pq hiq hoq hpq ρ ev W S hE hO ec ef hB hft hΦ
  have e1 : ev (.tmp 1) = .slice (some ad) n c := hO 1 rfl
  have e2 : ev (.tmp 2) = .pointer (some ⟨g2, 0, none⟩) := hO 2 rfl
  have mg2_1 := HX.pc hB 1 1 (.int .i64 a) rfl rfl
  have ma0' := yB hB ma0
  have ma1' := yB hB ma1
  have ma2' := yB hB ma2
  simp only [Reg.SV] at hE
  obtain ⟨e20, e21, e22, e23, e24, e5, _⟩ := hE
  rcases Reg.lt7 hiq with rfl | rfl | rfl | rfl | rfl | rfl | rfl
  all_goals (cases hoq; cases hpq)
  rotate_left 6
  ·exact Reg.D.fill 5 39 (.tmp 5) (.tmp 24) hB e5 (by first | assumption | rfl | (simp [*]; done)) (hΦ 5 _ rfl rfl rfl) info39s (by first | rfl | (simp only [Reg.SV]; rfl))
  rotate_right 6
  rotate_left 5
  ·refine Reg.D.box hB ?_
   go_simp
   try rfl
  rotate_right 5
  all_goals try exact Reg.D.mv hB
  all_goals (refine Reg.D.cv hB ?_; go_simp; try (first | done | rfl | (rw [← hq]; rfl) | (simp [h0, h1, hq]; done)))
 intro ρ W6 S hB hft hap hΦ
 simp only [Reg.SV, Reg.SF, Nat.reduceAdd]
 obtain ⟨g5, e5, s5, hg5, _, b5⟩ := hΦ 6 _ rfl rfl
 replace e5 : ρ 5 = .pointer (some ⟨g5, 0, none⟩) := e5
 try simp only [e5]
 replace b5 : W6.heap[g5]? = some (.cells #[.int .i64 v0, .int .i64 v1, .string v2] 39 (0, 0)) := b5
 have HX := yC.mk (HX.out.join (Bxs.one hB hg5 b5))
 clear hΦ hft hap 
 clear ma0 ma1 ma2
 go_upto_region 7 with (fail)
 try simp only [Reg.SF]
 refine Reg.det [Reg.k 25 (.pointer (some ⟨g5, 0, none⟩)), Reg.k 26 (.int .i64 v0), Reg.k 27 (.bool c0)] [] 79 rfl (by kernel_rfl) (by kernel_rfl) ?s39 ?_
 case s39 =>
  intro iq oq pq hiq hoq hpq ρ ev W S hE hO ec ef hB hft hΦ
  have e5 : ev (.tmp 5) = .pointer (some ⟨g5, 0, none⟩) := hO 5 rfl
  have mg5_0 := HX.pc hB 0 0 (.int .i64 v0) rfl rfl
  simp only [Reg.SV] at hE
  obtain ⟨e25, e26, e27, _⟩ := hE
  rcases Reg.lt3 hiq with rfl | rfl | rfl
  all_goals (cases hoq; cases hpq)
  all_goals (refine Reg.D.cv hB ?_; go_simp; try (first | done | rfl | (exact HC0.out)))
 intro ρ W7 S hB hft hap hΦ
 simp only [Reg.SV, Reg.SF, Nat.reduceAdd]
 have HX := HX.cl hB
 clear hΦ hft hap 
 cases c0 with
 | true =>
  go_upto_region 8 with (fail)
  try simp only [Reg.SF]
  refine Reg.det [Reg.k 28 (.agg #[.int .i64 v0, .int .i64 v1, .string v2])] [] 79 rfl (by kernel_rfl) (by kernel_rfl) ?s40 ?_
  case s40 =>
   intro iq oq pq hiq hoq hpq ρ ev W S hE hO ec ef hB hft hΦ
   have e5 : ev (.tmp 5) = .pointer (some ⟨g5, 0, none⟩) := hO 5 rfl
   have mg5_0 := HX.pc hB 0 0 (.int .i64 v0) rfl rfl
   have mg5_1 := HX.pc hB 0 1 (.int .i64 v1) rfl rfl
   have mg5_2 := HX.pc hB 0 2 (.string v2) rfl rfl
   simp only [Reg.SV] at hE
   obtain ⟨e28, _⟩ := hE
   obtain rfl : iq = 0 := by have : iq < 1 := hiq; omega
   cases hoq; cases hpq
   all_goals exact Reg.D.cx hB
  intro ρ W8 S hB hft hap hΦ
  simp only [Reg.SV, Reg.SF, Nat.reduceAdd]
  have HX := HX.cl hB
  clear hΦ hft hap 
  refine xG (w := w) rfl 39 (.tmp 4) (.tmp 28) rfl rfl (L1 := [_]) (cells := #[.int .i64 v0, .int .i64 v1, .string v2]) HX.out rfl rfl (by kernel_rfl) rfl rfl ?_
  intro Wp hx
  have HX := yC.mk hx
  clear hx
  go_wp2_with fail
  refine bodyPost_ret (results_cell_row rfl _ _ g4 39 #[.int .i64 v0, .int .i64 v1, .string v2] (0, 0) _ rfl (HX.out.at 1 rfl) hu rfl (by kernel_rfl)) rfl ?_
  exact ⟨rfl, HX.out.below⟩
 | false =>
  go_upto_region 9 with (fail)
  try simp only [Reg.SF]
  refine Reg.det [Reg.k 29 (.pointer (some ⟨g5, 1, none⟩)), Reg.k 30 (.int .i64 v1), Reg.k 31 (.pointer (some ⟨g2, 2, none⟩)), Reg.k 32 (.int .i64 s), Reg.k 33 (.int .i64 cv), Reg.k 34 (.pointer (some ⟨g5, 1, none⟩))] [] 79 rfl (by kernel_rfl) (by kernel_rfl) ?s41 ?_
  case s41 =>
   intro iq oq pq hiq hoq hpq ρ ev W S hE hO ec ef hB hft hΦ
   have e2 : ev (.tmp 2) = .pointer (some ⟨g2, 0, none⟩) := hO 2 rfl
   have e5 : ev (.tmp 5) = .pointer (some ⟨g5, 0, none⟩) := hO 5 rfl
   have mg5_1 := HX.pc hB 0 1 (.int .i64 v1) rfl rfl
   have mg2_2 := HX.pc hB 2 2 (.int .i64 s) rfl rfl
   simp only [Reg.SV] at hE
   obtain ⟨e29, e30, e31, e32, e33, e34, _⟩ := hE
   rcases Reg.lt6 hiq with rfl | rfl | rfl | rfl | rfl | rfl
   all_goals (cases hoq; cases hpq)
   rotate_left 4
   ·refine Reg.D.cc (g := 21) (args := #[.int .i64 v1, .int .i64 s]) hB (by go_simp; try rfl) ?_
    exact HCu.out W
   rotate_right 4
   all_goals exact Reg.D.cx hB
  intro ρ W9 S hB hft hap hΦ
  simp only [Reg.SV, Reg.SF, Nat.reduceAdd]
  have HX := HX.cl hB
  clear hΦ hft hap 
  have fz1_ := HX.out.frz 0 1 rfl
  have cl1_ := HX.out.cell 0 1 rfl rfl
  go_upto_region 10 with (fail)
  try simp only [Reg.SF]
  have HY0 := HX.out.set (L1 := []) 1 (.int .i64 cv)
  clear HX  fz1_ cl1_ 
  generalize World.setCell _ ⟨g5, 1, none⟩ (.int .i64 cv) = W9s at *
  have HX := yC.mk HY0
  clear HY0
  go_upto_region 10 with (fail)
  try simp only [Reg.SF]
  refine Reg.det [Reg.k 35 (.pointer (some ⟨g2, 0, none⟩)), Reg.k 36 (.int .i64 3), Reg.k 37 (.bool true)] [] 79 rfl (by kernel_rfl) (by kernel_rfl) ?s42 ?_
  case s42 =>
   intro iq oq pq hiq hoq hpq ρ ev W S hE hO ec ef hB hft hΦ
   have e2 : ev (.tmp 2) = .pointer (some ⟨g2, 0, none⟩) := hO 2 rfl
   have mg2_0 := HX.pc hB 2 0 (.int .i64 3) rfl rfl
   simp only [Reg.SV] at hE
   obtain ⟨e35, e36, e37, _⟩ := hE
   rcases Reg.lt3 hiq with rfl | rfl | rfl
   all_goals (cases hoq; cases hpq)
   all_goals exact Reg.D.cx hB
  intro ρ W10 S hB hft hap hΦ
  simp only [Reg.SV, Reg.SF, Nat.reduceAdd]
  have HX := HX.cl hB
  clear hΦ hft hap 
  go_upto_region 11 with (fail)
  try simp only [Reg.SF]
  refine Reg.det [Reg.k 38 (.pointer (some ⟨g5, 1, none⟩)), Reg.k 39 (.int .i64 cv), Reg.k 40 (.string tx), Reg.k 41 (.agg #[.int .i64 3, .int .i64 0, .string tx])] [] 79 rfl (by kernel_rfl) (by kernel_rfl) ?s43 ?_
  case s43 =>
   intro iq oq pq hiq hoq hpq ρ ev W S hE hO ec ef hB hft hΦ
   have e5 : ev (.tmp 5) = .pointer (some ⟨g5, 0, none⟩) := hO 5 rfl
   have mg5_1 := HX.pc hB 0 1 (.int .i64 cv) rfl rfl
   simp only [Reg.SV] at hE
   obtain ⟨e38, e39, e40, e41, _⟩ := hE
   rcases Reg.lt4 hiq with rfl | rfl | rfl | rfl
   all_goals (cases hoq; cases hpq)
   rotate_left 3
   ·refine Reg.D.cc (g := 29) (args := #[.string tx]) hB (by go_simp; try rfl) ?_
    exact chapmanref16_Texted.calls _ 3 0 _ W rfl
   rotate_right 3
   rotate_left 2
   ·refine Reg.D.cc (g := 38) (args := #[.int .i64 cv]) hB (by go_simp; try rfl) ?_
    exact HTx.out W
   rotate_right 2
   all_goals exact Reg.D.cx hB
  intro ρ W11 S hB hft hap hΦ
  simp only [Reg.SV, Reg.SF, Nat.reduceAdd]
  have HX := HX.cl hB
  clear hΦ hft hap 
  refine xG (w := w) rfl 39 (.tmp 4) (.tmp 41) rfl rfl (L1 := [_]) (cells := #[.int .i64 3, .int .i64 0, .string tx]) HX.out rfl rfl (by kernel_rfl) rfl rfl ?_
  intro Wp hx
  have HX := yC.mk hx
  clear hx
  go_wp2_with fail
  refine bodyPost_ret (results_cell_row rfl _ _ g4 39 #[.int .i64 3, .int .i64 0, .string tx] (0, 0) _ rfl (HX.out.at 1 rfl) hu rfl (by kernel_rfl)) rfl ?_
  exact ⟨rfl, HX.out.below⟩
theorem show_p (K a s : Int) (sep : ByteArray) (ax q0 q1 : Addr) (A : Option Addr) (n n4 c c4 mn : Nat) (y0 y1 y2 : Int) (y3 : ByteArray) (yA : Option Addr) (yn yc : Nat) (z0 z1 z2 : Int) (z3 : ByteArray) (zA : Option Addr) (zn zc : Nat) (u0 u1 : Int) (u2 : ByteArray) (t0 t1 : Int) (t2 : ByteArray) (p0 p1 : Int) (p2 : ByteArray) (r0 r1 : Int) (r2 : ByteArray) (js : ByteArray) (w : World) (HK : yC (4 ≤ K)) (c1 c2 : Bool) (HC1 : yC ((K == 4) = c1)) (HC2 : yC ((K == 5) = c2)) (hn0 : 0 < n4) (e0 : ax.add (0 * 5) = q0) (e1 : ax.add (1 * 5) = q1) (hm : min (js.size : Int) 40 = mn) (hm0 : mn ≤ js.size)
  (Q0 : yC (KidC w q0 (.int .i64 y0) (.int .i64 y1) (.int .i64 y2) (.string y3) (.slice yA yn yc))) (H0 : yC (∀ w', Below w.heap.size w w' → Calls Tryz.prog 17 #[.agg #[.int .i64 y0, .int .i64 y1, .int .i64 y2, .string y3, .slice yA yn yc], .slice A n c] w' fun e w'' => e = .returned (.agg #[.int .i64 u0, .int .i64 u1, .string u2]) ∧ Below w'.heap.size w' w'')) (HAh : yC (∀ w', Calls Tryz.prog 41 #[.agg #[.int .i64 u0, .int .i64 u1, .string u2], .string sep] w' fun e w'' => e = .returned (.agg #[.int .i64 p0, .int .i64 p1, .string p2]) ∧ Below w'.heap.size w' w'')) (HBh : yC (∀ w', Calls Tryz.prog 42 #[.agg #[.int .i64 u0, .int .i64 u1, .string u2], .string sep] w' fun e w'' => e = .returned (.agg #[.int .i64 r0, .int .i64 r1, .string r2]) ∧ Below w'.heap.size w' w''))
  (HR : yC (c1 = false → c2 = false → 1 < n4 ∧ KidC w q1 (.int .i64 z0) (.int .i64 z1) (.int .i64 z2) (.string z3) (.slice zA zn zc) ∧ (∀ w', Below w.heap.size w w' → Calls Tryz.prog 17 #[.agg #[.int .i64 z0, .int .i64 z1, .int .i64 z2, .string z3, .slice zA zn zc], .slice A n c] w' fun e w'' => e = .returned (.agg #[.int .i64 t0, .int .i64 t1, .string t2]) ∧ Below w'.heap.size w' w'') ∧ (∀ w', Calls Tryz.prog 43 #[.agg #[.int .i64 u0, .int .i64 u1, .string u2], .agg #[.int .i64 t0, .int .i64 t1, .string t2], .string sep] w' fun e w'' => e = .returned (.string js) ∧ Below w'.heap.size w' w''))) :
  Calls Tryz.prog 17 #[.agg #[.int .i64 K, .int .i64 a, .int .i64 s, .string sep, .slice (some ax) n4 c4], .slice A n c] w fun e w' => e = .returned (bif c1 then .agg #[.int .i64 p0, .int .i64 p1, .string p2] else bif c2 then .agg #[.int .i64 r0, .int .i64 r1, .string r2] else .agg #[.int .i64 3, .int .i64 0, .string (js.extract 0 mn)]) ∧ Below w.heap.size w w' := by
 have hu := Tryz.underlying39
 have hu2 := Tryz.underlying29
 have HX := yC.mk (Bxs.start w)
 go_enter Tryz.func17, Tryz.ntmps17
 go_upto_region 0 with (fail)
 refine Reg.det [(some 2, Reg.Dv.box 2 29 (fun _ => #[.int .i64 K, .int .i64 a, .int .i64 s, .string sep, .slice (some ax) n4 c4]) [] true), (some 4, Reg.Dv.box 4 39 (fun _ => #[.int .i64 0, .int .i64 0, .string (⟨#[]⟩ : ByteArray)]) [] true)] [] 79 rfl (by kernel_rfl) (by kernel_rfl) ?s44 ?_
 case s44 =>
  intro iq oq pq hiq hoq hpq ρ ev W S hE hO ec ef hB hft hΦ
  have e0 : ev (.tmp 0) = .agg #[.int .i64 K, .int .i64 a, .int .i64 s, .string sep, .slice (some ax) n4 c4] := hO 0 rfl
  simp only [Reg.SV] at hE
  obtain ⟨e2, e4, _⟩ := hE
  rcases Reg.lt2 hiq with rfl | rfl
  all_goals (cases hoq; cases hpq)
  rotate_left 1
  ·refine Reg.D.box hB ?_
   go_simp
   try rfl
  rotate_right 1
  ·refine Reg.D.box hB ?_
   go_simp
   try rfl
 intro ρ W0 S hB hft hap hΦ
 simp only [Reg.SV, Reg.SF, Nat.reduceAdd]
 obtain ⟨g2, e2, s2, hg2, _, b2⟩ := hΦ 0 _ rfl rfl
 replace e2 : ρ 2 = .pointer (some ⟨g2, 0, none⟩) := e2
 obtain ⟨g4, e4, s4, hg4, _, b4⟩ := hΦ 1 _ rfl rfl
 replace e4 : ρ 4 = .pointer (some ⟨g4, 0, none⟩) := e4
 try simp only [e2, e4]
 replace b2 : W0.heap[g2]? = some (.cells #[.int .i64 K, .int .i64 a, .int .i64 s, .string sep, .slice (some ax) n4 c4] 29 (0, 0)) := b2
 replace b4 : W0.heap[g4]? = some (.cells #[.int .i64 0, .int .i64 0, .string (⟨#[]⟩ : ByteArray)] 39 (0, 0)) := b4
 have HX := yC.mk (HX.out.join ((Bxs.one hB hg2 b2).more hg4 b4 (by intro p hp; simp only [List.mem_cons, List.mem_singleton, List.not_mem_nil, or_false] at hp; rcases hp with rfl <;> (intro e; dsimp only at e; subst e; first | exact absurd (hap _ _ _ s2 s4) (by decide)))))
 clear hΦ hft hap 
 go_upto_region 1 with (fail)
 try simp only [Reg.SF]
 refine Reg.det [Reg.k 8 (.pointer (some ⟨g2, 0, none⟩)), Reg.k 9 (.int .i64 K)] [] 79 rfl (by kernel_rfl) (by kernel_rfl) ?s45 ?_
 case s45 =>
  intro iq oq pq hiq hoq hpq ρ ev W S hE hO ec ef hB hft hΦ
  have e2 : ev (.tmp 2) = .pointer (some ⟨g2, 0, none⟩) := hO 2 rfl
  have mg2_0 := HX.pc hB 1 0 (.int .i64 K) rfl rfl
  simp only [Reg.SV] at hE
  obtain ⟨e8, e9, _⟩ := hE
  rcases Reg.lt2 hiq with rfl | rfl
  all_goals (cases hoq; cases hpq)
  all_goals (refine Reg.D.cv hB ?_; go_simp; try (first | done | rfl | (have h1 := HK.out; simp; omega)))
 intro ρ W1 S hB hft hap hΦ
 simp only [Reg.SV, Reg.SF, Nat.reduceAdd]
 have HX := HX.cl hB
 clear hΦ hft hap 
 go_upto_region 2 with (fail)
 try simp only [Reg.SF]
 refine Reg.det [Reg.k 11 (.bool false), Reg.k 10 (.bool false)] [] 79 rfl (by kernel_rfl) (by kernel_rfl) ?s46 ?_
 case s46 =>
  intro iq oq pq hiq hoq hpq ρ ev W S hE hO ec ef hB hft hΦ
  have e9 : ev (.tmp 9) = .int .i64 K := hO 9 rfl
  simp only [Reg.SV] at hE
  obtain ⟨e11, e10, _⟩ := hE
  rcases Reg.lt2 hiq with rfl | rfl
  all_goals (cases hoq; cases hpq)
  all_goals try exact Reg.D.mv hB
  all_goals (refine Reg.D.cv hB ?_; go_simp; try (first | done | rfl | (have h1 := HK.out; simp; omega)))
 intro ρ W2 S hB hft hap hΦ
 simp only [Reg.SV, Reg.SF, Nat.reduceAdd]
 have HX := HX.cl hB
 clear hΦ hft hap 
 go_upto_region 4 with (fail)
 try simp only [Reg.SF]
 refine Reg.det [Reg.k 18 (.bool false), Reg.k 17 (.bool false)] [] 79 rfl (by kernel_rfl) (by kernel_rfl) ?s47 ?_
 case s47 =>
  intro iq oq pq hiq hoq hpq ρ ev W S hE hO ec ef hB hft hΦ
  have e9 : ev (.tmp 9) = .int .i64 K := hO 9 rfl
  simp only [Reg.SV] at hE
  obtain ⟨e18, e17, _⟩ := hE
  rcases Reg.lt2 hiq with rfl | rfl
  all_goals (cases hoq; cases hpq)
  all_goals try exact Reg.D.mv hB
  all_goals (refine Reg.D.cv hB ?_; go_simp; try (first | done | rfl | (have h1 := HK.out; simp; omega)))
 intro ρ W4 S hB hft hap hΦ
 simp only [Reg.SV, Reg.SF, Nat.reduceAdd]
 have HX := HX.cl hB
 clear hΦ hft hap 
 go_upto_region 5 with (fail)
 try simp only [Reg.SF]
 refine Reg.det [Reg.k 19 (.bool false), Reg.k 17 (.bool false)] [] 79 rfl (by kernel_rfl) (by kernel_rfl) ?s48 ?_
 case s48 =>
  intro iq oq pq hiq hoq hpq ρ ev W S hE hO ec ef hB hft hΦ
  have e9 : ev (.tmp 9) = .int .i64 K := hO 9 rfl
  simp only [Reg.SV] at hE
  obtain ⟨e19, e17, _⟩ := hE
  rcases Reg.lt2 hiq with rfl | rfl
  all_goals (cases hoq; cases hpq)
  all_goals try exact Reg.D.mv hB
  all_goals (refine Reg.D.cv hB ?_; go_simp; try (first | done | rfl | (have h1 := HK.out; simp; omega)))
 intro ρ W5 S hB hft hap hΦ
 simp only [Reg.SV, Reg.SF, Nat.reduceAdd]
 have HX := HX.cl hB
 clear hΦ hft hap 
 have m0_0 := yB HX.out.below Q0.out.k0
 have m0_1 := yB HX.out.below Q0.out.k1
 have m0_2 := yB HX.out.below Q0.out.k2
 have m0_3 := yB HX.out.below Q0.out.k3
 have m0_4 := yB HX.out.below Q0.out.k4
 go_upto_region 13 with (fail)
 try simp only [Reg.SF]
 refine Reg.det [Reg.k 43 (.pointer (some ⟨g2, 4, none⟩)), Reg.k 44 (.slice (some ax) n4 c4), Reg.k 45 (.pointer (some q0)), Reg.k 46 (.agg #[.int .i64 y0, .int .i64 y1, .int .i64 y2, .string y3, .slice yA yn yc]), Reg.k 47 (.slice A n c), Reg.k 48 (.agg #[.int .i64 u0, .int .i64 u1, .string u2]), (some 6, Reg.Dv.box 6 39 (fun _ => #[.int .i64 0, .int .i64 0, .string (⟨#[]⟩ : ByteArray)]) [] true), (none, Reg.Dv.box 6 39 (fun _ => #[.int .i64 u0, .int .i64 u1, .string u2]) [] false)] [(6, 7)] 79 rfl (by kernel_rfl) (by kernel_rfl) ?s49 ?_
 case s49 =>
  intro iq oq pq hiq hoq hpq ρ ev W S hE hO ec ef hB hft hΦ
  have e1 : ev (.tmp 1) = .slice A n c := hO 1 rfl
  have e2 : ev (.tmp 2) = .pointer (some ⟨g2, 0, none⟩) := hO 2 rfl
  have mg2_4 := HX.pc hB 1 4 (.slice (some ax) n4 c4) rfl rfl
  have m0_0' := yB hB m0_0
  have m0_1' := yB hB m0_1
  have m0_2' := yB hB m0_2
  have m0_3' := yB hB m0_3
  have m0_4' := yB hB m0_4
  simp only [Reg.SV] at hE
  obtain ⟨e43, e44, e45, e46, e47, e48, e6, _⟩ := hE
  rcases Reg.lt8 hiq with rfl | rfl | rfl | rfl | rfl | rfl | rfl | rfl
  all_goals (cases hoq; cases hpq)
  rotate_left 7
  ·exact Reg.D.fill 6 39 (.tmp 6) (.tmp 48) hB e6 (by first | assumption | rfl | (simp [*]; done)) (hΦ 6 _ rfl rfl rfl) info39s (by first | rfl | (simp only [Reg.SV]; rfl))
  rotate_right 7
  rotate_left 6
  ·refine Reg.D.box hB ?_
   go_simp
   try rfl
  rotate_right 6
  rotate_left 5
  ·refine Reg.D.cc (g := 17) (args := #[.agg #[.int .i64 y0, .int .i64 y1, .int .i64 y2, .string y3, .slice yA yn yc], .slice A n c]) hB (by go_simp; try rfl) ?_
   exact H0.out W (yD HX.out.below hB)
  rotate_right 5
  all_goals try exact Reg.D.mv hB
  all_goals (refine Reg.D.cv hB ?_; go_simp; try (first | done | rfl | (rw [← e0]; rfl) | (rw [if_pos (by omega)]; simp [e0]; done) | (rw [if_pos (by omega)]; simp [e1]; done) | (simp [e1]; omega) | (simp; omega) | (intro h; omega) | (simp [e1]; intro h; omega)))
 intro ρ W13 S hB hft hap hΦ
 simp only [Reg.SV, Reg.SF, Nat.reduceAdd]
 obtain ⟨g6, e6, s6, hg6, _, b6⟩ := hΦ 7 _ rfl rfl
 replace e6 : ρ 6 = .pointer (some ⟨g6, 0, none⟩) := e6
 try simp only [e6]
 replace b6 : W13.heap[g6]? = some (.cells #[.int .i64 u0, .int .i64 u1, .string u2] 39 (0, 0)) := b6
 have HX := yC.mk (HX.out.join (Bxs.one hB hg6 b6))
 clear hΦ hft hap 
 clear m0_0 m0_1 m0_2 m0_3 m0_4
 go_upto_region 14 with (fail)
 try simp only [Reg.SF]
 refine Reg.det [Reg.k 49 (.pointer (some ⟨g2, 0, none⟩)), Reg.k 50 (.int .i64 K), Reg.k 51 (.bool c1)] [] 79 rfl (by kernel_rfl) (by kernel_rfl) ?s50 ?_
 case s50 =>
  intro iq oq pq hiq hoq hpq ρ ev W S hE hO ec ef hB hft hΦ
  have e2 : ev (.tmp 2) = .pointer (some ⟨g2, 0, none⟩) := hO 2 rfl
  have mg2_0 := HX.pc hB 2 0 (.int .i64 K) rfl rfl
  simp only [Reg.SV] at hE
  obtain ⟨e49, e50, e51, _⟩ := hE
  rcases Reg.lt3 hiq with rfl | rfl | rfl
  all_goals (cases hoq; cases hpq)
  all_goals (refine Reg.D.cv hB ?_; go_simp; try (first | done | rfl | (exact HC1.out) | (exact HC2.out)))
 intro ρ W14 S hB hft hap hΦ
 simp only [Reg.SV, Reg.SF, Nat.reduceAdd]
 have HX := HX.cl hB
 clear hΦ hft hap 
 cases c1 with
 | true =>
  go_upto_region 15 with (fail)
  try simp only [Reg.SF]
  refine Reg.det [Reg.k 52 (.agg #[.int .i64 u0, .int .i64 u1, .string u2]), Reg.k 53 (.pointer (some ⟨g2, 3, none⟩)), Reg.k 54 (.string sep), Reg.k 55 (.agg #[.int .i64 p0, .int .i64 p1, .string p2])] [] 79 rfl (by kernel_rfl) (by kernel_rfl) ?s51 ?_
  case s51 =>
   intro iq oq pq hiq hoq hpq ρ ev W S hE hO ec ef hB hft hΦ
   have e2 : ev (.tmp 2) = .pointer (some ⟨g2, 0, none⟩) := hO 2 rfl
   have e6 : ev (.tmp 6) = .pointer (some ⟨g6, 0, none⟩) := hO 6 rfl
   have mg6_0 := HX.pc hB 0 0 (.int .i64 u0) rfl rfl
   have mg6_1 := HX.pc hB 0 1 (.int .i64 u1) rfl rfl
   have mg6_2 := HX.pc hB 0 2 (.string u2) rfl rfl
   have mg2_3 := HX.pc hB 2 3 (.string sep) rfl rfl
   simp only [Reg.SV] at hE
   obtain ⟨e52, e53, e54, e55, _⟩ := hE
   rcases Reg.lt4 hiq with rfl | rfl | rfl | rfl
   all_goals (cases hoq; cases hpq)
   rotate_left 3
   ·refine Reg.D.cc (g := 41) (args := #[.agg #[.int .i64 u0, .int .i64 u1, .string u2], .string sep]) hB (by go_simp; try rfl) ?_
    exact HAh.out W
   rotate_right 3
   all_goals exact Reg.D.cx hB
  intro ρ W15 S hB hft hap hΦ
  simp only [Reg.SV, Reg.SF, Nat.reduceAdd]
  have HX := HX.cl hB
  clear hΦ hft hap 
  refine xG (w := w) rfl 39 (.tmp 4) (.tmp 55) rfl rfl (L1 := [_]) (cells := #[.int .i64 p0, .int .i64 p1, .string p2]) HX.out rfl rfl (by kernel_rfl) rfl rfl ?_
  intro Wp hx
  have HX := yC.mk hx
  clear hx
  go_wp2_with fail
  refine bodyPost_ret (results_cell_row rfl _ _ g4 39 #[.int .i64 p0, .int .i64 p1, .string p2] (0, 0) _ rfl (HX.out.at 1 rfl) hu rfl (by kernel_rfl)) rfl ?_
  exact ⟨rfl, HX.out.below⟩
 | false =>
  go_upto_region 16 with (fail)
  try simp only [Reg.SF]
  refine Reg.det [Reg.k 56 (.pointer (some ⟨g2, 0, none⟩)), Reg.k 57 (.int .i64 K), Reg.k 58 (.bool c2)] [] 79 rfl (by kernel_rfl) (by kernel_rfl) ?s52 ?_
  case s52 =>
   intro iq oq pq hiq hoq hpq ρ ev W S hE hO ec ef hB hft hΦ
   have e2 : ev (.tmp 2) = .pointer (some ⟨g2, 0, none⟩) := hO 2 rfl
   have mg2_0 := HX.pc hB 2 0 (.int .i64 K) rfl rfl
   simp only [Reg.SV] at hE
   obtain ⟨e56, e57, e58, _⟩ := hE
   rcases Reg.lt3 hiq with rfl | rfl | rfl
   all_goals (cases hoq; cases hpq)
   all_goals (refine Reg.D.cv hB ?_; go_simp; try (first | done | rfl | (exact HC1.out) | (exact HC2.out)))
  intro ρ W16 S hB hft hap hΦ
  simp only [Reg.SV, Reg.SF, Nat.reduceAdd]
  have HX := HX.cl hB
  clear hΦ hft hap 
  cases c2 with
  | true =>
   go_upto_region 17 with (fail)
   try simp only [Reg.SF]
   refine Reg.det [Reg.k 59 (.agg #[.int .i64 u0, .int .i64 u1, .string u2]), Reg.k 60 (.pointer (some ⟨g2, 3, none⟩)), Reg.k 61 (.string sep), Reg.k 62 (.agg #[.int .i64 r0, .int .i64 r1, .string r2])] [] 79 rfl (by kernel_rfl) (by kernel_rfl) ?s53 ?_
   case s53 =>
    intro iq oq pq hiq hoq hpq ρ ev W S hE hO ec ef hB hft hΦ
    have e2 : ev (.tmp 2) = .pointer (some ⟨g2, 0, none⟩) := hO 2 rfl
    have e6 : ev (.tmp 6) = .pointer (some ⟨g6, 0, none⟩) := hO 6 rfl
    have mg6_0 := HX.pc hB 0 0 (.int .i64 u0) rfl rfl
    have mg6_1 := HX.pc hB 0 1 (.int .i64 u1) rfl rfl
    have mg6_2 := HX.pc hB 0 2 (.string u2) rfl rfl
    have mg2_3 := HX.pc hB 2 3 (.string sep) rfl rfl
    simp only [Reg.SV] at hE
    obtain ⟨e59, e60, e61, e62, _⟩ := hE
    rcases Reg.lt4 hiq with rfl | rfl | rfl | rfl
    all_goals (cases hoq; cases hpq)
    rotate_left 3
    ·refine Reg.D.cc (g := 42) (args := #[.agg #[.int .i64 u0, .int .i64 u1, .string u2], .string sep]) hB (by go_simp; try rfl) ?_
     exact HBh.out W
    rotate_right 3
    all_goals exact Reg.D.cx hB
   intro ρ W17 S hB hft hap hΦ
   simp only [Reg.SV, Reg.SF, Nat.reduceAdd]
   have HX := HX.cl hB
   clear hΦ hft hap 
   refine xG (w := w) rfl 39 (.tmp 4) (.tmp 62) rfl rfl (L1 := [_]) (cells := #[.int .i64 r0, .int .i64 r1, .string r2]) HX.out rfl rfl (by kernel_rfl) rfl rfl ?_
   intro Wp hx
   have HX := yC.mk hx
   clear hx
   go_wp2_with fail
   refine bodyPost_ret (results_cell_row rfl _ _ g4 39 #[.int .i64 r0, .int .i64 r1, .string r2] (0, 0) _ rfl (HX.out.at 1 rfl) hu rfl (by kernel_rfl)) rfl ?_
   exact ⟨rfl, HX.out.below⟩
  | false =>
   obtain ⟨hn1, hq1, hs1, hj1⟩ := HR.out rfl rfl
   have Q1 := yC.mk hq1
   have H1 := yC.mk hs1
   have HJ := yC.mk hj1
   clear hq1 hs1 hj1
   have m1_0 := yB HX.out.below Q1.out.k0
   have m1_1 := yB HX.out.below Q1.out.k1
   have m1_2 := yB HX.out.below Q1.out.k2
   have m1_3 := yB HX.out.below Q1.out.k3
   have m1_4 := yB HX.out.below Q1.out.k4
   go_upto_region 18 with (fail)
   try simp only [Reg.SF]
   refine Reg.det [Reg.k 63 (.agg #[.int .i64 u0, .int .i64 u1, .string u2]), Reg.k 64 (.pointer (some ⟨g2, 4, none⟩)), Reg.k 65 (.slice (some ax) n4 c4), Reg.k 66 (.pointer (some q1)), Reg.k 67 (.agg #[.int .i64 z0, .int .i64 z1, .int .i64 z2, .string z3, .slice zA zn zc]), Reg.k 68 (.slice A n c), Reg.k 69 (.agg #[.int .i64 t0, .int .i64 t1, .string t2]), Reg.k 70 (.pointer (some ⟨g2, 3, none⟩)), Reg.k 71 (.string sep), Reg.k 72 (.string js), Reg.k 7 (.string js)] [] 79 rfl (by kernel_rfl) (by kernel_rfl) ?s54 ?_
   case s54 =>
    intro iq oq pq hiq hoq hpq ρ ev W S hE hO ec ef hB hft hΦ
    have e1 : ev (.tmp 1) = .slice A n c := hO 1 rfl
    have e2 : ev (.tmp 2) = .pointer (some ⟨g2, 0, none⟩) := hO 2 rfl
    have e6 : ev (.tmp 6) = .pointer (some ⟨g6, 0, none⟩) := hO 6 rfl
    have mg6_0 := HX.pc hB 0 0 (.int .i64 u0) rfl rfl
    have mg6_1 := HX.pc hB 0 1 (.int .i64 u1) rfl rfl
    have mg6_2 := HX.pc hB 0 2 (.string u2) rfl rfl
    have mg2_4 := HX.pc hB 2 4 (.slice (some ax) n4 c4) rfl rfl
    have mg2_3 := HX.pc hB 2 3 (.string sep) rfl rfl
    have m1_0' := yB hB m1_0
    have m1_1' := yB hB m1_1
    have m1_2' := yB hB m1_2
    have m1_3' := yB hB m1_3
    have m1_4' := yB hB m1_4
    simp only [Reg.SV] at hE
    obtain ⟨e63, e64, e65, e66, e67, e68, e69, e70, e71, e72, e7, _⟩ := hE
    rcases Reg.lt11 hiq with rfl | rfl | rfl | rfl | rfl | rfl | rfl | rfl | rfl | rfl | rfl
    all_goals (cases hoq; cases hpq)
    rotate_left 9
    ·refine Reg.D.cc (g := 43) (args := #[.agg #[.int .i64 u0, .int .i64 u1, .string u2], .agg #[.int .i64 t0, .int .i64 t1, .string t2], .string sep]) hB (by go_simp; try rfl) ?_
     exact HJ.out W
    rotate_right 9
    rotate_left 6
    ·refine Reg.D.cc (g := 17) (args := #[.agg #[.int .i64 z0, .int .i64 z1, .int .i64 z2, .string z3, .slice zA zn zc], .slice A n c]) hB (by go_simp; try rfl) ?_
     exact H1.out W (yD HX.out.below hB)
    rotate_right 6
    all_goals try exact Reg.D.mv hB
    all_goals (refine Reg.D.cv hB ?_; go_simp; try (first | done | rfl | (rw [← e0]; rfl) | (rw [if_pos (by omega)]; simp [e0]; done) | (rw [if_pos (by omega)]; simp [e1]; done) | (simp [e1]; omega) | (simp; omega) | (intro h; omega) | (simp [e1]; intro h; omega)))
   intro ρ W18 S hB hft hap hΦ
   simp only [Reg.SV, Reg.SF, Nat.reduceAdd]
   have HX := HX.cl hB
   clear hΦ hft hap 
   clear m1_0 m1_1 m1_2 m1_3 m1_4
   go_upto_region 19 with (fail)
   try simp only [Reg.SF]
   refine Reg.det [Reg.k 73 (.string js), Reg.k 74 (.string js), Reg.k 75 (.int .i64 (js.size : Int)), Reg.k 76 (.int .i64 (mn : Int)), Reg.k 77 (.string (js.extract 0 mn)), Reg.k 78 (.agg #[.int .i64 3, .int .i64 0, .string (js.extract 0 mn)])] [] 79 rfl (by kernel_rfl) (by kernel_rfl) ?s55 ?_
   case s55 =>
    intro iq oq pq hiq hoq hpq ρ ev W S hE hO ec ef hB hft hΦ
    have e7 : ev (.tmp 7) = .string js := hO 7 rfl
    simp only [Reg.SV] at hE
    obtain ⟨e73, e74, e75, e76, e77, e78, _⟩ := hE
    rcases Reg.lt6 hiq with rfl | rfl | rfl | rfl | rfl | rfl
    all_goals (cases hoq; cases hpq)
    rotate_left 5
    ·refine Reg.D.cc (g := 29) (args := #[.string (js.extract 0 mn)]) hB (by go_simp; try rfl) ?_
     exact chapmanref16_Texted.calls _ 3 0 _ W rfl
    rotate_right 5
    all_goals try exact Reg.D.mv hB
    all_goals (refine Reg.D.cv hB ?_; go_simp; try (first | done | rfl | (exact hm) | (simp [hm]; done) | (simp [hm0]; done)))
   intro ρ W19 S hB hft hap hΦ
   simp only [Reg.SV, Reg.SF, Nat.reduceAdd]
   have HX := HX.cl hB
   clear hΦ hft hap 
   refine xG (w := w) rfl 39 (.tmp 4) (.tmp 78) rfl rfl (L1 := [_]) (cells := #[.int .i64 3, .int .i64 0, .string (js.extract 0 mn)]) HX.out rfl rfl (by kernel_rfl) rfl rfl ?_
   intro Wp hx
   have HX := yC.mk hx
   clear hx
   go_wp2_with fail
   refine bodyPost_ret (results_cell_row rfl _ _ g4 39 #[.int .i64 3, .int .i64 0, .string (js.extract 0 mn)] (0, 0) _ rfl (HX.out.at 1 rfl) hu rfl (by kernel_rfl)) rfl ?_
   exact ⟨rfl, HX.out.below⟩
end
section
open Go.RowKit YtmebkjdknhknbaaGreatDoor.A YtmebkjdknhknbaaGreatDoor.C YtmebkjdknhknbaaGreatDoor.F
def CTo (f : Nat) (args : Array Value) (v : Value) : Prop := ∀ w, Calls Tryz.prog f args w fun e w' => e = .returned v ∧ Below w.heap.size w w'
theorem rng3 (s : ByteArray) : rngV ⟨3, 0, s⟩ := fun h => absurd h (show ¬ (3 : Int) = 1 by decide)
theorem rng0 : rngV z39 := fun h => absurd h (show ¬ (0 : Int) = 1 by decide)
theorem ahead_ex (v : S39) (sep : ByteArray) (hs : v.f2.size ≤ 40) (hr : rngV v) : ∃ p : S39, p.f2.size ≤ 40 ∧ rngV p ∧ CTo 41 #[.agg (vC v), .string sep] (.agg (vC p)) := by
 obtain ⟨h0, h1⟩ := atF_in v.f2 sep v.f2.size 0
 have HA : yC (∀ w', Calls Tryz.prog 61 #[.string v.f2, .string sep] w' fun e w'' => e = .returned (.int .i64 (atF v.f2 sep v.f2.size 0)) ∧ Below w'.heap.size w' w'') := ⟨At_calls v.f2 sep (by omega)⟩
 generalize atF v.f2 sep v.f2.size 0 = at_ at *
 cases c1 : (v.f0 != 3) <;> cases c2 : decide (at_ < 0)
 ·exact ⟨⟨3, 0, v.f2.extract 0 at_.toNat⟩, by rw [ByteArray.size_extract]; omega, rng3 _, fun w => ahead_w v.f0 v.f1 v.f2 sep at_ w _ _ ⟨c1⟩ ⟨c2⟩ (by omega) h0 (by omega) HA⟩
 ·exact ⟨v, hs, hr, fun w => ahead_w v.f0 v.f1 v.f2 sep at_ w _ _ ⟨c1⟩ ⟨c2⟩ (by omega) h0 (by omega) HA⟩
 ·exact ⟨z39, Nat.zero_le _, rng0, fun w => ahead_w v.f0 v.f1 v.f2 sep at_ w _ _ ⟨c1⟩ ⟨c2⟩ (by omega) h0 (by omega) HA⟩
 ·exact ⟨z39, Nat.zero_le _, rng0, fun w => ahead_w v.f0 v.f1 v.f2 sep at_ w _ _ ⟨c1⟩ ⟨c2⟩ (by omega) h0 (by omega) HA⟩
theorem behind_ex (v : S39) (sep : ByteArray) (hs : v.f2.size ≤ 40) : ∃ p : S39, p.f2.size ≤ 40 ∧ rngV p ∧ CTo 42 #[.agg (vC v), .string sep] (.agg (vC p)) := by
 obtain ⟨h0, h1⟩ := atF_in v.f2 sep v.f2.size 0
 have HA : yC (∀ w', Calls Tryz.prog 61 #[.string v.f2, .string sep] w' fun e w'' => e = .returned (.int .i64 (atF v.f2 sep v.f2.size 0)) ∧ Below w'.heap.size w' w'') := ⟨At_calls v.f2 sep (by omega)⟩
 generalize atF v.f2 sep v.f2.size 0 = at_ at *
 have hw : IntKind.i64.wrap (at_ + 1) = at_ + 1 := by rw [IntKind.wrap_i64]; omega
 cases c1 : (v.f0 != 3) <;> cases c2 : decide (at_ < 0)
 ·exact ⟨⟨3, 0, v.f2.extract (at_ + 1).toNat v.f2.size⟩, by rw [ByteArray.size_extract]; omega, rng3 _, fun w => behind_w v.f0 v.f1 v.f2 sep at_ w _ _ ⟨c1⟩ ⟨c2⟩ hw (by omega) h0 (by omega) HA⟩
 ·exact ⟨z39, Nat.zero_le _, rng0, fun w => behind_w v.f0 v.f1 v.f2 sep at_ w _ _ ⟨c1⟩ ⟨c2⟩ hw (by omega) h0 (by omega) HA⟩
 ·exact ⟨z39, Nat.zero_le _, rng0, fun w => behind_w v.f0 v.f1 v.f2 sep at_ w _ _ ⟨c1⟩ ⟨c2⟩ hw (by omega) h0 (by omega) HA⟩
 ·exact ⟨z39, Nat.zero_le _, rng0, fun w => behind_w v.f0 v.f1 v.f2 sep at_ w _ _ ⟨c1⟩ ⟨c2⟩ hw (by omega) h0 (by omega) HA⟩
theorem joined_ex (a b : S39) (sep : ByteArray) (ha : a.f2.size ≤ 40) (hb : b.f2.size ≤ 40) (hs : sep.size ≤ 40) : ∃ js : ByteArray, CTo 43 #[.agg (vC a), .agg (vC b), .string sep] (.string js) := by
 cases c1 : (b.f0 != 3)
 ·exact ⟨a.f2 ++ sep ++ b.f2, fun w => joined_w a.f0 a.f1 b.f0 b.f1 a.f2 b.f2 sep w _ ⟨c1⟩ ⟨by omega, by omega, by omega⟩⟩
 ·exact ⟨a.f2, fun w => joined_w a.f0 a.f1 b.f0 b.f1 a.f2 b.f2 sep w _ ⟨c1⟩ ⟨by omega, by omega, by omega⟩⟩
theorem cut_le {n s : Int} (h0 : 0 ≤ s) (h6 : s ≤ 6) (hn : -100000000000000 ≤ n ∧ n ≤ 100000000000000) : wrap64 (n - Int.tmod n (stepOf s)) = Int.tdiv n (stepOf s) * stepOf s ∧ -100000000000000 ≤ Int.tdiv n (stepOf s) * stepOf s ∧ Int.tdiv n (stepOf s) * stepOf s ≤ 100000000000000 := by
 have hb := tdiv_mul_le n (stepOf s) (stepOf_rng h0 (by omega)).1
 have he := Int.mul_tdiv_add_tmod n (stepOf s)
 rw [Int.mul_comm] at he
 have hr : -100000000000000 ≤ Int.tdiv n (stepOf s) * stepOf s ∧ Int.tdiv n (stepOf s) * stepOf s ≤ 100000000000000 := by
  rcases Int.le_total 0 n with h | h
  ·have := hb.1 h; omega
  ·have := hb.2 h; omega
 exact ⟨by unfold wrap64; rw [Int.emod_def]; omega, hr⟩
theorem cell_weak {nu : Bool} {kt : Int} {v : S39} (h : cellK nu kt v) : v.f2.size ≤ 40 ∧ rngV v ∧ -100000000000000 ≤ v.f1 ∧ v.f1 ≤ 100000000000000 := by
 rcases h with ⟨_, rfl⟩ | ⟨_, rfl | rfl⟩ | ⟨_, x, h0, h1, rfl⟩ | ⟨_, s, h0, _, rfl⟩
 ·exact ⟨Nat.zero_le _, fun h => absurd h (show ¬ (0 : Int) = 1 by decide), by decide, by decide⟩
 ·exact ⟨Nat.zero_le _, fun _ => .inl rfl, by decide, by decide⟩
 ·exact ⟨Nat.zero_le _, fun _ => .inr rfl, by decide, by decide⟩
 ·exact ⟨Nat.zero_le _, fun h => absurd h (show ¬ (2 : Int) = 1 by decide), h0, h1⟩
 ·exact ⟨h0, rng3 _, show (-100000000000000 : Int) ≤ 0 by decide, show (0 : Int) ≤ 100000000000000 by decide⟩
def shTo (l : List S39) (x : S29) (v : S39) : Prop := ∀ (A : Option Addr) (c : Nat) (A0 : Option Addr) (c0 : Nat) (w : World), x.f4.length ≤ c → k29.C w A x.f4.length x.f4 → l.length ≤ c0 → Kd.C k39 w A0 l.length l →
 Calls Tryz.prog 17 #[.agg (lC x A c), .slice A0 l.length c0] w fun e w' => e = .returned (.agg (vC v)) ∧ Below w.heap.size w w'
theorem ShowR_all {l0 : List S57} {l : List S39} (hl : l.length = l0.length) (hc : cellsOk l0 l) : ∀ (k : Nat) (x : S29), vOk k l0 x → ∃ v : S39, v.f2.size ≤ 40 ∧ rngV v ∧ shTo l x v := by
 intro k
 induction k with
 | zero => intro x h; exact h.1.elim
 | succ k ih =>
  intro x h
  by_cases hx : x.f0 ≤ 3
  ·obtain ⟨⟨h1, h2, h3⟩, h4⟩ := vOk_plain h hx
   obtain ⟨i, hi⟩ := Int.eq_ofNat_of_zero_le h2
   have hxl : x.f1 < (l.length : Int) := by omega
   have hw := cell_weak (hc i (by omega))
   rw [← show x.f1 = ((i : Nat) : Int) from hi] at hw
   obtain ⟨v, hv⟩ : ∃ v, yP l x.f1 = v := ⟨_, rfl⟩
   rw [hv] at hw
   by_cases e1 : x.f0 = 1
   ·refine ⟨v, hw.1, hw.2.1, fun A c A0 c0 w _ _ _ hC => ?_⟩
    obtain ⟨ad, e, q0, q1, q2⟩ := at_T39 hC x.f1 h2 (by omega)
    subst e
    rw [hv] at q0 q1 q2
    obtain ⟨K, a, s, sep, l4⟩ := x
    dsimp only at e1
    subst e1
    exact show_1 a s sep A l4.length c ad _ l.length c0 v.f0 v.f1 v.f2 w ⟨⟨q0, q1, q2⟩⟩ rfl h2 hxl
   obtain ⟨h5, h6, _⟩ := h4 e1
   obtain ⟨hcv, hb0, hb1⟩ := cut_le h5 h6 hw.2.2
   have hcc := Cut_calls v.f1 x.f2 h5 h6
   rw [hcv] at hcc
   generalize Int.tdiv v.f1 (stepOf x.f2) * stepOf x.f2 = cv at *
   obtain ⟨htz, htx⟩ := text_det cv (by omega) (by omega)
   generalize textR cv = tx at *
   have key : ∀ (A : Option Addr) (c : Nat) (A0 : Option Addr) (c0 : Nat) (w : World), Kd.C k39 w A0 l.length l → ∃ ad, A0 = some ad ∧ w.cell? (ad.add (x.f1.toNat * 3)) = some (.int .i64 v.f0) ∧ w.cell? ⟨(ad.add (x.f1.toNat * 3)).block, (ad.add (x.f1.toNat * 3)).off + 1, none⟩ = some (.int .i64 v.f1) ∧ w.cell? ⟨(ad.add (x.f1.toNat * 3)).block, (ad.add (x.f1.toNat * 3)).off + 2, none⟩ = some (.string v.f2) := fun A c A0 c0 w hC => by
    rw [← hv]; exact at_T39 hC x.f1 h2 (by omega)
   have hrc : v.f0 ≠ 0 → rngV ⟨v.f0, cv, v.f2⟩ ∨ v.f0 = 1 := fun _ => by
    by_cases e : v.f0 = 1
    ·exact .inr e
    ·exact .inl fun h => absurd h e
   have hk1 : v.f0 ≠ 1 := by
    obtain ⟨_, _, hn⟩ := h4 e1
    have hcl := hc i (by omega)
    rw [← show x.f1 = ((i : Nat) : Int) from hi, hv] at hcl
    unfold cellOk at hcl
    rw [hn] at hcl
    rcases hcl with ⟨_, rfl⟩ | ⟨h, _⟩ | ⟨_, y, _, _, rfl⟩ | ⟨h, _⟩
    ·decide
    ·exact absurd h (by decide)
    ·exact show (2 : Int) ≠ 1 by decide
    ·exact absurd h (by decide)
   cases c0 : (v.f0 == 0)
   ·by_cases e2 : x.f0 = 2
    ·refine ⟨⟨v.f0, cv, v.f2⟩, hw.1, fun h => absurd h hk1, fun A c A0 c1 w _ _ _ hC => ?_⟩
     obtain ⟨ad, e, q0, q1, q2⟩ := key A c A0 c1 w hC
     subst e
     obtain ⟨K, a, s, sep, l4⟩ := x
     dsimp only at e2
     subst e2
     exact show_2 a s sep A l4.length c ad _ l.length c1 v.f0 v.f1 v.f2 w cv tx _ ⟨c0⟩ ⟨hcc⟩ ⟨htx⟩ ⟨⟨q0, q1, q2⟩⟩ rfl h2 hxl
    ·refine ⟨⟨3, 0, tx⟩, by show tx.size ≤ 40; omega, rng3 _, fun A c A0 c1 w _ _ _ hC => ?_⟩
     obtain ⟨ad, e, q0, q1, q2⟩ := key A c A0 c1 w hC
     subst e
     obtain ⟨K, a, s, sep, l4⟩ := x
     obtain rfl : K = 3 := by dsimp only at *; omega
     exact show_3 a s sep A l4.length c ad _ l.length c1 v.f0 v.f1 v.f2 w cv tx _ ⟨c0⟩ ⟨hcc⟩ ⟨htx⟩ ⟨⟨q0, q1, q2⟩⟩ rfl h2 hxl
   ·refine ⟨v, hw.1, hw.2.1, fun A c A0 c1 w _ _ _ hC => ?_⟩
    obtain ⟨ad, e, q0, q1, q2⟩ := key A c A0 c1 w hC
    subst e
    by_cases e2 : x.f0 = 2
    ·obtain ⟨K, a, s, sep, l4⟩ := x
     dsimp only at e2
     subst e2
     exact show_2 a s sep A l4.length c ad _ l.length c1 v.f0 v.f1 v.f2 w cv tx _ ⟨c0⟩ ⟨hcc⟩ ⟨htx⟩ ⟨⟨q0, q1, q2⟩⟩ rfl h2 hxl
    ·obtain ⟨K, a, s, sep, l4⟩ := x
     obtain rfl : K = 3 := by dsimp only at *; omega
     exact show_3 a s sep A l4.length c ad _ l.length c1 v.f0 v.f1 v.f2 w cv tx _ ⟨c0⟩ ⟨hcc⟩ ⟨htx⟩ ⟨⟨q0, q1, q2⟩⟩ rfl h2 hxl
  ·obtain ⟨h1, h2, h3⟩ := xQ h hx
   have hk0 : 0 < x.f4.length := by split at h3 <;> omega
   obtain ⟨u, hu, hur, hsu⟩ := ih _ (vOk_kid h 0 hk0)
   obtain ⟨p, hp, hpr, hpc⟩ := ahead_ex u x.f3 hu hur
   obtain ⟨r, hr, hrr, hrc⟩ := behind_ex u x.f3 hu
   have hsec : ∃ (t : S39) (js : ByteArray), x.f0 = 6 → 1 < x.f4.length ∧ shTo l (yM x.f4 (1 : Nat)) t ∧ CTo 43 #[.agg (vC u), .agg (vC t), .string x.f3] (.string js) := by
    by_cases e6 : x.f0 = 6
    ·have hk1 : 1 < x.f4.length := by rw [e6] at h3; simp at h3; omega
     obtain ⟨t, ht, _, hst⟩ := ih _ (vOk_kid h 1 hk1)
     obtain ⟨js, hjs⟩ := joined_ex u t x.f3 hu ht (by omega)
     exact ⟨t, js, fun _ => ⟨hk1, hst, hjs⟩⟩
    ·exact ⟨z39, ⟨#[]⟩, fun e => absurd e e6⟩
   obtain ⟨t, js, hsec⟩ := hsec
   have main : ∀ (c1 c2 : Bool), (x.f0 == 4) = c1 → (x.f0 == 5) = c2 → shTo l x (bif c1 then p else bif c2 then r else ⟨3, 0, js.extract 0 (min js.size 40)⟩) := by
    intro c1 c2 hc1 hc2 A c A0 c0 w hlc hC hc0 hC0
    obtain ⟨ax, q, B, d, e, e0, K0⟩ := kid hC 0 hk0
    subst e
    have Hs0 := fun w' (hb : Below w.heap.size w w') => hsu B d A0 c0 w' K0.len (Kd.yI K0.has hb) hc0 (Kd.yI hC0 hb)
    have Hs1 : c1 = false → c2 = false → ∃ (q1 : Addr) (B1 : Option Addr) (d1 : Nat), ax.add (1 * 5) = q1 ∧ 1 < x.f4.length ∧ KidC w q1 (.int .i64 (yM x.f4 (1 : Nat)).f0) (.int .i64 (yM x.f4 (1 : Nat)).f1) (.int .i64 (yM x.f4 (1 : Nat)).f2) (.string (yM x.f4 (1 : Nat)).f3) (.slice B1 (yM x.f4 (1 : Nat)).f4.length d1) ∧ (∀ w', Below w.heap.size w w' → Calls Tryz.prog 17 #[.agg (lC (yM x.f4 (1 : Nat)) B1 d1), .slice A0 l.length c0] w' fun e w'' => e = .returned (.agg (vC t)) ∧ Below w'.heap.size w' w'') ∧ CTo 43 #[.agg (vC u), .agg (vC t), .string x.f3] (.string js) := fun e1 e2 => by
     subst e1 e2
     obtain ⟨hk1, hst, hjs⟩ := hsec (by simp at hc1 hc2; omega)
     obtain ⟨ax', q1, B1, d1, e', e1, K1⟩ := kid hC 1 hk1
     obtain rfl := Option.some.inj e'
     exact ⟨q1, B1, d1, e1, hk1, ⟨K1.k0, K1.k1, K1.k2, K1.k3, K1.k4⟩, fun w' hb => hst B1 d1 A0 c0 w' K1.len (Kd.yI K1.has hb) hc0 (Kd.yI hC0 hb), hjs⟩
    generalize yM x.f4 ((0 : Nat) : Int) = y at *
    generalize yM x.f4 ((1 : Nat) : Int) = z at *
    obtain ⟨K, a, s, sep, l4⟩ := x
    dsimp only at *
    have hR : ∃ (q1 : Addr) (B1 : Option Addr) (d1 : Nat), ax.add (1 * 5) = q1 ∧ (c1 = false → c2 = false → 1 < l4.length ∧ KidC w q1 (.int .i64 z.f0) (.int .i64 z.f1) (.int .i64 z.f2) (.string z.f3) (.slice B1 z.f4.length d1) ∧ (∀ w', Below w.heap.size w w' → Calls Tryz.prog 17 #[.agg (lC z B1 d1), .slice A0 l.length c0] w' fun e w'' => e = .returned (.agg (vC t)) ∧ Below w'.heap.size w' w'') ∧ CTo 43 #[.agg (vC u), .agg (vC t), .string sep] (.string js)) := by
     by_cases e : c1 = false ∧ c2 = false
     ·obtain ⟨q1, B1, d1, e1, hrest⟩ := Hs1 e.1 e.2
      exact ⟨q1, B1, d1, e1, fun _ _ => hrest⟩
     ·exact ⟨_, none, 0, rfl, fun a b => absurd ⟨a, b⟩ e⟩
    obtain ⟨q1, B1, d1, e1, hR⟩ := hR
    have W := show_p K a s sep ax q q1 A0 l.length l4.length c0 c (min js.size 40) y.f0 y.f1 y.f2 y.f3 B y.f4.length d z.f0 z.f1 z.f2 z.f3 B1 z.f4.length d1 u.f0 u.f1 u.f2 t.f0 t.f1 t.f2 p.f0 p.f1 p.f2 r.f0 r.f1 r.f2 js w ⟨by omega⟩ c1 c2 ⟨hc1⟩ ⟨hc2⟩ hk0 e0 e1 (by omega) (by omega) ⟨⟨K0.k0, K0.k1, K0.k2, K0.k3, K0.k4⟩⟩ ⟨Hs0⟩ ⟨hpc⟩ ⟨hrc⟩ ⟨hR⟩
    cases c1 <;> cases c2 <;> exact W
   cases c1 : (x.f0 == 4) <;> cases c2 : (x.f0 == 5)
   ·exact ⟨_, by show (js.extract 0 (min js.size 40)).size ≤ 40; rw [ByteArray.size_extract]; omega, rng3 _, main _ _ c1 c2⟩
   ·exact ⟨_, hr, hrr, main _ _ c1 c2⟩
   ·exact ⟨_, hp, hpr, main _ _ c1 c2⟩
   ·exact ⟨_, hp, hpr, main _ _ c1 c2⟩
end
section
open Go.RowKit YtmebkjdknhknbaaGreatDoor.A YtmebkjdknhknbaaGreatDoor.C YtmebkjdknhknbaaGreatDoor.F
theorem compact_all {l : List Int} {a : Int} (h : a ∈ l) : a ∈ Lib.compact l := by
 have key : ∀ j (hj : j < l.length), ∃ i, i ≤ j ∧ Lib.keeps l.toArray i = true ∧ l.toArray[i]! = l[j] := by
  intro j
  induction j with
  | zero => intro hj; exact ⟨0, Nat.le_refl _, Lib.keeps_lt_one _ 0 (by decide), by simp [hj]⟩
  | succ j ih =>
   intro hj
   by_cases he : l.toArray[j + 1]! = l.toArray[j]!
   ·obtain ⟨i, hi, hk, e⟩ := ih (by omega)
    refine ⟨i, by omega, hk, e.trans ?_⟩
    have e1 : l.toArray[j + 1]! = l[j + 1] := by simp [hj]
    have e2 : l.toArray[j]! = l[j] := by simp [show j < l.length by omega]
    rw [← e2, ← he, e1]
   ·exact ⟨j + 1, Nat.le_refl _, Lib.keeps_pos he, by simp [hj]⟩
 obtain ⟨j, hj, rfl⟩ := List.getElem_of_mem h
 obtain ⟨i, hi, hk, e⟩ := key j hj
 unfold Lib.compact Lib.compactUpTo
 exact List.mem_map.2 ⟨i, List.mem_filter.2 ⟨List.mem_range.2 (by omega), hk⟩, e⟩
theorem attrs_kid {k : Nat} {x : S29} {i : Nat} (hi : i < x.f4.length) {a : Int} (ha : a ∈ attrsV k (yM x.f4 (i : Int))) : a ∈ attrsV (k + 1) x := by
 unfold attrsV
 rw [if_neg (by intro e; rw [e] at hi; exact absurd hi (Nat.not_lt_zero _))]
 rw [rd_get x.f4 i hi] at ha
 exact compact_all (List.mem_mergeSort.2 (List.mem_flatMap.2 ⟨_, List.getElem_mem hi, ha⟩))
theorem attrs_own {k : Nat} {l0 : List S57} {x : S29} (h : vOk (k + 1) l0 x) (hx : x.f0 ≤ 3) : x.f1 ∈ attrsV (k + 1) x := by
 obtain ⟨_, d, hv⟩ := h
 have h2 := (of_inv hv).2.2.1
 rw [show arK x.f0 = 0 from if_pos hx] at h2
 unfold attrsV
 rw [if_pos (List.length_eq_zero_iff.1 (by omega))]
 exact List.mem_singleton.2 rfl
def agr (A : List Int) (l l' : List S39) : Prop := ∀ i : Int, i ∈ A → yP l i = yP l' i
theorem agr_kid {k : Nat} {x : S29} {l l' : List S39} (h : agr (attrsV (k + 1) x) l l') {i : Nat} (hi : i < x.f4.length) : agr (attrsV k (yM x.f4 (i : Int))) l l' := fun a ha => h a (attrs_kid hi ha)
theorem sh_frame {l0 : List S57} {l l' : List S39} : ∀ (k : Nat) (x : S29), vOk k l0 x → agr (attrsV k x) l l' → shV k l x = shV k l' x := by
 intro k
 induction k with
 | zero => intro x h; exact h.1.elim
 | succ k ih =>
  intro x h ha
  rw [shV_succ, shV_succ]
  by_cases hx : x.f0 ≤ 3
  ·have e := ha _ (attrs_own h hx)
   by_cases e1 : x.f0 = 1
   ·rw [if_pos e1, if_pos e1, e]
   by_cases e2 : x.f0 = 2
   ·rw [if_neg e1, if_neg e1, if_pos e2, if_pos e2, e]
   have h1 := (vOk_plain h hx).1
   have e3 : x.f0 = 3 := by omega
   rw [if_neg e1, if_neg e1, if_neg e2, if_neg e2, if_pos e3, if_pos e3, e]
  ·obtain ⟨h1, h2, h3⟩ := xQ h hx
   have hk0 : 0 < x.f4.length := by split at h3 <;> omega
   have k0 := ih _ (vOk_kid h 0 hk0) (agr_kid ha hk0)
   have n1 : ¬ x.f0 = 1 := by omega
   have n2 : ¬ x.f0 = 2 := by omega
   have n3 : ¬ x.f0 = 3 := by omega
   simp only [if_neg n1, if_neg n2, if_neg n3]
   rw [k0]
   by_cases e4 : x.f0 = 4
   ·rw [if_pos e4, if_pos e4]
   by_cases e5 : x.f0 = 5
   ·rw [if_neg e4, if_neg e4, if_pos e5, if_pos e5]
   have hk1 : 1 < x.f4.length := by rw [show x.f0 = 6 by omega] at h3; simp at h3; omega
   rw [if_neg e4, if_neg e4, if_neg e5, if_neg e5, ih _ (vOk_kid h 1 hk1) (agr_kid ha hk1)]
def fr (A : List Int) (l l' r r' : List S39) : Prop := r.length = l.length ∧ r'.length = l'.length ∧ agr A r r' ∧ ∀ i : Nat, (i : Int) ∉ A → yP r i = yP l i ∧ yP r' i = yP l' i
def or2 (A : List Int) (l l' : List S39) (a b : Option (List S39)) : Prop := (a = none ∧ b = none) ∨ ∃ r r', a = some r ∧ b = some r' ∧ fr A l l' r r'
section
variable {A B : List Int} {l l' r r' s s' : List S39}
theorem fr.wide (h : fr A l l' r r') (hs : ∀ a, a ∈ A → a ∈ B) (h0 : ∀ a, a ∈ B → 0 ≤ a) (hB : agr B l l') : fr B l l' r r' := by
 refine ⟨h.1, h.2.1, fun i hi => ?_, fun i hi => h.2.2.2 i fun ha => hi (hs _ ha)⟩
 by_cases ha : i ∈ A
 ·exact h.2.2.1 i ha
 ·obtain ⟨n, rfl⟩ := Int.eq_ofNat_of_zero_le (h0 i hi)
  have h1 := h.2.2.2 n ha
  rw [h1.1, h1.2]; exact hB _ hi
theorem fr.trans (h : fr A l l' r r') (h2 : fr A r r' s s') : fr A l l' s s' :=
 ⟨h2.1.trans h.1, h2.2.1.trans h.2.1, h2.2.2.1, fun i hi => ⟨(h2.2.2.2 i hi).1.trans (h.2.2.2 i hi).1, (h2.2.2.2 i hi).2.trans (h.2.2.2 i hi).2⟩⟩
theorem fr.symm (h : fr A l l' r r') : fr A l' l r' r := ⟨h.2.1, h.1, fun i hi => (h.2.2.1 i hi).symm, fun i hi => ⟨(h.2.2.2 i hi).2, (h.2.2.2 i hi).1⟩⟩
theorem fr.refl (h : agr A l l') : fr A l l' l l' := ⟨rfl, rfl, h, fun _ _ => ⟨rfl, rfl⟩⟩
theorem rd_set (l : List S39) (n m : Nat) (v : S39) (hn : n < l.length) : yP (l.set n v) (m : Int) = if n = m then v else yP l (m : Int) := by
 unfold yP
 rw [Int.toNat_natCast, List.getD_eq_getElem?_getD, List.getD_eq_getElem?_getD, List.getElem?_set]
 split
 ·first | rfl | (rw [if_pos hn]; rfl)
 ·rfl
theorem fr_set (h0 : ∀ a, a ∈ A → 0 ≤ a) (h : agr A l l') (n : Nat) (hn : (n : Int) ∈ A) (h1 : n < l.length) (h2 : n < l'.length) (v : S39) : fr A l l' (l.set n v) (l'.set n v) := by
 refine ⟨List.length_set, List.length_set, fun i hi => ?_, fun i hi => ?_⟩
 ·obtain ⟨m, rfl⟩ := Int.eq_ofNat_of_zero_le (h0 i hi)
  rw [rd_set _ _ _ _ h1, rd_set _ _ _ _ h2, h _ hi]
 ·have : n ≠ i := fun e => hi (e ▸ hn)
  rw [rd_set _ _ _ _ h1, rd_set _ _ _ _ h2, if_neg this, if_neg this]; exact ⟨rfl, rfl⟩
theorem fit_frame {l0 : List S57} (h : fr A l l' r r') (hf : fitL l0 l = true) (hf' : fitL l0 l' = true) : fitL l0 r = fitL l0 r' := by
 have key : ∀ {l l' r r' : List S39}, fr A l l' r r' → fitL l0 l' = true → fitL l0 r = true → fitL l0 r' = true := fun {l l' r r'} h hf hr => by
  have hl := fit_len hf
  have hlr := fit_len hr
  refine fitL_yes (hl.trans h.2.1.symm) fun j hj => ?_
  by_cases ha : (j : Int) ∈ A
  ·rw [← h.2.2.1 _ ha]; exact fit_at hr (by omega) (by rw [h.2.1] at hj; omega)
  ·rw [(h.2.2.2 j ha).2]; exact fit_at hf (by omega) (by rw [h.2.1] at hj; omega)
 cases h1 : fitL l0 r
 ·cases h2 : fitL l0 r'
  ·rfl
  ·rw [key h.symm hf h2] at h1; cases h1
 ·exact (key h hf' h1).symm
theorem putsR_frame {sv v : S39} {hb : Bool} {R R' : Option (List S39)} {fb : List S39 → Bool} {sv2 : List S39 → S39} (ha : agr A l l') (h : or2 A l l' R R') (hs : ∀ r r', fr A l l' r r' → fb r = fb r' ∧ sv2 r = sv2 r') : or2 A l l' (putsR l sv v hb R fb sv2) (putsR l' sv v hb R' fb sv2) := by
 unfold putsR
 split
 ·exact .inr ⟨l, l', rfl, rfl, fr.refl ha⟩
 ·split
  ·exact .inl ⟨rfl, rfl⟩
  ·rcases h with ⟨rfl, rfl⟩ | ⟨r, r', rfl, rfl, h⟩
   ·exact .inl ⟨rfl, rfl⟩
   ·obtain ⟨h1, h2⟩ := hs r r' h
    dsimp only
    rw [h1, h2]
    split
    ·exact .inr ⟨r, r', rfl, rfl, h⟩
    ·exact .inl ⟨rfl, rfl⟩
end
theorem puts_frame {l0 : List S57} : ∀ (k : Nat) (x : S29), vOk k l0 x → ∀ (l l' : List S39) (v : S39), fitL l0 l = true → fitL l0 l' = true → agr (attrsV k x) l l' → or2 (attrsV k x) l l' (putsV k l0 l x v) (putsV k l0 l' x v) := by
 intro k
 induction k with
 | zero => intro x h; exact h.1.elim
 | succ k ih =>
  intro x h l l' v hf hf' ha
  have hsh := sh_frame _ _ h ha
  have h0 : ∀ a, a ∈ attrsV (k + 1) x → 0 ≤ a := fun a hm => (attrs_in _ _ h a hm).1
  rw [putsV_succ, putsV_succ, hsh]
  refine putsR_frame ha ?_ fun r r' hr => ⟨fit_frame hr hf hf', sh_frame _ _ h hr.2.2.1⟩
  have hl := fit_len hf
  have hl' := fit_len hf'
  unfold putK
  by_cases hx : x.f0 ≤ 3
  ·have own := attrs_own h hx
   obtain ⟨h1, h2, h3⟩ := (vOk_plain h hx).1
   obtain ⟨n, hn⟩ := Int.eq_ofNat_of_zero_le h2
   have hset : ∀ u : S39, or2 (attrsV (k + 1) x) l l' (some (l.set x.f1.toNat u)) (some (l'.set x.f1.toNat u)) := fun u => by
    rw [hn, Int.toNat_natCast]
    exact .inr ⟨_, _, rfl, rfl, fr_set h0 ha n (hn ▸ own) (by omega) (by omega) u⟩
   by_cases e2 : x.f0 ≤ 2
   ·rw [if_pos e2, if_pos e2]; exact hset v
   ·rw [if_neg e2, if_neg e2, if_pos (by omega), if_pos (by omega)]
    unfold putTextV
    split
    ·exact hset v
    ·split
     ·split
      ·exact hset _
      ·exact .inl ⟨rfl, rfl⟩
     ·exact .inl ⟨rfl, rfl⟩
  ·obtain ⟨h1, h2, h3⟩ := xQ h hx
   have hk0 : 0 < x.f4.length := by split at h3 <;> omega
   have a0 := agr_kid ha hk0
   have v0 := vOk_kid h 0 hk0
   have s0 := sh_frame _ _ v0 a0
   have wide : ∀ {i : Nat} {a b : Option (List S39)} (hi : i < x.f4.length) {m m' : List S39}, agr (attrsV (k + 1) x) m m' → or2 (attrsV k (yM x.f4 (i : Int))) m m' a b → or2 (attrsV (k + 1) x) m m' a b := fun {i a b} hi {m m'} hm ho => by
    rcases ho with ho | ⟨r, r', e, e', ho⟩
    ·exact .inl ho
    ·exact .inr ⟨r, r', e, e', ho.wide (fun a hh => attrs_kid hi hh) h0 hm⟩
   have n2 : ¬ x.f0 ≤ 2 := by omega
   have n3 : ¬ x.f0 = 3 := by omega
   simp only [if_neg n2, if_neg n3]
   rw [s0]
   by_cases e4 : x.f0 = 4
   ·rw [if_pos e4, if_pos e4]
    split
    ·exact wide hk0 ha (ih _ v0 l l' _ hf hf' a0)
    ·exact .inl ⟨rfl, rfl⟩
   rw [if_neg e4, if_neg e4]
   by_cases e5 : x.f0 = 5
   ·rw [if_pos e5, if_pos e5]
    split
    ·exact wide hk0 ha (ih _ v0 l l' _ hf hf' a0)
    ·exact .inl ⟨rfl, rfl⟩
   rw [if_neg e5, if_neg e5]
   have hk1 : 1 < x.f4.length := by rw [show x.f0 = 6 by omega] at h3; simp at h3; omega
   have v1 := vOk_kid h 1 hk1
   rw [sh_frame _ _ v1 (agr_kid ha hk1)]
   split
   ·rcases ih _ v0 l l' (aheadV v x.f3) hf hf' a0 with ⟨e, e'⟩ | ⟨r, r', e, e', hr⟩
    ·have e : putsV k l0 l (yM x.f4 ((0 : Nat) : Int)) (aheadV v x.f3) = none := e
     have e' : putsV k l0 l' (yM x.f4 ((0 : Nat) : Int)) (aheadV v x.f3) = none := e'
     rw [e, e']; exact .inl ⟨rfl, rfl⟩
    ·have f0 := putsV_fit hf e
     have f1 := putsV_fit hf' e'
     have hw := hr.wide (fun a hh => attrs_kid hk0 hh) h0 ha
     rcases wide hk1 hw.2.2.1 (ih _ v1 r r' (xO v x.f3) f0 f1 (agr_kid hw.2.2.1 hk1)) with ⟨g, g'⟩ | ⟨t, t', g, g', ht⟩
     ·refine .inl ⟨?_, ?_⟩
      ·rw [e]; exact g
      ·rw [e']; exact g'
     ·refine .inr ⟨t, t', ?_, ?_, hw.trans ht⟩
      ·rw [e]; exact g
      ·rw [e']; exact g'
   ·exact .inl ⟨rfl, rfl⟩
end
end Go.Proofs.YtmebkjdknhknbaaGreatDoor.H
