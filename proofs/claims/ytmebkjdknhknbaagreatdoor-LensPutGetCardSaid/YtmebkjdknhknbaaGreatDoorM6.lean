/- Texts of this claim, bound together: what the functions that it reaches compute, with the contracts of their calls (HEx3, HDig, HTxtR, PTypes, HHasR, HWish, PPut, HFitR, HPg). -/
import Derived.Test.YtmebkjdknhknbaaGreatDoorM5
set_option linter.unusedVariables false
set_option linter.unusedSimpArgs false
set_option linter.unusedSectionVars false
set_option maxHeartbeats 16000000
set_option maxRecDepth 100000
namespace Go.Proofs.YtmebkjdknhknbaaGreatDoor.H
section
open Go.RowKit YtmebkjdknhknbaaGreatDoor.G YtmebkjdknhknbaaGreatDoor.F YtmebkjdknhknbaaGreatDoorW.PrintWords YtmebkjdknhknbaaGreatDoorW.PrintLast YtmebkjdknhknbaaGreatDoorW.PrintMore
theorem below_of_drawn {w w' : World} (h : Drawn0 w w') : Below w.heap.size w w' := by
 obtain ⟨m, rfl⟩ := h
 exact pw_below_drewN (Below.refl _ _) m
theorem examples_calls (w : World) (hgl : Gl w) : Calls Tryz.prog 9 #[] w fun e w' => e = .returned (.bool true) ∧ Below w.heap.size w w' := by
 have hu := Tryz.underlying49
 have hu2 := Tryz.underlying57
 have hu3 := Tryz.underlying29
 have hu4 := Tryz.underlying39
 have hu5 := Tryz.underlying36
 have hu6 := Tryz.underlying42
 have HX := Aside0.mk (Bxs.start w)
 have HG := Aside0.mk hgl
 clear hgl
 go_enter Tryz.func9, Tryz.ntmps9
 go_upto_region 0 with (fail)
 refine Reg.det [Reg.k 0 (.bool false)] [] 211 rfl (by kernel_rfl) (by kernel_rfl) ?s3 ?_
 case s3 =>
  intro iq oq pq hiq hoq hpq ρ ev W S hE hO ec ef hB hft hΦ
  simp only [Reg.SV] at hE
  obtain ⟨e0, _⟩ := hE
  obtain rfl : iq = 0 := by have : iq < 1 := hiq; omega
  cases hoq; cases hpq
  all_goals (first | exact Reg.D.mv hB | skip)
  all_goals (refine Reg.D.cv hB ?_; go_simp; try (first | done | rfl | (simp; done) | (intro h; omega)))
 intro ρ W0 S hB hft hap hΦ
 simp only [Reg.SV, Reg.SF, Nat.reduceAdd]
 have HX := Aside0.mk (HX.out.call hB)
 clear hΦ hft hap 
 go_upto_region 1 with (fail)
 try simp only [Reg.SF]
 refine Reg.det [(some 14, Reg.Dv.row 14 k57 57 (exA)), (some 1, Reg.Dv.u [14] (fun l => (l.headD undef)))] [] 211 rfl (by kernel_rfl) (by kernel_rfl) ?s4 ?_
 case s4 =>
  intro iq oq pq hiq hoq hpq ρ ev W S hE hO ec ef hB hft hΦ
  simp only [Reg.SV] at hE
  obtain ⟨e14, e1, _⟩ := hE
  rcases Reg.lt2 hiq with rfl | rfl
  all_goals (cases hoq; cases hpq)
  rotate_left 1
  ·obtain ⟨_, _, h14⟩ := Kd.R_slice (hΦ 0 _ rfl rfl rfl)
   replace h14 : ρ 14 = _ := h14
   refine Reg.D.uv hB ?_
   go_simp
   try (first | done | rfl | (simp; done) | (intro h; omega))
  rotate_right 1
  ·refine Reg.D.crow (g := 28) (args := #[]) hB (by go_simp; try rfl) ?_
   exact example_calls W
 intro ρ W1 S hB hft hap hΦ
 simp only [Reg.SV, Reg.SF, Nat.reduceAdd]
 have r14 : Kd.R k57 57 W1 _ _ (ρ 14) (exA) := hΦ 0 _ rfl rfl
 obtain ⟨A14, c14, e14⟩ := Kd.R_slice r14
 replace e14 : ρ 14 = .slice A14 2 c14 := e14
 rw [e14] at r14
 replace r14 := Kd.R_mono (ok' := fun _ => True) (Kd.R_lower r14 HX.out.below.size) (fun _ _ => trivial)
 try simp only [e14]
 have HX := Aside0.mk (HX.out.call hB)
 clear hΦ hft hap 
 have RA := Aside0.mk (r14)
 go_upto_region 2 with (fail)
 try simp only [Reg.SF]
 refine Reg.det [Reg.k 15 (.agg #[.int .i64 2, .int .i64 12345000, .string (⟨#[]⟩ : ByteArray)]), Reg.k 16 (.agg #[.int .i64 3, .int .i64 0, .string (⟨#[97, 110, 110, 32, 108, 101, 101]⟩ : ByteArray)]), (some 17, Reg.Dv.blk 17 39 2 #[.int .i64 2, .int .i64 12345000, .string (⟨#[]⟩ : ByteArray), .int .i64 3, .int .i64 0, .string (⟨#[97, 110, 110, 32, 108, 101, 101]⟩ : ByteArray)]), (some 2, Reg.Dv.u [17] (fun l => (l.headD undef)))] [] 211 rfl (by kernel_rfl) (by kernel_rfl) ?s5 ?_
 case s5 =>
  intro iq oq pq hiq hoq hpq ρ ev W S hE hO ec ef hB hft hΦ
  simp only [Reg.SV] at hE
  obtain ⟨e15, e16, e17, e2, _⟩ := hE
  rcases Reg.lt4 hiq with rfl | rfl | rfl | rfl
  all_goals (cases hoq; cases hpq)
  rotate_left 3
  ·obtain ⟨_, h17, _⟩ := hΦ 2 _ rfl rfl rfl
   replace h17 : ρ 17 = _ := h17
   refine Reg.D.uv hB ?_
   go_simp
   try (first | done | rfl | (simp; done) | (intro h; omega))
  rotate_right 3
  rotate_left 2
  ·refine Reg.D.blk hB ?_
   go_simp
   try (first | rfl | exact ⟨rfl, rfl⟩)
  rotate_right 2
  rotate_left 1
  ·refine Reg.D.cc (g := 29) (args := #[.string (⟨#[97, 110, 110, 32, 108, 101, 101]⟩ : ByteArray)]) hB (by go_simp; try rfl) ?_
   exact chapmanref16_Texted.calls (⟨#[97, 110, 110, 32, 108, 101, 101]⟩ : ByteArray) 3 0 (⟨#[97, 110, 110, 32, 108, 101, 101]⟩ : ByteArray) W rfl
  rotate_right 1
  all_goals (refine Reg.D.cv hB ?_; go_simp; try (first | done | rfl | (simp; done) | (intro h; omega)))
 intro ρ W2 S hB hft hap hΦ
 simp only [Reg.SV, Reg.SF, Nat.reduceAdd]
 obtain ⟨g17, e17, s17, hg17, _, b17⟩ := hΦ 2 _ rfl rfl
 replace e17 : ρ 17 = .slice (some ⟨g17, 0, none⟩) 2 2 := e17
 try simp only [e17]
 replace b17 : W2.heap[g17]? = some (.cells #[.int .i64 2, .int .i64 12345000, .string (⟨#[]⟩ : ByteArray), .int .i64 3, .int .i64 0, .string (⟨#[97, 110, 110, 32, 108, 101, 101]⟩ : ByteArray)] 39 (0, 0)) := b17
 have HX := Aside0.mk (HX.out.join (Bxs.one hB hg17 b17))
 replace RA := Aside0.mk (Kd.R_below RA.out hB)
 clear hΦ hft hap 
 go_upto_region 3 with (fail)
 try simp only [Reg.SF]
 refine Reg.det [Reg.k 18 (.agg #[.int .i64 2, .int .i64 0, .int .i64 1, .string (⟨#[]⟩ : ByteArray), .slice none 0 0]), (some 3, Reg.Dv.box 3 29 (fun _ => #[.int .i64 0, .int .i64 0, .int .i64 0, .string (⟨#[]⟩ : ByteArray), .slice none 0 0]) [] true), (none, Reg.Dv.box 3 29 (fun _ => #[.int .i64 2, .int .i64 0, .int .i64 1, .string (⟨#[]⟩ : ByteArray), .slice none 0 0]) [] false)] [(1, 2)] 211 rfl (by kernel_rfl) (by kernel_rfl) ?s6 ?_
 case s6 =>
  intro iq oq pq hiq hoq hpq ρ ev W S hE hO ec ef hB hft hΦ
  simp only [Reg.SV] at hE
  obtain ⟨e18, e3, _⟩ := hE
  rcases Reg.lt3 hiq with rfl | rfl | rfl
  all_goals (cases hoq; cases hpq)
  rotate_left 2
  ·exact Reg.D.fill 1 29 (.tmp 3) (.tmp 18) hB e3 (by first | assumption | rfl | (simp [*]; done)) (hΦ 1 _ rfl rfl rfl) info29s (by first | rfl | (simp only [Reg.SV]; rfl))
  rotate_right 2
  rotate_left 1
  ·refine Reg.D.box hB ?_
   go_simp
   try rfl
  rotate_right 1
  all_goals (refine Reg.D.cv hB ?_; go_simp; try (first | done | rfl | (simp; done) | (intro h; omega)))
 intro ρ W3 S hB hft hap hΦ
 simp only [Reg.SV, Reg.SF, Nat.reduceAdd]
 obtain ⟨g3, e3, s3, hg3, _, b3⟩ := hΦ 2 _ rfl rfl
 replace e3 : ρ 3 = .pointer (some ⟨g3, 0, none⟩) := e3
 try simp only [e3]
 replace b3 : W3.heap[g3]? = some (.cells #[.int .i64 2, .int .i64 0, .int .i64 1, .string (⟨#[]⟩ : ByteArray), .slice none 0 0] 29 (0, 0)) := b3
 have HX := Aside0.mk (HX.out.join (Bxs.one hB hg3 b3))
 replace RA := Aside0.mk (Kd.R_below RA.out hB)
 clear hΦ hft hap 
 go_upto_region 4 with (fail)
 try simp only [Reg.SF]
 refine Reg.det [Reg.k 19 (.agg #[.int .i64 3, .int .i64 0, .int .i64 1, .string (⟨#[]⟩ : ByteArray), .slice none 0 0]), (some 4, Reg.Dv.box 4 29 (fun _ => #[.int .i64 0, .int .i64 0, .int .i64 0, .string (⟨#[]⟩ : ByteArray), .slice none 0 0]) [] true), (none, Reg.Dv.box 4 29 (fun _ => #[.int .i64 3, .int .i64 0, .int .i64 1, .string (⟨#[]⟩ : ByteArray), .slice none 0 0]) [] false)] [(1, 2)] 211 rfl (by kernel_rfl) (by kernel_rfl) ?s7 ?_
 case s7 =>
  intro iq oq pq hiq hoq hpq ρ ev W S hE hO ec ef hB hft hΦ
  simp only [Reg.SV] at hE
  obtain ⟨e19, e4, _⟩ := hE
  rcases Reg.lt3 hiq with rfl | rfl | rfl
  all_goals (cases hoq; cases hpq)
  rotate_left 2
  ·exact Reg.D.fill 1 29 (.tmp 4) (.tmp 19) hB e4 (by first | assumption | rfl | (simp [*]; done)) (hΦ 1 _ rfl rfl rfl) info29s (by first | rfl | (simp only [Reg.SV]; rfl))
  rotate_right 2
  rotate_left 1
  ·refine Reg.D.box hB ?_
   go_simp
   try rfl
  rotate_right 1
  all_goals (refine Reg.D.cv hB ?_; go_simp; try (first | done | rfl | (simp; done) | (intro h; omega)))
 intro ρ W4 S hB hft hap hΦ
 simp only [Reg.SV, Reg.SF, Nat.reduceAdd]
 obtain ⟨g4, e4, s4, hg4, _, b4⟩ := hΦ 2 _ rfl rfl
 replace e4 : ρ 4 = .pointer (some ⟨g4, 0, none⟩) := e4
 try simp only [e4]
 replace b4 : W4.heap[g4]? = some (.cells #[.int .i64 3, .int .i64 0, .int .i64 1, .string (⟨#[]⟩ : ByteArray), .slice none 0 0] 29 (0, 0)) := b4
 have HX := Aside0.mk (HX.out.join (Bxs.one hB hg4 b4))
 replace RA := Aside0.mk (Kd.R_below RA.out hB)
 clear hΦ hft hap 
 go_upto_region 5 with (fail)
 try simp only [Reg.SF]
 refine Reg.det [Reg.k 20 (.agg #[.int .i64 1, .int .i64 1, .int .i64 0, .string (⟨#[]⟩ : ByteArray), .slice none 0 0]), (some 21, Reg.Dv.blk 21 29 1 #[.int .i64 1, .int .i64 1, .int .i64 0, .string (⟨#[]⟩ : ByteArray), .slice none 0 0]), (some 5, Reg.Dv.u [21] (fun l => (l.headD undef)))] [] 211 rfl (by kernel_rfl) (by kernel_rfl) ?s8 ?_
 case s8 =>
  intro iq oq pq hiq hoq hpq ρ ev W S hE hO ec ef hB hft hΦ
  simp only [Reg.SV] at hE
  obtain ⟨e20, e21, e5, _⟩ := hE
  rcases Reg.lt3 hiq with rfl | rfl | rfl
  all_goals (cases hoq; cases hpq)
  rotate_left 2
  ·obtain ⟨_, h21, _⟩ := hΦ 1 _ rfl rfl rfl
   replace h21 : ρ 21 = _ := h21
   refine Reg.D.uv hB ?_
   go_simp
   try (first | done | rfl | (simp; done) | (intro h; omega))
  rotate_right 2
  rotate_left 1
  ·refine Reg.D.blk hB ?_
   go_simp
   try (first | rfl | exact ⟨rfl, rfl⟩)
  rotate_right 1
  all_goals (refine Reg.D.cv hB ?_; go_simp; try (first | done | rfl | (simp; done) | (intro h; omega)))
 intro ρ W5 S hB hft hap hΦ
 simp only [Reg.SV, Reg.SF, Nat.reduceAdd]
 obtain ⟨g21, e21, s21, hg21, _, b21⟩ := hΦ 1 _ rfl rfl
 replace e21 : ρ 21 = .slice (some ⟨g21, 0, none⟩) 1 1 := e21
 try simp only [e21]
 replace b21 : W5.heap[g21]? = some (.cells #[.int .i64 1, .int .i64 1, .int .i64 0, .string (⟨#[]⟩ : ByteArray), .slice none 0 0] 29 (0, 0)) := b21
 have HX := Aside0.mk (HX.out.join (Bxs.one hB hg21 b21))
 replace RA := Aside0.mk (Kd.R_below RA.out hB)
 clear hΦ hft hap 
 go_upto_region 6 with (fail)
 try simp only [Reg.SF]
 refine Reg.det [Reg.k 22 (.slice (some ⟨g21, 0, none⟩) 1 1), Reg.k 23 (.agg #[.int .i64 4, .int .i64 0, .int .i64 0, .string (⟨#[32]⟩ : ByteArray), .slice (some ⟨g21, 0, none⟩) 1 1]), Reg.k 24 (.slice (some ⟨g21, 0, none⟩) 1 1), Reg.k 25 (.agg #[.int .i64 5, .int .i64 0, .int .i64 0, .string (⟨#[32]⟩ : ByteArray), .slice (some ⟨g21, 0, none⟩) 1 1]), (some 6, Reg.Dv.box 6 29 (fun _ => #[.int .i64 0, .int .i64 0, .int .i64 0, .string (⟨#[]⟩ : ByteArray), .slice none 0 0]) [] true), (some 7, Reg.Dv.box 7 29 (fun _ => #[.int .i64 0, .int .i64 0, .int .i64 0, .string (⟨#[]⟩ : ByteArray), .slice none 0 0]) [] true), (none, Reg.Dv.box 6 29 (fun _ => #[.int .i64 4, .int .i64 0, .int .i64 0, .string (⟨#[32]⟩ : ByteArray), .slice (some ⟨g21, 0, none⟩) 1 1]) [] false), (none, Reg.Dv.box 7 29 (fun _ => #[.int .i64 5, .int .i64 0, .int .i64 0, .string (⟨#[32]⟩ : ByteArray), .slice (some ⟨g21, 0, none⟩) 1 1]) [] false)] [(4, 6), (5, 7)] 211 rfl (by kernel_rfl) (by kernel_rfl) ?s9 ?_
 case s9 =>
  intro iq oq pq hiq hoq hpq ρ ev W S hE hO ec ef hB hft hΦ
  have e5 : ev (.tmp 5) = .slice (some ⟨g21, 0, none⟩) 1 1 := hO 5 rfl
  simp only [Reg.SV] at hE
  obtain ⟨e22, e23, e24, e25, e6, e7, _⟩ := hE
  rcases Reg.lt8 hiq with rfl | rfl | rfl | rfl | rfl | rfl | rfl | rfl
  all_goals (cases hoq; cases hpq)
  rotate_left 7
  ·exact Reg.D.fill 5 29 (.tmp 7) (.tmp 25) hB e7 (by first | assumption | rfl | (simp [*]; done)) (hΦ 5 _ rfl rfl rfl) info29s (by first | rfl | (simp only [Reg.SV]; rfl))
  rotate_right 7
  rotate_left 6
  ·exact Reg.D.fill 4 29 (.tmp 6) (.tmp 23) hB e6 (by first | assumption | rfl | (simp [*]; done)) (hΦ 4 _ rfl rfl rfl) info29s (by first | rfl | (simp only [Reg.SV]; rfl))
  rotate_right 6
  rotate_left 5
  ·refine Reg.D.box hB ?_
   go_simp
   try rfl
  rotate_right 5
  rotate_left 4
  ·refine Reg.D.box hB ?_
   go_simp
   try rfl
  rotate_right 4
  all_goals (first | exact Reg.D.mv hB | skip)
  all_goals (refine Reg.D.cv hB ?_; go_simp; try (first | done | rfl | (simp; done) | (intro h; omega)))
 intro ρ W6 S hB hft hap hΦ
 simp only [Reg.SV, Reg.SF, Nat.reduceAdd]
 obtain ⟨g6, e6, s6, hg6, _, b6⟩ := hΦ 6 _ rfl rfl
 replace e6 : ρ 6 = .pointer (some ⟨g6, 0, none⟩) := e6
 obtain ⟨g7, e7, s7, hg7, _, b7⟩ := hΦ 7 _ rfl rfl
 replace e7 : ρ 7 = .pointer (some ⟨g7, 0, none⟩) := e7
 try simp only [e6, e7]
 replace b6 : W6.heap[g6]? = some (.cells #[.int .i64 4, .int .i64 0, .int .i64 0, .string (⟨#[32]⟩ : ByteArray), .slice (some ⟨g21, 0, none⟩) 1 1] 29 (0, 0)) := b6
 replace b7 : W6.heap[g7]? = some (.cells #[.int .i64 5, .int .i64 0, .int .i64 0, .string (⟨#[32]⟩ : ByteArray), .slice (some ⟨g21, 0, none⟩) 1 1] 29 (0, 0)) := b7
 have HX := Aside0.mk (HX.out.join ((Bxs.one hB hg6 b6).more hg7 b7 (by intro p hp; simp only [List.mem_cons, List.mem_singleton, List.not_mem_nil, or_false] at hp; rcases hp with rfl <;> (intro e; dsimp only at e; subst e; first | exact absurd (hap _ _ _ s6 s7) (by decide)))))
 replace RA := Aside0.mk (Kd.R_below RA.out hB)
 clear hΦ hft hap 
 go_upto_region 7 with (fail)
 try simp only [Reg.SF]
 refine Reg.det [Reg.k 26 (.agg #[.int .i64 4, .int .i64 0, .int .i64 0, .string (⟨#[32]⟩ : ByteArray), .slice (some ⟨g21, 0, none⟩) 1 1]), Reg.k 27 (.agg #[.int .i64 5, .int .i64 0, .int .i64 0, .string (⟨#[32]⟩ : ByteArray), .slice (some ⟨g21, 0, none⟩) 1 1]), (some 28, Reg.Dv.blk 28 29 2 #[.int .i64 4, .int .i64 0, .int .i64 0, .string (⟨#[32]⟩ : ByteArray), .slice (some ⟨g21, 0, none⟩) 1 1, .int .i64 5, .int .i64 0, .int .i64 0, .string (⟨#[32]⟩ : ByteArray), .slice (some ⟨g21, 0, none⟩) 1 1]), (some 29, Reg.Dv.u [28] (fun l => .agg #[.int .i64 6, .int .i64 0, .int .i64 0, .string (⟨#[44]⟩ : ByteArray), (l.headD undef)])), (some 8, Reg.Dv.box 8 29 (fun _ => #[.int .i64 0, .int .i64 0, .int .i64 0, .string (⟨#[]⟩ : ByteArray), .slice none 0 0]) [] true), (none, Reg.Dv.box 8 29 (fun l => #[.int .i64 6, .int .i64 0, .int .i64 0, .string (⟨#[44]⟩ : ByteArray), (l.headD undef)]) [28] false)] [(4, 5)] 211 rfl (by kernel_rfl) (by kernel_rfl) ?s10 ?_
 case s10 =>
  intro iq oq pq hiq hoq hpq ρ ev W S hE hO ec ef hB hft hΦ
  have e6 : ev (.tmp 6) = .pointer (some ⟨g6, 0, none⟩) := hO 6 rfl
  have e7 : ev (.tmp 7) = .pointer (some ⟨g7, 0, none⟩) := hO 7 rfl
  have mg6_0 := pw_cell_below hB (HX.out.cell 1 0 rfl rfl : _ = some (.int .i64 4 : Value))
  have mg6_1 := pw_cell_below hB (HX.out.cell 1 1 rfl rfl : _ = some (.int .i64 0 : Value))
  have mg6_2 := pw_cell_below hB (HX.out.cell 1 2 rfl rfl : _ = some (.int .i64 0 : Value))
  have mg6_3 := pw_cell_below hB (HX.out.cell 1 3 rfl rfl : _ = some (.string (⟨#[32]⟩ : ByteArray) : Value))
  have mg6_4 := pw_cell_below hB (HX.out.cell 1 4 rfl rfl : _ = some (.slice (some ⟨g21, 0, none⟩) 1 1 : Value))
  have mg7_0 := pw_cell_below hB (HX.out.cell 0 0 rfl rfl : _ = some (.int .i64 5 : Value))
  have mg7_1 := pw_cell_below hB (HX.out.cell 0 1 rfl rfl : _ = some (.int .i64 0 : Value))
  have mg7_2 := pw_cell_below hB (HX.out.cell 0 2 rfl rfl : _ = some (.int .i64 0 : Value))
  have mg7_3 := pw_cell_below hB (HX.out.cell 0 3 rfl rfl : _ = some (.string (⟨#[32]⟩ : ByteArray) : Value))
  have mg7_4 := pw_cell_below hB (HX.out.cell 0 4 rfl rfl : _ = some (.slice (some ⟨g21, 0, none⟩) 1 1 : Value))
  simp only [Reg.SV] at hE
  obtain ⟨e26, e27, e28, e29, e8, _⟩ := hE
  rcases Reg.lt6 hiq with rfl | rfl | rfl | rfl | rfl | rfl
  all_goals (cases hoq; cases hpq)
  rotate_left 5
  ·obtain ⟨_, h28, _⟩ := hΦ 2 _ rfl rfl rfl
   replace h28 : ρ 28 = _ := h28
   exact Reg.D.fill 4 29 (.tmp 8) (.tmp 29) hB e8 (by first | assumption | rfl | (simp [*]; done)) (hΦ 4 _ rfl rfl rfl) info29s (by first | rfl | (simp only [Reg.SV, h28]; rfl))
  rotate_right 5
  rotate_left 4
  ·refine Reg.D.box hB ?_
   go_simp
   try rfl
  rotate_right 4
  rotate_left 3
  ·obtain ⟨_, h28, _⟩ := hΦ 2 _ rfl rfl rfl
   replace h28 : ρ 28 = _ := h28
   refine Reg.D.uv hB ?_
   go_simp
   try (first | done | rfl | (simp; done) | (intro h; omega))
  rotate_right 3
  rotate_left 2
  ·refine Reg.D.blk hB ?_
   go_simp
   try (first | rfl | exact ⟨rfl, rfl⟩)
  rotate_right 2
  all_goals (refine Reg.D.cv hB ?_; go_simp; try (first | done | rfl | (simp; done) | (intro h; omega)))
 intro ρ W7 S hB hft hap hΦ
 simp only [Reg.SV, Reg.SF, Nat.reduceAdd]
 obtain ⟨g28, e28, s28, hg28, _, b28⟩ := hΦ 2 _ rfl rfl
 replace e28 : ρ 28 = .slice (some ⟨g28, 0, none⟩) 2 2 := e28
 obtain ⟨g8, e8, s8, hg8, _, b8⟩ := hΦ 5 _ rfl rfl
 replace e8 : ρ 8 = .pointer (some ⟨g8, 0, none⟩) := e8
 replace b8 : W7.heap[g8]? = some (.cells #[.int .i64 6, .int .i64 0, .int .i64 0, .string (⟨#[44]⟩ : ByteArray), ρ 28] 29 (0, 0)) := b8
 rw [e28] at b8
 try simp only [e28, e8]
 replace b28 : W7.heap[g28]? = some (.cells #[.int .i64 4, .int .i64 0, .int .i64 0, .string (⟨#[32]⟩ : ByteArray), .slice (some ⟨g21, 0, none⟩) 1 1, .int .i64 5, .int .i64 0, .int .i64 0, .string (⟨#[32]⟩ : ByteArray), .slice (some ⟨g21, 0, none⟩) 1 1] 29 (0, 0)) := b28
 replace b8 : W7.heap[g8]? = some (.cells #[.int .i64 6, .int .i64 0, .int .i64 0, .string (⟨#[44]⟩ : ByteArray), .slice (some ⟨g28, 0, none⟩) 2 2] 29 (0, 0)) := b8
 have HX := Aside0.mk (HX.out.join ((Bxs.one hB hg28 b28).more hg8 b8 (by intro p hp; simp only [List.mem_cons, List.mem_singleton, List.not_mem_nil, or_false] at hp; rcases hp with rfl <;> (intro e; dsimp only at e; subst e; first | exact absurd (hap _ _ _ s28 s8) (by decide)))))
 replace RA := Aside0.mk (Kd.R_below RA.out hB)
 clear hΦ hft hap 
 have HC0 : Kd.C k57 W7 A14 2 exA := (Kd.R_reads' RA.out).2.2
 have hc14 : 2 ≤ c14 := (Kd.R_reads' RA.out).2.1
 have hG7 : Gl W7 := HG.out.below HX.out.below
 have HC1 : Kd.C k39 W7 (some ⟨g17, 0, none⟩) 2 exC := C_of_blk (HX.out.at 7 rfl) (Reps.c3 (k39_mk W7 ⟨2, 12345000, ⟨#[]⟩⟩) (Reps.c3 (k39_mk W7 ⟨3, 0, (⟨#[97, 110, 110, 32, 108, 101, 101]⟩ : ByteArray)⟩) (Reps.none _ _))) (by decide)
 have HCT : k29.C W7 (some ⟨g21, 0, none⟩) 1 [lnT] := C_of_blk (HX.out.at 4 rfl) (Reps.c5 (k29_mk W7 lnT (A4 := none) (c4 := 0) (Nat.le_refl _) (Kd.C_nil _ _)) (Reps.none _ _)) (by decide)
 have HCB : k29.C W7 (some ⟨g28, 0, none⟩) 2 [lnF, lnR] := C_of_blk (HX.out.at 1 rfl) (Reps.c5 (k29_mk W7 lnF (A4 := some ⟨g21, 0, none⟩) (c4 := 1) (Nat.le_refl _) HCT) (Reps.c5 (k29_mk W7 lnR (A4 := some ⟨g21, 0, none⟩) (c4 := 1) (Nat.le_refl _) HCT) (Reps.none _ _))) (by decide)
 have HB7 := Aside0.mk (Below.refl W7.heap.size W7)
 have HVS : Aside0 (∀ (w' : World), Below W7.heap.size W7 w' → Calls Tryz.prog 27 #[.slice A14 2 c14, .agg #[.int .i64 2, .int .i64 0, .int .i64 1, .string (⟨#[]⟩ : ByteArray), .slice none 0 0]] w' fun e w'' => e = .returned (.bool true) ∧ Below w'.heap.size w' w'') := ⟨fun w' hb => by
  have h := Valid_calls exA lnS 4 dS A14 c14 none 0 w' (hG7.below hb) (Kd.C_below HC0 hb) (Nat.le_refl _) (Kd.C_nil _ _)
  rw [vS] at h
  exact h⟩
 have HVW : Aside0 (∀ (w' : World), Below W7.heap.size W7 w' → Calls Tryz.prog 27 #[.slice A14 2 c14, .agg #[.int .i64 3, .int .i64 0, .int .i64 1, .string (⟨#[]⟩ : ByteArray), .slice none 0 0]] w' fun e w'' => e = .returned (.bool true) ∧ Below w'.heap.size w' w'') := ⟨fun w' hb => by
  have h := Valid_calls exA lnW 4 dW A14 c14 none 0 w' (hG7.below hb) (Kd.C_below HC0 hb) (Nat.le_refl _) (Kd.C_nil _ _)
  rw [vW] at h
  exact h⟩
 have HVB : Aside0 (∀ (w' : World), Below W7.heap.size W7 w' → Calls Tryz.prog 27 #[.slice A14 2 c14, .agg #[.int .i64 6, .int .i64 0, .int .i64 0, .string (⟨#[44]⟩ : ByteArray), .slice (some ⟨g28, 0, none⟩) 2 2]] w' fun e w'' => e = .returned (.bool true) ∧ Below w'.heap.size w' w'') := ⟨fun w' hb => by
  have h := Valid_calls exA lnB 4 dB A14 c14 (some ⟨g28, 0, none⟩) 2 w' (hG7.below hb) (Kd.C_below HC0 hb) (Nat.le_refl _) (Kd.C_below HCB hb)
  rw [vB] at h
  exact h⟩
 have HV0 : Aside0 (∀ (w' : World), Below W7.heap.size W7 w' → Calls Tryz.prog 27 #[.slice A14 2 c14, .agg #[.int .i64 0, .int .i64 0, .int .i64 0, .string (⟨#[]⟩ : ByteArray), .slice none 0 0]] w' fun e w'' => e = .returned (.bool false) ∧ Below w'.heap.size w' w'') := ⟨fun w' hb => by
  have h := Valid_calls exA ln0 4 d0 A14 c14 none 0 w' (hG7.below hb) (Kd.C_below HC0 hb) (Nat.le_refl _) (Kd.C_nil _ _)
  rw [v0] at h
  exact h⟩
 have HF1 : Aside0 (∀ (w' : World), Below W7.heap.size W7 w' → Calls Tryz.prog 30 #[.slice A14 2 c14, .slice (some ⟨g17, 0, none⟩) 2 2] w' fun e w'' => e = .returned (.bool true) ∧ Below w'.heap.size w' w'') := ⟨fun w' hb => by
  exact lens_Fit.calls 5 A14 c14 exA (some ⟨g17, 0, none⟩) 2 exC true w' (Kd.C_below HC0 hb) hc14 (Kd.C_below HC1 hb) (Nat.le_refl _) (hG7.below hb) ((fit_f exA exC (by decide)).trans (congrArg some fC))⟩
 have HF0 : Aside0 (∀ (w' : World), Below W7.heap.size W7 w' → Calls Tryz.prog 30 #[.slice A14 2 c14, .slice none 0 0] w' fun e w'' => e = .returned (.bool false) ∧ Below w'.heap.size w' w'') := ⟨fun w' hb => by
  exact lens_Fit.calls 5 A14 c14 exA none 0 [] false w' (Kd.C_below HC0 hb) hc14 (Kd.C_nil _ _) (Nat.le_refl _) (hG7.below hb) ((fit_f exA [] (by decide)).trans (congrArg some f0))⟩
 have HSS : Aside0 (∀ (w' : World), Below W7.heap.size W7 w' → Calls Tryz.prog 12 #[.agg #[.int .i64 2, .int .i64 0, .int .i64 1, .string (⟨#[]⟩ : ByteArray), .slice none 0 0], .slice (some ⟨g17, 0, none⟩) 2 2] w' fun e w'' => e = .returned (.agg #[.int .i64 2, .int .i64 12300000, .string (⟨#[]⟩ : ByteArray)]) ∧ Below w'.heap.size w' w'') := ⟨fun w' hb => by
  exact Show_calls exC lnS ⟨2, 12300000, ⟨#[]⟩⟩ (some ⟨g17, 0, none⟩) 2 none 0 w' (hG7.below hb) (Kd.C_below HC1 hb) (Nat.le_refl _) (Kd.C_nil _ _) (by
   have h := shows_all none 0 0 exC 4 lnS (show_ok fC 4 lnS voS).1
   rw [sS] at h
   exact h)⟩
 have HSW : Aside0 (∀ (w' : World), Below W7.heap.size W7 w' → Calls Tryz.prog 12 #[.agg #[.int .i64 3, .int .i64 0, .int .i64 1, .string (⟨#[]⟩ : ByteArray), .slice none 0 0], .slice (some ⟨g17, 0, none⟩) 2 2] w' fun e w'' => e = .returned (.agg #[.int .i64 3, .int .i64 0, .string (⟨#[49, 50, 46, 51]⟩ : ByteArray)]) ∧ Below w'.heap.size w' w'') := ⟨fun w' hb => by
  exact Show_calls exC lnW ⟨3, 0, ⟨#[49, 50, 46, 51]⟩⟩ (some ⟨g17, 0, none⟩) 2 none 0 w' (hG7.below hb) (Kd.C_below HC1 hb) (Nat.le_refl _) (Kd.C_nil _ _) (by
   have h := shows_all none 0 0 exC 4 lnW (show_ok fC 4 lnW voW).1
   rw [sW] at h
   exact h)⟩
 have HSF : Aside0 (∀ (w' : World), Below W7.heap.size W7 w' → Calls Tryz.prog 12 #[.agg #[.int .i64 4, .int .i64 0, .int .i64 0, .string (⟨#[32]⟩ : ByteArray), .slice (some ⟨g21, 0, none⟩) 1 1], .slice (some ⟨g17, 0, none⟩) 2 2] w' fun e w'' => e = .returned (.agg #[.int .i64 3, .int .i64 0, .string (⟨#[97, 110, 110]⟩ : ByteArray)]) ∧ Below w'.heap.size w' w'') := ⟨fun w' hb => by
  exact Show_calls exC lnF ⟨3, 0, ⟨#[97, 110, 110]⟩⟩ (some ⟨g17, 0, none⟩) 2 (some ⟨g21, 0, none⟩) 1 w' (hG7.below hb) (Kd.C_below HC1 hb) (Nat.le_refl _) (Kd.C_below HCT hb) (by
   have h := shows_all none 0 0 exC 4 lnF (show_ok fC 4 lnF voF).1
   rw [sF] at h
   exact h)⟩
 have HSR : Aside0 (∀ (w' : World), Below W7.heap.size W7 w' → Calls Tryz.prog 12 #[.agg #[.int .i64 5, .int .i64 0, .int .i64 0, .string (⟨#[32]⟩ : ByteArray), .slice (some ⟨g21, 0, none⟩) 1 1], .slice (some ⟨g17, 0, none⟩) 2 2] w' fun e w'' => e = .returned (.agg #[.int .i64 3, .int .i64 0, .string (⟨#[108, 101, 101]⟩ : ByteArray)]) ∧ Below w'.heap.size w' w'') := ⟨fun w' hb => by
  exact Show_calls exC lnR ⟨3, 0, ⟨#[108, 101, 101]⟩⟩ (some ⟨g17, 0, none⟩) 2 (some ⟨g21, 0, none⟩) 1 w' (hG7.below hb) (Kd.C_below HC1 hb) (Nat.le_refl _) (Kd.C_below HCT hb) (by
   have h := shows_all none 0 0 exC 4 lnR (show_ok fC 4 lnR voR).1
   rw [sR] at h
   exact h)⟩
 have HSB : Aside0 (∀ (w' : World), Below W7.heap.size W7 w' → Calls Tryz.prog 12 #[.agg #[.int .i64 6, .int .i64 0, .int .i64 0, .string (⟨#[44]⟩ : ByteArray), .slice (some ⟨g28, 0, none⟩) 2 2], .slice (some ⟨g17, 0, none⟩) 2 2] w' fun e w'' => e = .returned (.agg #[.int .i64 3, .int .i64 0, .string (⟨#[97, 110, 110, 44, 108, 101, 101]⟩ : ByteArray)]) ∧ Below w'.heap.size w' w'') := ⟨fun w' hb => by
  exact Show_calls exC lnB ⟨3, 0, ⟨#[97, 110, 110, 44, 108, 101, 101]⟩⟩ (some ⟨g17, 0, none⟩) 2 (some ⟨g28, 0, none⟩) 2 w' (hG7.below hb) (Kd.C_below HC1 hb) (Nat.le_refl _) (Kd.C_below HCB hb) (by
   have h := shows_all none 0 0 exC 4 lnB (show_ok fC 4 lnB voB).1
   rw [sB] at h
   exact h)⟩
 have HPa : Aside0 (∀ (w' : World), Below W7.heap.size W7 w' → Calls Tryz.prog 11 #[.slice A14 2 c14, .agg #[.int .i64 2, .int .i64 0, .int .i64 1, .string (⟨#[]⟩ : ByteArray), .slice none 0 0], .agg #[.slice (some ⟨g17, 0, none⟩) 2 2, .int .i64 2, .int .i64 12300000, .string (⟨#[]⟩ : ByteArray)]] w' fun e w'' => gotOut (some ⟨g17, 0, none⟩) 2 exC (some la) w' w'' e) := ⟨fun w' hb => by
  have h := puts_all exA (by decide) 4 lnS voS exC ⟨2, 12300000, ⟨#[]⟩⟩ fC
  rw [pa] at h
  exact put_calls exA exC lnS ⟨2, 12300000, ⟨#[]⟩⟩ _ h A14 c14 (some ⟨g17, 0, none⟩) 2 none 0 w' (hG7.below hb) hc14 (Kd.C_below HC0 hb) (Nat.le_refl _) (Kd.C_below HC1 hb) (Nat.le_refl _) (Kd.C_nil _ _)⟩
 have HPb : Aside0 (∀ (w' : World), Below W7.heap.size W7 w' → Calls Tryz.prog 11 #[.slice A14 2 c14, .agg #[.int .i64 2, .int .i64 0, .int .i64 1, .string (⟨#[]⟩ : ByteArray), .slice none 0 0], .agg #[.slice (some ⟨g17, 0, none⟩) 2 2, .int .i64 2, .int .i64 12400000, .string (⟨#[]⟩ : ByteArray)]] w' fun e w'' => gotOut (some ⟨g17, 0, none⟩) 2 exC (some lb) w' w'' e) := ⟨fun w' hb => by
  have h := puts_all exA (by decide) 4 lnS voS exC ⟨2, 12400000, ⟨#[]⟩⟩ fC
  rw [pb] at h
  exact put_calls exA exC lnS ⟨2, 12400000, ⟨#[]⟩⟩ _ h A14 c14 (some ⟨g17, 0, none⟩) 2 none 0 w' (hG7.below hb) hc14 (Kd.C_below HC0 hb) (Nat.le_refl _) (Kd.C_below HC1 hb) (Nat.le_refl _) (Kd.C_nil _ _)⟩
 have HPc : Aside0 (∀ (w' : World), Below W7.heap.size W7 w' → Calls Tryz.prog 11 #[.slice A14 2 c14, .agg #[.int .i64 4, .int .i64 0, .int .i64 0, .string (⟨#[32]⟩ : ByteArray), .slice (some ⟨g21, 0, none⟩) 1 1], .agg #[.slice (some ⟨g17, 0, none⟩) 2 2, .int .i64 3, .int .i64 0, .string (⟨#[98, 111, 98]⟩ : ByteArray)]] w' fun e w'' => gotOut (some ⟨g17, 0, none⟩) 2 exC (some lc) w' w'' e) := ⟨fun w' hb => by
  have h := puts_all exA (by decide) 4 lnF voF exC ⟨3, 0, ⟨#[98, 111, 98]⟩⟩ fC
  rw [pc] at h
  exact put_calls exA exC lnF ⟨3, 0, ⟨#[98, 111, 98]⟩⟩ _ h A14 c14 (some ⟨g17, 0, none⟩) 2 (some ⟨g21, 0, none⟩) 1 w' (hG7.below hb) hc14 (Kd.C_below HC0 hb) (Nat.le_refl _) (Kd.C_below HC1 hb) (Nat.le_refl _) (Kd.C_below HCT hb)⟩
 have HPd : Aside0 (∀ (w' : World), Below W7.heap.size W7 w' → Calls Tryz.prog 11 #[.slice A14 2 c14, .agg #[.int .i64 5, .int .i64 0, .int .i64 0, .string (⟨#[32]⟩ : ByteArray), .slice (some ⟨g21, 0, none⟩) 1 1], .agg #[.slice (some ⟨g17, 0, none⟩) 2 2, .int .i64 0, .int .i64 0, .string (⟨#[]⟩ : ByteArray)]] w' fun e w'' => gotOut (some ⟨g17, 0, none⟩) 2 exC (some ld) w' w'' e) := ⟨fun w' hb => by
  have h := puts_all exA (by decide) 4 lnR voR exC ⟨0, 0, ⟨#[]⟩⟩ fC
  rw [pd] at h
  exact put_calls exA exC lnR ⟨0, 0, ⟨#[]⟩⟩ _ h A14 c14 (some ⟨g17, 0, none⟩) 2 (some ⟨g21, 0, none⟩) 1 w' (hG7.below hb) hc14 (Kd.C_below HC0 hb) (Nat.le_refl _) (Kd.C_below HC1 hb) (Nat.le_refl _) (Kd.C_below HCT hb)⟩
 have HPe : Aside0 (∀ (w' : World), Below W7.heap.size W7 w' → Calls Tryz.prog 11 #[.slice A14 2 c14, .agg #[.int .i64 6, .int .i64 0, .int .i64 0, .string (⟨#[44]⟩ : ByteArray), .slice (some ⟨g28, 0, none⟩) 2 2], .agg #[.slice (some ⟨g17, 0, none⟩) 2 2, .int .i64 3, .int .i64 0, .string (⟨#[98, 111, 98]⟩ : ByteArray)]] w' fun e w'' => gotOut (some ⟨g17, 0, none⟩) 2 exC (some le) w' w'' e) := ⟨fun w' hb => by
  have h := puts_all exA (by decide) 4 lnB voB exC ⟨3, 0, ⟨#[98, 111, 98]⟩⟩ fC
  rw [pe] at h
  exact put_calls exA exC lnB ⟨3, 0, ⟨#[98, 111, 98]⟩⟩ _ h A14 c14 (some ⟨g17, 0, none⟩) 2 (some ⟨g28, 0, none⟩) 2 w' (hG7.below hb) hc14 (Kd.C_below HC0 hb) (Nat.le_refl _) (Kd.C_below HC1 hb) (Nat.le_refl _) (Kd.C_below HCB hb)⟩
 have HPf : Aside0 (∀ (w' : World), Below W7.heap.size W7 w' → Calls Tryz.prog 11 #[.slice A14 2 c14, .agg #[.int .i64 3, .int .i64 0, .int .i64 1, .string (⟨#[]⟩ : ByteArray), .slice none 0 0], .agg #[.slice (some ⟨g17, 0, none⟩) 2 2, .int .i64 3, .int .i64 0, .string (⟨#[49, 50, 46, 52, 48]⟩ : ByteArray)]] w' fun e w'' => gotOut (some ⟨g17, 0, none⟩) 2 exC (none) w' w'' e) := ⟨fun w' hb => by
  have h := puts_all exA (by decide) 4 lnW voW exC ⟨3, 0, ⟨#[49, 50, 46, 52, 48]⟩⟩ fC
  rw [pf] at h
  exact put_calls exA exC lnW ⟨3, 0, ⟨#[49, 50, 46, 52, 48]⟩⟩ _ h A14 c14 (some ⟨g17, 0, none⟩) 2 none 0 w' (hG7.below hb) hc14 (Kd.C_below HC0 hb) (Nat.le_refl _) (Kd.C_below HC1 hb) (Nat.le_refl _) (Kd.C_nil _ _)⟩
 have HPg : Aside0 (∀ (w' : World), Below W7.heap.size W7 w' → Calls Tryz.prog 11 #[.slice A14 2 c14, .agg #[.int .i64 6, .int .i64 0, .int .i64 0, .string (⟨#[44]⟩ : ByteArray), .slice (some ⟨g28, 0, none⟩) 2 2], .agg #[.slice (some ⟨g17, 0, none⟩) 2 2, .int .i64 3, .int .i64 0, .string (⟨#[97, 32, 98, 44, 99]⟩ : ByteArray)]] w' fun e w'' => gotOut (some ⟨g17, 0, none⟩) 2 exC (none) w' w'' e) := ⟨fun w' hb => by
  have h := puts_all exA (by decide) 4 lnB voB exC ⟨3, 0, ⟨#[97, 32, 98, 44, 99]⟩⟩ fC
  rw [pg] at h
  exact put_calls exA exC lnB ⟨3, 0, ⟨#[97, 32, 98, 44, 99]⟩⟩ _ h A14 c14 (some ⟨g17, 0, none⟩) 2 (some ⟨g28, 0, none⟩) 2 w' (hG7.below hb) hc14 (Kd.C_below HC0 hb) (Nat.le_refl _) (Kd.C_below HC1 hb) (Nat.le_refl _) (Kd.C_below HCB hb)⟩
 have HAB : Aside0 (∀ (w' : World), Below W7.heap.size W7 w' → Calls Tryz.prog 14 #[.agg #[.int .i64 6, .int .i64 0, .int .i64 0, .string (⟨#[44]⟩ : ByteArray), .slice (some ⟨g28, 0, none⟩) 2 2]] w' fun e w'' => ∃ v, e = .returned v ∧ Kd.R (Kd.int .i64) 3 w'' w'.heap.size (fun _ => True) v [1] ∧ Below w'.heap.size w' w'') := ⟨fun w' hb => by
  have h := Attrs_all 4 lnB (by decide) wB (some ⟨g28, 0, none⟩) 2 w' (Nat.le_refl _) (Kd.C_below HCB hb)
  rw [aB] at h
  exact h⟩
 have HC1' := Aside0.mk HC1
 clear HC0 HC1 HCT HCB hc14 hG7
 go_upto_region 8 with (fail)
 try simp only [Reg.SF]
 refine Reg.det [Reg.k 30 (.slice A14 2 c14), Reg.k 31 (.agg #[.int .i64 2, .int .i64 0, .int .i64 1, .string (⟨#[]⟩ : ByteArray), .slice none 0 0]), Reg.k 32 (.bool true), Reg.k 33 (.bool false), Reg.k 34 (.bool false), Reg.k 35 (.slice A14 2 c14), Reg.k 36 (.agg #[.int .i64 3, .int .i64 0, .int .i64 1, .string (⟨#[]⟩ : ByteArray), .slice none 0 0]), Reg.k 37 (.bool true), Reg.k 38 (.bool false), Reg.k 39 (.bool false), Reg.k 40 (.bool false), Reg.k 41 (.slice A14 2 c14), Reg.k 42 (.agg #[.int .i64 6, .int .i64 0, .int .i64 0, .string (⟨#[44]⟩ : ByteArray), .slice (some ⟨g28, 0, none⟩) 2 2]), Reg.k 43 (.bool true), Reg.k 44 (.bool false), Reg.k 45 (.bool false), Reg.k 46 (.bool false), Reg.k 47 (.slice A14 2 c14), Reg.k 48 (.agg #[.int .i64 0, .int .i64 0, .int .i64 0, .string (⟨#[]⟩ : ByteArray), .slice none 0 0]), Reg.k 49 (.bool false), Reg.k 50 (.bool false), Reg.k 51 (.bool false), Reg.k 52 (.slice A14 2 c14), Reg.k 53 (.slice (some ⟨g17, 0, none⟩) 2 2), Reg.k 54 (.bool true), Reg.k 55 (.bool false), Reg.k 56 (.bool false), Reg.k 57 (.bool false), Reg.k 58 (.slice A14 2 c14), Reg.k 59 (.bool false), Reg.k 60 (.bool false)] [] 211 rfl (by kernel_rfl) (by kernel_rfl) ?s11 ?_
 case s11 =>
  intro iq oq pq hiq hoq hpq ρ ev W S hE hO ec ef hB hft hΦ
  have e1 : ev (.tmp 1) = .slice A14 2 c14 := hO 1 rfl
  have e2 : ev (.tmp 2) = .slice (some ⟨g17, 0, none⟩) 2 2 := hO 2 rfl
  have e3 : ev (.tmp 3) = .pointer (some ⟨g3, 0, none⟩) := hO 3 rfl
  have e4 : ev (.tmp 4) = .pointer (some ⟨g4, 0, none⟩) := hO 4 rfl
  have e8 : ev (.tmp 8) = .pointer (some ⟨g8, 0, none⟩) := hO 8 rfl
  have mg3_0 := pw_cell_below hB (HX.out.cell 6 0 rfl rfl : _ = some (.int .i64 2 : Value))
  have mg3_1 := pw_cell_below hB (HX.out.cell 6 1 rfl rfl : _ = some (.int .i64 0 : Value))
  have mg3_2 := pw_cell_below hB (HX.out.cell 6 2 rfl rfl : _ = some (.int .i64 1 : Value))
  have mg3_3 := pw_cell_below hB (HX.out.cell 6 3 rfl rfl : _ = some (.string (⟨#[]⟩ : ByteArray) : Value))
  have mg3_4 := pw_cell_below hB (HX.out.cell 6 4 rfl rfl : _ = some (.slice none 0 0 : Value))
  have mg4_0 := pw_cell_below hB (HX.out.cell 5 0 rfl rfl : _ = some (.int .i64 3 : Value))
  have mg4_1 := pw_cell_below hB (HX.out.cell 5 1 rfl rfl : _ = some (.int .i64 0 : Value))
  have mg4_2 := pw_cell_below hB (HX.out.cell 5 2 rfl rfl : _ = some (.int .i64 1 : Value))
  have mg4_3 := pw_cell_below hB (HX.out.cell 5 3 rfl rfl : _ = some (.string (⟨#[]⟩ : ByteArray) : Value))
  have mg4_4 := pw_cell_below hB (HX.out.cell 5 4 rfl rfl : _ = some (.slice none 0 0 : Value))
  have mg8_0 := pw_cell_below hB (HX.out.cell 0 0 rfl rfl : _ = some (.int .i64 6 : Value))
  have mg8_1 := pw_cell_below hB (HX.out.cell 0 1 rfl rfl : _ = some (.int .i64 0 : Value))
  have mg8_2 := pw_cell_below hB (HX.out.cell 0 2 rfl rfl : _ = some (.int .i64 0 : Value))
  have mg8_3 := pw_cell_below hB (HX.out.cell 0 3 rfl rfl : _ = some (.string (⟨#[44]⟩ : ByteArray) : Value))
  have mg8_4 := pw_cell_below hB (HX.out.cell 0 4 rfl rfl : _ = some (.slice (some ⟨g28, 0, none⟩) 2 2 : Value))
  simp only [Reg.SV] at hE
  obtain ⟨e30, e31, e32, e33, e34, e35, e36, e37, e38, e39, e40, e41, e42, e43, e44, e45, e46, e47, e48, e49, e50, e51, e52, e53, e54, e55, e56, e57, e58, e59, e60, _⟩ := hE
  rcases Reg.lt31 hiq with rfl | rfl | rfl | rfl | rfl | rfl | rfl | rfl | rfl | rfl | rfl | rfl | rfl | rfl | rfl | rfl | rfl | rfl | rfl | rfl | rfl | rfl | rfl | rfl | rfl | rfl | rfl | rfl | rfl | rfl | rfl
  all_goals (cases hoq; cases hpq)
  rotate_left 29
  ·refine Reg.D.cc (g := 30) (args := #[.slice A14 2 c14, .slice none 0 0]) hB (by go_simp; try rfl) ?_
   exact HF0.out W (below_step HB7.out hB)
  rotate_right 29
  rotate_left 24
  ·refine Reg.D.cc (g := 30) (args := #[.slice A14 2 c14, .slice (some ⟨g17, 0, none⟩) 2 2]) hB (by go_simp; try rfl) ?_
   exact HF1.out W (below_step HB7.out hB)
  rotate_right 24
  rotate_left 19
  ·refine Reg.D.cc (g := 27) (args := #[.slice A14 2 c14, .agg #[.int .i64 0, .int .i64 0, .int .i64 0, .string (⟨#[]⟩ : ByteArray), .slice none 0 0]]) hB (by go_simp; try rfl) ?_
   exact HV0.out W (below_step HB7.out hB)
  rotate_right 19
  rotate_left 13
  ·refine Reg.D.cc (g := 27) (args := #[.slice A14 2 c14, .agg #[.int .i64 6, .int .i64 0, .int .i64 0, .string (⟨#[44]⟩ : ByteArray), .slice (some ⟨g28, 0, none⟩) 2 2]]) hB (by go_simp; try rfl) ?_
   exact HVB.out W (below_step HB7.out hB)
  rotate_right 13
  rotate_left 7
  ·refine Reg.D.cc (g := 27) (args := #[.slice A14 2 c14, .agg #[.int .i64 3, .int .i64 0, .int .i64 1, .string (⟨#[]⟩ : ByteArray), .slice none 0 0]]) hB (by go_simp; try rfl) ?_
   exact HVW.out W (below_step HB7.out hB)
  rotate_right 7
  rotate_left 2
  ·refine Reg.D.cc (g := 27) (args := #[.slice A14 2 c14, .agg #[.int .i64 2, .int .i64 0, .int .i64 1, .string (⟨#[]⟩ : ByteArray), .slice none 0 0]]) hB (by go_simp; try rfl) ?_
   exact HVS.out W (below_step HB7.out hB)
  rotate_right 2
  all_goals (first | exact Reg.D.mv hB | skip)
  all_goals (refine Reg.D.cv hB ?_; go_simp; try (first | done | rfl | (simp; done) | (intro h; omega)))
 intro ρ W8 S hB hft hap hΦ
 simp only [Reg.SV, Reg.SF, Nat.reduceAdd]
 have HX := Aside0.mk (HX.out.call hB)
 replace RA := Aside0.mk (Kd.R_below RA.out hB)
 replace HB7 := Aside0.mk (below_step HB7.out hB)
 clear hΦ hft hap 
 go_upto_region 10 with (fail)
 try simp only [Reg.SF]
 refine Reg.det [Reg.k 61 (.agg #[.int .i64 2, .int .i64 0, .int .i64 1, .string (⟨#[]⟩ : ByteArray), .slice none 0 0]), Reg.k 62 (.slice (some ⟨g17, 0, none⟩) 2 2), Reg.k 63 (.agg #[.int .i64 2, .int .i64 12300000, .string (⟨#[]⟩ : ByteArray)]), Reg.k 64 (.agg #[.int .i64 2, .int .i64 12300000, .string (⟨#[]⟩ : ByteArray)]), Reg.k 65 (.bool false), Reg.k 66 (.bool false), Reg.k 67 (.agg #[.int .i64 3, .int .i64 0, .int .i64 1, .string (⟨#[]⟩ : ByteArray), .slice none 0 0]), Reg.k 68 (.slice (some ⟨g17, 0, none⟩) 2 2), Reg.k 69 (.agg #[.int .i64 3, .int .i64 0, .string (⟨#[49, 50, 46, 51]⟩ : ByteArray)]), Reg.k 70 (.agg #[.int .i64 3, .int .i64 0, .string (⟨#[49, 50, 46, 51]⟩ : ByteArray)]), Reg.k 71 (.bool false), Reg.k 72 (.bool false), Reg.k 73 (.bool false), Reg.k 74 (.agg #[.int .i64 4, .int .i64 0, .int .i64 0, .string (⟨#[32]⟩ : ByteArray), .slice (some ⟨g21, 0, none⟩) 1 1]), Reg.k 75 (.slice (some ⟨g17, 0, none⟩) 2 2), Reg.k 76 (.agg #[.int .i64 3, .int .i64 0, .string (⟨#[97, 110, 110]⟩ : ByteArray)]), Reg.k 77 (.agg #[.int .i64 3, .int .i64 0, .string (⟨#[97, 110, 110]⟩ : ByteArray)]), Reg.k 78 (.bool false), Reg.k 79 (.bool false), Reg.k 80 (.bool false), Reg.k 81 (.agg #[.int .i64 5, .int .i64 0, .int .i64 0, .string (⟨#[32]⟩ : ByteArray), .slice (some ⟨g21, 0, none⟩) 1 1]), Reg.k 82 (.slice (some ⟨g17, 0, none⟩) 2 2), Reg.k 83 (.agg #[.int .i64 3, .int .i64 0, .string (⟨#[108, 101, 101]⟩ : ByteArray)]), Reg.k 84 (.agg #[.int .i64 3, .int .i64 0, .string (⟨#[108, 101, 101]⟩ : ByteArray)]), Reg.k 85 (.bool false), Reg.k 86 (.bool false), Reg.k 87 (.bool false), Reg.k 88 (.agg #[.int .i64 6, .int .i64 0, .int .i64 0, .string (⟨#[44]⟩ : ByteArray), .slice (some ⟨g28, 0, none⟩) 2 2]), Reg.k 89 (.slice (some ⟨g17, 0, none⟩) 2 2), Reg.k 90 (.agg #[.int .i64 3, .int .i64 0, .string (⟨#[97, 110, 110, 44, 108, 101, 101]⟩ : ByteArray)]), Reg.k 91 (.agg #[.int .i64 3, .int .i64 0, .string (⟨#[97, 110, 110, 44, 108, 101, 101]⟩ : ByteArray)]), Reg.k 92 (.bool false), Reg.k 93 (.bool false)] [] 211 rfl (by kernel_rfl) (by kernel_rfl) ?s12 ?_
 case s12 =>
  intro iq oq pq hiq hoq hpq ρ ev W S hE hO ec ef hB hft hΦ
  have e2 : ev (.tmp 2) = .slice (some ⟨g17, 0, none⟩) 2 2 := hO 2 rfl
  have e3 : ev (.tmp 3) = .pointer (some ⟨g3, 0, none⟩) := hO 3 rfl
  have e4 : ev (.tmp 4) = .pointer (some ⟨g4, 0, none⟩) := hO 4 rfl
  have e6 : ev (.tmp 6) = .pointer (some ⟨g6, 0, none⟩) := hO 6 rfl
  have e7 : ev (.tmp 7) = .pointer (some ⟨g7, 0, none⟩) := hO 7 rfl
  have e8 : ev (.tmp 8) = .pointer (some ⟨g8, 0, none⟩) := hO 8 rfl
  have mg3_0 := pw_cell_below hB (HX.out.cell 6 0 rfl rfl : _ = some (.int .i64 2 : Value))
  have mg3_1 := pw_cell_below hB (HX.out.cell 6 1 rfl rfl : _ = some (.int .i64 0 : Value))
  have mg3_2 := pw_cell_below hB (HX.out.cell 6 2 rfl rfl : _ = some (.int .i64 1 : Value))
  have mg3_3 := pw_cell_below hB (HX.out.cell 6 3 rfl rfl : _ = some (.string (⟨#[]⟩ : ByteArray) : Value))
  have mg3_4 := pw_cell_below hB (HX.out.cell 6 4 rfl rfl : _ = some (.slice none 0 0 : Value))
  have mg4_0 := pw_cell_below hB (HX.out.cell 5 0 rfl rfl : _ = some (.int .i64 3 : Value))
  have mg4_1 := pw_cell_below hB (HX.out.cell 5 1 rfl rfl : _ = some (.int .i64 0 : Value))
  have mg4_2 := pw_cell_below hB (HX.out.cell 5 2 rfl rfl : _ = some (.int .i64 1 : Value))
  have mg4_3 := pw_cell_below hB (HX.out.cell 5 3 rfl rfl : _ = some (.string (⟨#[]⟩ : ByteArray) : Value))
  have mg4_4 := pw_cell_below hB (HX.out.cell 5 4 rfl rfl : _ = some (.slice none 0 0 : Value))
  have mg6_0 := pw_cell_below hB (HX.out.cell 3 0 rfl rfl : _ = some (.int .i64 4 : Value))
  have mg6_1 := pw_cell_below hB (HX.out.cell 3 1 rfl rfl : _ = some (.int .i64 0 : Value))
  have mg6_2 := pw_cell_below hB (HX.out.cell 3 2 rfl rfl : _ = some (.int .i64 0 : Value))
  have mg6_3 := pw_cell_below hB (HX.out.cell 3 3 rfl rfl : _ = some (.string (⟨#[32]⟩ : ByteArray) : Value))
  have mg6_4 := pw_cell_below hB (HX.out.cell 3 4 rfl rfl : _ = some (.slice (some ⟨g21, 0, none⟩) 1 1 : Value))
  have mg7_0 := pw_cell_below hB (HX.out.cell 2 0 rfl rfl : _ = some (.int .i64 5 : Value))
  have mg7_1 := pw_cell_below hB (HX.out.cell 2 1 rfl rfl : _ = some (.int .i64 0 : Value))
  have mg7_2 := pw_cell_below hB (HX.out.cell 2 2 rfl rfl : _ = some (.int .i64 0 : Value))
  have mg7_3 := pw_cell_below hB (HX.out.cell 2 3 rfl rfl : _ = some (.string (⟨#[32]⟩ : ByteArray) : Value))
  have mg7_4 := pw_cell_below hB (HX.out.cell 2 4 rfl rfl : _ = some (.slice (some ⟨g21, 0, none⟩) 1 1 : Value))
  have mg8_0 := pw_cell_below hB (HX.out.cell 0 0 rfl rfl : _ = some (.int .i64 6 : Value))
  have mg8_1 := pw_cell_below hB (HX.out.cell 0 1 rfl rfl : _ = some (.int .i64 0 : Value))
  have mg8_2 := pw_cell_below hB (HX.out.cell 0 2 rfl rfl : _ = some (.int .i64 0 : Value))
  have mg8_3 := pw_cell_below hB (HX.out.cell 0 3 rfl rfl : _ = some (.string (⟨#[44]⟩ : ByteArray) : Value))
  have mg8_4 := pw_cell_below hB (HX.out.cell 0 4 rfl rfl : _ = some (.slice (some ⟨g28, 0, none⟩) 2 2 : Value))
  simp only [Reg.SV] at hE
  obtain ⟨e61, e62, e63, e64, e65, e66, e67, e68, e69, e70, e71, e72, e73, e74, e75, e76, e77, e78, e79, e80, e81, e82, e83, e84, e85, e86, e87, e88, e89, e90, e91, e92, e93, _⟩ := hE
  rcases Reg.lt33 hiq with rfl | rfl | rfl | rfl | rfl | rfl | rfl | rfl | rfl | rfl | rfl | rfl | rfl | rfl | rfl | rfl | rfl | rfl | rfl | rfl | rfl | rfl | rfl | rfl | rfl | rfl | rfl | rfl | rfl | rfl | rfl | rfl | rfl
  all_goals (cases hoq; cases hpq)
  rotate_left 30
  ·refine Reg.D.cc (g := 29) (args := #[.string (⟨#[97, 110, 110, 44, 108, 101, 101]⟩ : ByteArray)]) hB (by go_simp; try rfl) ?_
   exact chapmanref16_Texted.calls (⟨#[97, 110, 110, 44, 108, 101, 101]⟩ : ByteArray) 3 0 (⟨#[97, 110, 110, 44, 108, 101, 101]⟩ : ByteArray) W rfl
  rotate_right 30
  rotate_left 29
  ·refine Reg.D.cc (g := 12) (args := #[.agg #[.int .i64 6, .int .i64 0, .int .i64 0, .string (⟨#[44]⟩ : ByteArray), .slice (some ⟨g28, 0, none⟩) 2 2], .slice (some ⟨g17, 0, none⟩) 2 2]) hB (by go_simp; try rfl) ?_
   exact HSB.out W (below_step HB7.out hB)
  rotate_right 29
  rotate_left 23
  ·refine Reg.D.cc (g := 29) (args := #[.string (⟨#[108, 101, 101]⟩ : ByteArray)]) hB (by go_simp; try rfl) ?_
   exact chapmanref16_Texted.calls (⟨#[108, 101, 101]⟩ : ByteArray) 3 0 (⟨#[108, 101, 101]⟩ : ByteArray) W rfl
  rotate_right 23
  rotate_left 22
  ·refine Reg.D.cc (g := 12) (args := #[.agg #[.int .i64 5, .int .i64 0, .int .i64 0, .string (⟨#[32]⟩ : ByteArray), .slice (some ⟨g21, 0, none⟩) 1 1], .slice (some ⟨g17, 0, none⟩) 2 2]) hB (by go_simp; try rfl) ?_
   exact HSR.out W (below_step HB7.out hB)
  rotate_right 22
  rotate_left 16
  ·refine Reg.D.cc (g := 29) (args := #[.string (⟨#[97, 110, 110]⟩ : ByteArray)]) hB (by go_simp; try rfl) ?_
   exact chapmanref16_Texted.calls (⟨#[97, 110, 110]⟩ : ByteArray) 3 0 (⟨#[97, 110, 110]⟩ : ByteArray) W rfl
  rotate_right 16
  rotate_left 15
  ·refine Reg.D.cc (g := 12) (args := #[.agg #[.int .i64 4, .int .i64 0, .int .i64 0, .string (⟨#[32]⟩ : ByteArray), .slice (some ⟨g21, 0, none⟩) 1 1], .slice (some ⟨g17, 0, none⟩) 2 2]) hB (by go_simp; try rfl) ?_
   exact HSF.out W (below_step HB7.out hB)
  rotate_right 15
  rotate_left 9
  ·refine Reg.D.cc (g := 29) (args := #[.string (⟨#[49, 50, 46, 51]⟩ : ByteArray)]) hB (by go_simp; try rfl) ?_
   exact chapmanref16_Texted.calls (⟨#[49, 50, 46, 51]⟩ : ByteArray) 3 0 (⟨#[49, 50, 46, 51]⟩ : ByteArray) W rfl
  rotate_right 9
  rotate_left 8
  ·refine Reg.D.cc (g := 12) (args := #[.agg #[.int .i64 3, .int .i64 0, .int .i64 1, .string (⟨#[]⟩ : ByteArray), .slice none 0 0], .slice (some ⟨g17, 0, none⟩) 2 2]) hB (by go_simp; try rfl) ?_
   exact HSW.out W (below_step HB7.out hB)
  rotate_right 8
  rotate_left 2
  ·refine Reg.D.cc (g := 12) (args := #[.agg #[.int .i64 2, .int .i64 0, .int .i64 1, .string (⟨#[]⟩ : ByteArray), .slice none 0 0], .slice (some ⟨g17, 0, none⟩) 2 2]) hB (by go_simp; try rfl) ?_
   exact HSS.out W (below_step HB7.out hB)
  rotate_right 2
  all_goals (first | exact Reg.D.mv hB | skip)
  all_goals (refine Reg.D.cv hB ?_; go_simp; try (first | done | rfl | (simp; done) | (intro h; omega)))
 intro ρ W10 S hB hft hap hΦ
 simp only [Reg.SV, Reg.SF, Nat.reduceAdd]
 have HX := Aside0.mk (HX.out.call hB)
 replace RA := Aside0.mk (Kd.R_below RA.out hB)
 replace HB7 := Aside0.mk (below_step HB7.out hB)
 clear hΦ hft hap 
 go_upto_region 12 with (fail)
 try simp only [Reg.SF]
 refine Reg.det [Reg.k 94 (.slice A14 2 c14), Reg.k 95 (.agg #[.int .i64 2, .int .i64 0, .int .i64 1, .string (⟨#[]⟩ : ByteArray), .slice none 0 0]), Reg.k 96 (.slice (some ⟨g17, 0, none⟩) 2 2), Reg.k 97 (.agg #[.int .i64 2, .int .i64 12300000, .string (⟨#[]⟩ : ByteArray)]), Reg.k 98 (.agg #[.slice (some ⟨g17, 0, none⟩) 2 2, .int .i64 2, .int .i64 12300000, .string (⟨#[]⟩ : ByteArray)]), (some 99, gotDv 99 (some ⟨g17, 0, none⟩) 2 exC la), (some 9, Reg.Dv.box 9 36 (fun _ => #[.slice none 0 0, .int .i64 0]) [] true), (none, Reg.Dv.box 9 36 (fun l => (l.headD undef).cells) [99] false)] [(6, 7)] 211 rfl (by kernel_rfl) (by kernel_rfl) ?s13 ?_
 case s13 =>
  intro iq oq pq hiq hoq hpq ρ ev W S hE hO ec ef hB hft hΦ
  have e1 : ev (.tmp 1) = .slice A14 2 c14 := hO 1 rfl
  have e2 : ev (.tmp 2) = .slice (some ⟨g17, 0, none⟩) 2 2 := hO 2 rfl
  have e3 : ev (.tmp 3) = .pointer (some ⟨g3, 0, none⟩) := hO 3 rfl
  have mg3_0 := pw_cell_below hB (HX.out.cell 6 0 rfl rfl : _ = some (.int .i64 2 : Value))
  have mg3_1 := pw_cell_below hB (HX.out.cell 6 1 rfl rfl : _ = some (.int .i64 0 : Value))
  have mg3_2 := pw_cell_below hB (HX.out.cell 6 2 rfl rfl : _ = some (.int .i64 1 : Value))
  have mg3_3 := pw_cell_below hB (HX.out.cell 6 3 rfl rfl : _ = some (.string (⟨#[]⟩ : ByteArray) : Value))
  have mg3_4 := pw_cell_below hB (HX.out.cell 6 4 rfl rfl : _ = some (.slice none 0 0 : Value))
  simp only [Reg.SV, val_got] at hE
  obtain ⟨e94, e95, e96, e97, e98, e99, e9, _⟩ := hE
  rcases Reg.lt8 hiq with rfl | rfl | rfl | rfl | rfl | rfl | rfl | rfl
  all_goals (cases hoq; cases hpq)
  rotate_left 7
  ·obtain ⟨A99, c99, h99, _⟩ := hΦ 5 _ rfl rfl rfl
   replace h99 : ρ 99 = .agg #[.slice A99 2 c99, .int .i64 0] := h99
   exact Reg.DStep.fill (us := [99]) (cs := fun l => (l.headD undef).cells) 6 (by decide) 36 (.tmp 9) (.tmp 99) rfl (by first | exact .inl rfl | exact .inr ⟨_, _, _, rfl, rfl, (by assumption)⟩) hB e9 (by rw [e99]; show ρ 99 = .agg (Value.cells (ρ 99)); rw [h99]; rfl) (hΦ 6 _ rfl rfl rfl) (by show _ = some (Value.cells (ρ 99)).size; rw [h99]; exact info36s) (by show _ = (Value.cells (ρ 99)).size; rw [h99]; rfl) (by show ((Value.cells (ρ 99)).toList.all _) = true; rw [h99]; rfl)
  rotate_right 7
  rotate_left 6
  ·refine Reg.D.box hB ?_
   go_simp
   try rfl
  rotate_right 6
  rotate_left 5
  ·refine Reg.D.call (g := 11) (args := #[.slice A14 2 c14, .agg #[.int .i64 2, .int .i64 0, .int .i64 1, .string (⟨#[]⟩ : ByteArray), .slice none 0 0], .agg #[.slice (some ⟨g17, 0, none⟩) 2 2, .int .i64 2, .int .i64 12300000, .string (⟨#[]⟩ : ByteArray)]]) (by go_simp; try rfl) ?_
   exact got_step hB (HPa.out W (below_step HB7.out hB))
  rotate_right 5
  all_goals (first | exact Reg.D.mv hB | skip)
  all_goals (refine Reg.D.cv hB ?_; go_simp; try (first | done | rfl | (simp; done) | (intro h; omega)))
 intro ρ W12 S hB hft hap hΦ
 simp only [Reg.SV, val_got, Reg.SF, Nat.reduceAdd]
 obtain ⟨A99, c99, e99, q99⟩ := hΦ 5 _ rfl rfl
 replace e99 : ρ 99 = .agg #[.slice A99 2 c99, .int .i64 0] := e99
 have hr99 : Row2 (some ⟨g17, 0, none⟩) 2 exC W12 w.heap.size A99 c99 la := q99.imp id (fun h => Kd.R_mono (Kd.R_lower h HX.out.below.size) (fun _ _ => trivial))
 obtain ⟨g9, e9, s9, hg9, _, b9⟩ := hΦ 7 _ rfl rfl
 replace e9 : ρ 9 = .pointer (some ⟨g9, 0, none⟩) := e9
 replace b9 : W12.heap[g9]? = some (.cells (Value.cells (ρ 99)) 36 (0, 0)) := b9
 rw [e99] at b9
 try simp only [e99, e9]
 replace b9 : W12.heap[g9]? = some (.cells #[.slice A99 2 c99, .int .i64 0] 36 (0, 0)) := b9
 have HX := Aside0.mk (HX.out.join (Bxs.one hB hg9 b9))
 replace RA := Aside0.mk (Kd.R_below RA.out hB)
 replace HB7 := Aside0.mk (below_step HB7.out hB)
 clear hΦ hft hap 
 have HRa := Aside0.mk (hr99)
 go_upto_region 13 with (fail)
 try simp only [Reg.SF]
 refine Reg.det [Reg.k 100 (.slice A14 2 c14), Reg.k 101 (.agg #[.int .i64 2, .int .i64 0, .int .i64 1, .string (⟨#[]⟩ : ByteArray), .slice none 0 0]), Reg.k 102 (.slice (some ⟨g17, 0, none⟩) 2 2), Reg.k 103 (.agg #[.int .i64 2, .int .i64 12400000, .string (⟨#[]⟩ : ByteArray)]), Reg.k 104 (.agg #[.slice (some ⟨g17, 0, none⟩) 2 2, .int .i64 2, .int .i64 12400000, .string (⟨#[]⟩ : ByteArray)]), (some 105, gotDv 105 (some ⟨g17, 0, none⟩) 2 exC lb), (some 10, Reg.Dv.box 10 36 (fun _ => #[.slice none 0 0, .int .i64 0]) [] true), (none, Reg.Dv.box 10 36 (fun l => (l.headD undef).cells) [105] false)] [(6, 7)] 211 rfl (by kernel_rfl) (by kernel_rfl) ?s14 ?_
 case s14 =>
  intro iq oq pq hiq hoq hpq ρ ev W S hE hO ec ef hB hft hΦ
  have e1 : ev (.tmp 1) = .slice A14 2 c14 := hO 1 rfl
  have e2 : ev (.tmp 2) = .slice (some ⟨g17, 0, none⟩) 2 2 := hO 2 rfl
  have e3 : ev (.tmp 3) = .pointer (some ⟨g3, 0, none⟩) := hO 3 rfl
  have mg3_0 := pw_cell_below hB (HX.out.cell 7 0 rfl rfl : _ = some (.int .i64 2 : Value))
  have mg3_1 := pw_cell_below hB (HX.out.cell 7 1 rfl rfl : _ = some (.int .i64 0 : Value))
  have mg3_2 := pw_cell_below hB (HX.out.cell 7 2 rfl rfl : _ = some (.int .i64 1 : Value))
  have mg3_3 := pw_cell_below hB (HX.out.cell 7 3 rfl rfl : _ = some (.string (⟨#[]⟩ : ByteArray) : Value))
  have mg3_4 := pw_cell_below hB (HX.out.cell 7 4 rfl rfl : _ = some (.slice none 0 0 : Value))
  simp only [Reg.SV, val_got] at hE
  obtain ⟨e100, e101, e102, e103, e104, e105, e10, _⟩ := hE
  rcases Reg.lt8 hiq with rfl | rfl | rfl | rfl | rfl | rfl | rfl | rfl
  all_goals (cases hoq; cases hpq)
  rotate_left 7
  ·obtain ⟨A105, c105, h105, _⟩ := hΦ 5 _ rfl rfl rfl
   replace h105 : ρ 105 = .agg #[.slice A105 2 c105, .int .i64 0] := h105
   exact Reg.DStep.fill (us := [105]) (cs := fun l => (l.headD undef).cells) 6 (by decide) 36 (.tmp 10) (.tmp 105) rfl (by first | exact .inl rfl | exact .inr ⟨_, _, _, rfl, rfl, (by assumption)⟩) hB e10 (by rw [e105]; show ρ 105 = .agg (Value.cells (ρ 105)); rw [h105]; rfl) (hΦ 6 _ rfl rfl rfl) (by show _ = some (Value.cells (ρ 105)).size; rw [h105]; exact info36s) (by show _ = (Value.cells (ρ 105)).size; rw [h105]; rfl) (by show ((Value.cells (ρ 105)).toList.all _) = true; rw [h105]; rfl)
  rotate_right 7
  rotate_left 6
  ·refine Reg.D.box hB ?_
   go_simp
   try rfl
  rotate_right 6
  rotate_left 5
  ·refine Reg.D.call (g := 11) (args := #[.slice A14 2 c14, .agg #[.int .i64 2, .int .i64 0, .int .i64 1, .string (⟨#[]⟩ : ByteArray), .slice none 0 0], .agg #[.slice (some ⟨g17, 0, none⟩) 2 2, .int .i64 2, .int .i64 12400000, .string (⟨#[]⟩ : ByteArray)]]) (by go_simp; try rfl) ?_
   exact got_step hB (HPb.out W (below_step HB7.out hB))
  rotate_right 5
  all_goals (first | exact Reg.D.mv hB | skip)
  all_goals (refine Reg.D.cv hB ?_; go_simp; try (first | done | rfl | (simp; done) | (intro h; omega)))
 intro ρ W13 S hB hft hap hΦ
 simp only [Reg.SV, val_got, Reg.SF, Nat.reduceAdd]
 obtain ⟨A105, c105, e105, q105⟩ := hΦ 5 _ rfl rfl
 replace e105 : ρ 105 = .agg #[.slice A105 2 c105, .int .i64 0] := e105
 have hr105 : Row2 (some ⟨g17, 0, none⟩) 2 exC W13 w.heap.size A105 c105 lb := q105.imp id (fun h => Kd.R_mono (Kd.R_lower h HX.out.below.size) (fun _ _ => trivial))
 obtain ⟨g10, e10, s10, hg10, _, b10⟩ := hΦ 7 _ rfl rfl
 replace e10 : ρ 10 = .pointer (some ⟨g10, 0, none⟩) := e10
 replace b10 : W13.heap[g10]? = some (.cells (Value.cells (ρ 105)) 36 (0, 0)) := b10
 rw [e105] at b10
 try simp only [e105, e10]
 replace b10 : W13.heap[g10]? = some (.cells #[.slice A105 2 c105, .int .i64 0] 36 (0, 0)) := b10
 have HX := Aside0.mk (HX.out.join (Bxs.one hB hg10 b10))
 replace RA := Aside0.mk (Kd.R_below RA.out hB)
 replace HB7 := Aside0.mk (below_step HB7.out hB)
 replace HRa := Aside0.mk (Row2.below HRa.out hB)
 clear hΦ hft hap 
 have HRb := Aside0.mk (hr105)
 go_upto_region 14 with (fail)
 try simp only [Reg.SF]
 refine Reg.det [Reg.k 106 (.slice A14 2 c14), Reg.k 107 (.agg #[.int .i64 4, .int .i64 0, .int .i64 0, .string (⟨#[32]⟩ : ByteArray), .slice (some ⟨g21, 0, none⟩) 1 1]), Reg.k 108 (.slice (some ⟨g17, 0, none⟩) 2 2), Reg.k 109 (.agg #[.int .i64 3, .int .i64 0, .string (⟨#[98, 111, 98]⟩ : ByteArray)]), Reg.k 110 (.agg #[.slice (some ⟨g17, 0, none⟩) 2 2, .int .i64 3, .int .i64 0, .string (⟨#[98, 111, 98]⟩ : ByteArray)]), (some 111, gotDv 111 (some ⟨g17, 0, none⟩) 2 exC lc), (some 11, Reg.Dv.box 11 36 (fun _ => #[.slice none 0 0, .int .i64 0]) [] true), (none, Reg.Dv.box 11 36 (fun l => (l.headD undef).cells) [111] false)] [(6, 7)] 211 rfl (by kernel_rfl) (by kernel_rfl) ?s15 ?_
 case s15 =>
  intro iq oq pq hiq hoq hpq ρ ev W S hE hO ec ef hB hft hΦ
  have e1 : ev (.tmp 1) = .slice A14 2 c14 := hO 1 rfl
  have e2 : ev (.tmp 2) = .slice (some ⟨g17, 0, none⟩) 2 2 := hO 2 rfl
  have e6 : ev (.tmp 6) = .pointer (some ⟨g6, 0, none⟩) := hO 6 rfl
  have mg6_0 := pw_cell_below hB (HX.out.cell 5 0 rfl rfl : _ = some (.int .i64 4 : Value))
  have mg6_1 := pw_cell_below hB (HX.out.cell 5 1 rfl rfl : _ = some (.int .i64 0 : Value))
  have mg6_2 := pw_cell_below hB (HX.out.cell 5 2 rfl rfl : _ = some (.int .i64 0 : Value))
  have mg6_3 := pw_cell_below hB (HX.out.cell 5 3 rfl rfl : _ = some (.string (⟨#[32]⟩ : ByteArray) : Value))
  have mg6_4 := pw_cell_below hB (HX.out.cell 5 4 rfl rfl : _ = some (.slice (some ⟨g21, 0, none⟩) 1 1 : Value))
  simp only [Reg.SV, val_got] at hE
  obtain ⟨e106, e107, e108, e109, e110, e111, e11, _⟩ := hE
  rcases Reg.lt8 hiq with rfl | rfl | rfl | rfl | rfl | rfl | rfl | rfl
  all_goals (cases hoq; cases hpq)
  rotate_left 7
  ·obtain ⟨A111, c111, h111, _⟩ := hΦ 5 _ rfl rfl rfl
   replace h111 : ρ 111 = .agg #[.slice A111 2 c111, .int .i64 0] := h111
   exact Reg.DStep.fill (us := [111]) (cs := fun l => (l.headD undef).cells) 6 (by decide) 36 (.tmp 11) (.tmp 111) rfl (by first | exact .inl rfl | exact .inr ⟨_, _, _, rfl, rfl, (by assumption)⟩) hB e11 (by rw [e111]; show ρ 111 = .agg (Value.cells (ρ 111)); rw [h111]; rfl) (hΦ 6 _ rfl rfl rfl) (by show _ = some (Value.cells (ρ 111)).size; rw [h111]; exact info36s) (by show _ = (Value.cells (ρ 111)).size; rw [h111]; rfl) (by show ((Value.cells (ρ 111)).toList.all _) = true; rw [h111]; rfl)
  rotate_right 7
  rotate_left 6
  ·refine Reg.D.box hB ?_
   go_simp
   try rfl
  rotate_right 6
  rotate_left 5
  ·refine Reg.D.call (g := 11) (args := #[.slice A14 2 c14, .agg #[.int .i64 4, .int .i64 0, .int .i64 0, .string (⟨#[32]⟩ : ByteArray), .slice (some ⟨g21, 0, none⟩) 1 1], .agg #[.slice (some ⟨g17, 0, none⟩) 2 2, .int .i64 3, .int .i64 0, .string (⟨#[98, 111, 98]⟩ : ByteArray)]]) (by go_simp; try rfl) ?_
   exact got_step hB (HPc.out W (below_step HB7.out hB))
  rotate_right 5
  rotate_left 3
  ·refine Reg.D.cc (g := 29) (args := #[.string (⟨#[98, 111, 98]⟩ : ByteArray)]) hB (by go_simp; try rfl) ?_
   exact chapmanref16_Texted.calls (⟨#[98, 111, 98]⟩ : ByteArray) 3 0 (⟨#[98, 111, 98]⟩ : ByteArray) W rfl
  rotate_right 3
  all_goals (first | exact Reg.D.mv hB | skip)
  all_goals (refine Reg.D.cv hB ?_; go_simp; try (first | done | rfl | (simp; done) | (intro h; omega)))
 intro ρ W14 S hB hft hap hΦ
 simp only [Reg.SV, val_got, Reg.SF, Nat.reduceAdd]
 obtain ⟨A111, c111, e111, q111⟩ := hΦ 5 _ rfl rfl
 replace e111 : ρ 111 = .agg #[.slice A111 2 c111, .int .i64 0] := e111
 have hr111 : Row2 (some ⟨g17, 0, none⟩) 2 exC W14 w.heap.size A111 c111 lc := q111.imp id (fun h => Kd.R_mono (Kd.R_lower h HX.out.below.size) (fun _ _ => trivial))
 obtain ⟨g11, e11, s11, hg11, _, b11⟩ := hΦ 7 _ rfl rfl
 replace e11 : ρ 11 = .pointer (some ⟨g11, 0, none⟩) := e11
 replace b11 : W14.heap[g11]? = some (.cells (Value.cells (ρ 111)) 36 (0, 0)) := b11
 rw [e111] at b11
 try simp only [e111, e11]
 replace b11 : W14.heap[g11]? = some (.cells #[.slice A111 2 c111, .int .i64 0] 36 (0, 0)) := b11
 have HX := Aside0.mk (HX.out.join (Bxs.one hB hg11 b11))
 replace RA := Aside0.mk (Kd.R_below RA.out hB)
 replace HB7 := Aside0.mk (below_step HB7.out hB)
 replace HRa := Aside0.mk (Row2.below HRa.out hB)
 replace HRb := Aside0.mk (Row2.below HRb.out hB)
 clear hΦ hft hap 
 have HRc := Aside0.mk (hr111)
 go_upto_region 15 with (fail)
 try simp only [Reg.SF]
 refine Reg.det [Reg.k 112 (.slice A14 2 c14), Reg.k 113 (.agg #[.int .i64 5, .int .i64 0, .int .i64 0, .string (⟨#[32]⟩ : ByteArray), .slice (some ⟨g21, 0, none⟩) 1 1]), Reg.k 114 (.slice (some ⟨g17, 0, none⟩) 2 2), Reg.k 115 (.agg #[.slice (some ⟨g17, 0, none⟩) 2 2, .int .i64 0, .int .i64 0, .string (⟨#[]⟩ : ByteArray)]), (some 116, gotDv 116 (some ⟨g17, 0, none⟩) 2 exC ld), (some 12, Reg.Dv.box 12 36 (fun _ => #[.slice none 0 0, .int .i64 0]) [] true), (none, Reg.Dv.box 12 36 (fun l => (l.headD undef).cells) [116] false)] [(5, 6)] 211 rfl (by kernel_rfl) (by kernel_rfl) ?s16 ?_
 case s16 =>
  intro iq oq pq hiq hoq hpq ρ ev W S hE hO ec ef hB hft hΦ
  have e1 : ev (.tmp 1) = .slice A14 2 c14 := hO 1 rfl
  have e2 : ev (.tmp 2) = .slice (some ⟨g17, 0, none⟩) 2 2 := hO 2 rfl
  have e7 : ev (.tmp 7) = .pointer (some ⟨g7, 0, none⟩) := hO 7 rfl
  have mg7_0 := pw_cell_below hB (HX.out.cell 5 0 rfl rfl : _ = some (.int .i64 5 : Value))
  have mg7_1 := pw_cell_below hB (HX.out.cell 5 1 rfl rfl : _ = some (.int .i64 0 : Value))
  have mg7_2 := pw_cell_below hB (HX.out.cell 5 2 rfl rfl : _ = some (.int .i64 0 : Value))
  have mg7_3 := pw_cell_below hB (HX.out.cell 5 3 rfl rfl : _ = some (.string (⟨#[32]⟩ : ByteArray) : Value))
  have mg7_4 := pw_cell_below hB (HX.out.cell 5 4 rfl rfl : _ = some (.slice (some ⟨g21, 0, none⟩) 1 1 : Value))
  simp only [Reg.SV, val_got] at hE
  obtain ⟨e112, e113, e114, e115, e116, e12, _⟩ := hE
  rcases Reg.lt7 hiq with rfl | rfl | rfl | rfl | rfl | rfl | rfl
  all_goals (cases hoq; cases hpq)
  rotate_left 6
  ·obtain ⟨A116, c116, h116, _⟩ := hΦ 4 _ rfl rfl rfl
   replace h116 : ρ 116 = .agg #[.slice A116 2 c116, .int .i64 0] := h116
   exact Reg.DStep.fill (us := [116]) (cs := fun l => (l.headD undef).cells) 5 (by decide) 36 (.tmp 12) (.tmp 116) rfl (by first | exact .inl rfl | exact .inr ⟨_, _, _, rfl, rfl, (by assumption)⟩) hB e12 (by rw [e116]; show ρ 116 = .agg (Value.cells (ρ 116)); rw [h116]; rfl) (hΦ 5 _ rfl rfl rfl) (by show _ = some (Value.cells (ρ 116)).size; rw [h116]; exact info36s) (by show _ = (Value.cells (ρ 116)).size; rw [h116]; rfl) (by show ((Value.cells (ρ 116)).toList.all _) = true; rw [h116]; rfl)
  rotate_right 6
  rotate_left 5
  ·refine Reg.D.box hB ?_
   go_simp
   try rfl
  rotate_right 5
  rotate_left 4
  ·refine Reg.D.call (g := 11) (args := #[.slice A14 2 c14, .agg #[.int .i64 5, .int .i64 0, .int .i64 0, .string (⟨#[32]⟩ : ByteArray), .slice (some ⟨g21, 0, none⟩) 1 1], .agg #[.slice (some ⟨g17, 0, none⟩) 2 2, .int .i64 0, .int .i64 0, .string (⟨#[]⟩ : ByteArray)]]) (by go_simp; try rfl) ?_
   exact got_step hB (HPd.out W (below_step HB7.out hB))
  rotate_right 4
  all_goals (first | exact Reg.D.mv hB | skip)
  all_goals (refine Reg.D.cv hB ?_; go_simp; try (first | done | rfl | (simp; done) | (intro h; omega)))
 intro ρ W15 S hB hft hap hΦ
 simp only [Reg.SV, val_got, Reg.SF, Nat.reduceAdd]
 obtain ⟨A116, c116, e116, q116⟩ := hΦ 4 _ rfl rfl
 replace e116 : ρ 116 = .agg #[.slice A116 2 c116, .int .i64 0] := e116
 have hr116 : Row2 (some ⟨g17, 0, none⟩) 2 exC W15 w.heap.size A116 c116 ld := q116.imp id (fun h => Kd.R_mono (Kd.R_lower h HX.out.below.size) (fun _ _ => trivial))
 obtain ⟨g12, e12, s12, hg12, _, b12⟩ := hΦ 6 _ rfl rfl
 replace e12 : ρ 12 = .pointer (some ⟨g12, 0, none⟩) := e12
 replace b12 : W15.heap[g12]? = some (.cells (Value.cells (ρ 116)) 36 (0, 0)) := b12
 rw [e116] at b12
 try simp only [e116, e12]
 replace b12 : W15.heap[g12]? = some (.cells #[.slice A116 2 c116, .int .i64 0] 36 (0, 0)) := b12
 have HX := Aside0.mk (HX.out.join (Bxs.one hB hg12 b12))
 replace RA := Aside0.mk (Kd.R_below RA.out hB)
 replace HB7 := Aside0.mk (below_step HB7.out hB)
 replace HRa := Aside0.mk (Row2.below HRa.out hB)
 replace HRb := Aside0.mk (Row2.below HRb.out hB)
 replace HRc := Aside0.mk (Row2.below HRc.out hB)
 clear hΦ hft hap 
 have HRd := Aside0.mk (hr116)
 go_upto_region 16 with (fail)
 try simp only [Reg.SF]
 refine Reg.det [Reg.k 117 (.slice A14 2 c14), Reg.k 118 (.agg #[.int .i64 6, .int .i64 0, .int .i64 0, .string (⟨#[44]⟩ : ByteArray), .slice (some ⟨g28, 0, none⟩) 2 2]), Reg.k 119 (.slice (some ⟨g17, 0, none⟩) 2 2), Reg.k 120 (.agg #[.int .i64 3, .int .i64 0, .string (⟨#[98, 111, 98]⟩ : ByteArray)]), Reg.k 121 (.agg #[.slice (some ⟨g17, 0, none⟩) 2 2, .int .i64 3, .int .i64 0, .string (⟨#[98, 111, 98]⟩ : ByteArray)]), (some 122, gotDv 122 (some ⟨g17, 0, none⟩) 2 exC le), (some 13, Reg.Dv.box 13 36 (fun _ => #[.slice none 0 0, .int .i64 0]) [] true), (none, Reg.Dv.box 13 36 (fun l => (l.headD undef).cells) [122] false)] [(6, 7)] 211 rfl (by kernel_rfl) (by kernel_rfl) ?s17 ?_
 case s17 =>
  intro iq oq pq hiq hoq hpq ρ ev W S hE hO ec ef hB hft hΦ
  have e1 : ev (.tmp 1) = .slice A14 2 c14 := hO 1 rfl
  have e2 : ev (.tmp 2) = .slice (some ⟨g17, 0, none⟩) 2 2 := hO 2 rfl
  have e8 : ev (.tmp 8) = .pointer (some ⟨g8, 0, none⟩) := hO 8 rfl
  have mg8_0 := pw_cell_below hB (HX.out.cell 4 0 rfl rfl : _ = some (.int .i64 6 : Value))
  have mg8_1 := pw_cell_below hB (HX.out.cell 4 1 rfl rfl : _ = some (.int .i64 0 : Value))
  have mg8_2 := pw_cell_below hB (HX.out.cell 4 2 rfl rfl : _ = some (.int .i64 0 : Value))
  have mg8_3 := pw_cell_below hB (HX.out.cell 4 3 rfl rfl : _ = some (.string (⟨#[44]⟩ : ByteArray) : Value))
  have mg8_4 := pw_cell_below hB (HX.out.cell 4 4 rfl rfl : _ = some (.slice (some ⟨g28, 0, none⟩) 2 2 : Value))
  simp only [Reg.SV, val_got] at hE
  obtain ⟨e117, e118, e119, e120, e121, e122, e13, _⟩ := hE
  rcases Reg.lt8 hiq with rfl | rfl | rfl | rfl | rfl | rfl | rfl | rfl
  all_goals (cases hoq; cases hpq)
  rotate_left 7
  ·obtain ⟨A122, c122, h122, _⟩ := hΦ 5 _ rfl rfl rfl
   replace h122 : ρ 122 = .agg #[.slice A122 2 c122, .int .i64 0] := h122
   exact Reg.DStep.fill (us := [122]) (cs := fun l => (l.headD undef).cells) 6 (by decide) 36 (.tmp 13) (.tmp 122) rfl (by first | exact .inl rfl | exact .inr ⟨_, _, _, rfl, rfl, (by assumption)⟩) hB e13 (by rw [e122]; show ρ 122 = .agg (Value.cells (ρ 122)); rw [h122]; rfl) (hΦ 6 _ rfl rfl rfl) (by show _ = some (Value.cells (ρ 122)).size; rw [h122]; exact info36s) (by show _ = (Value.cells (ρ 122)).size; rw [h122]; rfl) (by show ((Value.cells (ρ 122)).toList.all _) = true; rw [h122]; rfl)
  rotate_right 7
  rotate_left 6
  ·refine Reg.D.box hB ?_
   go_simp
   try rfl
  rotate_right 6
  rotate_left 5
  ·refine Reg.D.call (g := 11) (args := #[.slice A14 2 c14, .agg #[.int .i64 6, .int .i64 0, .int .i64 0, .string (⟨#[44]⟩ : ByteArray), .slice (some ⟨g28, 0, none⟩) 2 2], .agg #[.slice (some ⟨g17, 0, none⟩) 2 2, .int .i64 3, .int .i64 0, .string (⟨#[98, 111, 98]⟩ : ByteArray)]]) (by go_simp; try rfl) ?_
   exact got_step hB (HPe.out W (below_step HB7.out hB))
  rotate_right 5
  rotate_left 3
  ·refine Reg.D.cc (g := 29) (args := #[.string (⟨#[98, 111, 98]⟩ : ByteArray)]) hB (by go_simp; try rfl) ?_
   exact chapmanref16_Texted.calls (⟨#[98, 111, 98]⟩ : ByteArray) 3 0 (⟨#[98, 111, 98]⟩ : ByteArray) W rfl
  rotate_right 3
  all_goals (first | exact Reg.D.mv hB | skip)
  all_goals (refine Reg.D.cv hB ?_; go_simp; try (first | done | rfl | (simp; done) | (intro h; omega)))
 intro ρ W16 S hB hft hap hΦ
 simp only [Reg.SV, val_got, Reg.SF, Nat.reduceAdd]
 obtain ⟨A122, c122, e122, q122⟩ := hΦ 5 _ rfl rfl
 replace e122 : ρ 122 = .agg #[.slice A122 2 c122, .int .i64 0] := e122
 have hr122 : Row2 (some ⟨g17, 0, none⟩) 2 exC W16 w.heap.size A122 c122 le := q122.imp id (fun h => Kd.R_mono (Kd.R_lower h HX.out.below.size) (fun _ _ => trivial))
 obtain ⟨g13, e13, s13, hg13, _, b13⟩ := hΦ 7 _ rfl rfl
 replace e13 : ρ 13 = .pointer (some ⟨g13, 0, none⟩) := e13
 replace b13 : W16.heap[g13]? = some (.cells (Value.cells (ρ 122)) 36 (0, 0)) := b13
 rw [e122] at b13
 try simp only [e122, e13]
 replace b13 : W16.heap[g13]? = some (.cells #[.slice A122 2 c122, .int .i64 0] 36 (0, 0)) := b13
 have HX := Aside0.mk (HX.out.join (Bxs.one hB hg13 b13))
 replace RA := Aside0.mk (Kd.R_below RA.out hB)
 replace HB7 := Aside0.mk (below_step HB7.out hB)
 replace HRa := Aside0.mk (Row2.below HRa.out hB)
 replace HRb := Aside0.mk (Row2.below HRb.out hB)
 replace HRc := Aside0.mk (Row2.below HRc.out hB)
 replace HRd := Aside0.mk (Row2.below HRd.out hB)
 clear hΦ hft hap 
 have HRe := Aside0.mk (hr122)
 go_upto_region 17 with (fail)
 try simp only [Reg.SF]
 refine Reg.det [Reg.k 123 (.pointer (some ⟨g10, 0, none⟩)), Reg.k 124 (.slice A105 2 c105), Reg.k 125 (.int .i64 2), Reg.k 126 (.bool false), Reg.k 127 (.bool false), Reg.k 128 (.pointer (some ⟨g11, 0, none⟩)), Reg.k 129 (.slice A111 2 c111), Reg.k 130 (.int .i64 2), Reg.k 131 (.bool false), Reg.k 132 (.bool false), Reg.k 133 (.bool false), Reg.k 134 (.pointer (some ⟨g12, 0, none⟩)), Reg.k 135 (.slice A116 2 c116), Reg.k 136 (.int .i64 2), Reg.k 137 (.bool false), Reg.k 138 (.bool false), Reg.k 139 (.bool false), Reg.k 140 (.pointer (some ⟨g13, 0, none⟩)), Reg.k 141 (.slice A122 2 c122), Reg.k 142 (.int .i64 2), Reg.k 143 (.bool false), Reg.k 144 (.bool false)] [] 211 rfl (by kernel_rfl) (by kernel_rfl) ?s18 ?_
 case s18 =>
  intro iq oq pq hiq hoq hpq ρ ev W S hE hO ec ef hB hft hΦ
  have e10 : ev (.tmp 10) = .pointer (some ⟨g10, 0, none⟩) := hO 10 rfl
  have e11 : ev (.tmp 11) = .pointer (some ⟨g11, 0, none⟩) := hO 11 rfl
  have e12 : ev (.tmp 12) = .pointer (some ⟨g12, 0, none⟩) := hO 12 rfl
  have e13 : ev (.tmp 13) = .pointer (some ⟨g13, 0, none⟩) := hO 13 rfl
  have mg10_0 := pw_cell_below hB (HX.out.cell 3 0 rfl rfl : _ = some (.slice A105 2 c105 : Value))
  have mg11_0 := pw_cell_below hB (HX.out.cell 2 0 rfl rfl : _ = some (.slice A111 2 c111 : Value))
  have mg12_0 := pw_cell_below hB (HX.out.cell 1 0 rfl rfl : _ = some (.slice A116 2 c116 : Value))
  have mg13_0 := pw_cell_below hB (HX.out.cell 0 0 rfl rfl : _ = some (.slice A122 2 c122 : Value))
  simp only [Reg.SV, val_got] at hE
  obtain ⟨e123, e124, e125, e126, e127, e128, e129, e130, e131, e132, e133, e134, e135, e136, e137, e138, e139, e140, e141, e142, e143, e144, _⟩ := hE
  rcases Reg.lt22 hiq with rfl | rfl | rfl | rfl | rfl | rfl | rfl | rfl | rfl | rfl | rfl | rfl | rfl | rfl | rfl | rfl | rfl | rfl | rfl | rfl | rfl | rfl
  all_goals (cases hoq; cases hpq)
  all_goals (first | exact Reg.D.mv hB | skip)
  all_goals (refine Reg.D.cv hB ?_; go_simp; try (first | done | rfl | (simp; done) | (intro h; omega)))
 intro ρ W17 S hB hft hap hΦ
 simp only [Reg.SV, val_got, Reg.SF, Nat.reduceAdd]
 have HX := Aside0.mk (HX.out.call hB)
 replace RA := Aside0.mk (Kd.R_below RA.out hB)
 replace HB7 := Aside0.mk (below_step HB7.out hB)
 replace HRa := Aside0.mk (Row2.below HRa.out hB)
 replace HRb := Aside0.mk (Row2.below HRb.out hB)
 replace HRc := Aside0.mk (Row2.below HRc.out hB)
 replace HRd := Aside0.mk (Row2.below HRd.out hB)
 replace HRe := Aside0.mk (Row2.below HRe.out hB)
 clear hΦ hft hap 
 have hc1 : Kd.C k39 W17 (some ⟨g17, 0, none⟩) 2 exC := Kd.C_below HC1'.out HB7.out
 have ha := HRa.out.has (Nat.le_refl 2) hc1
 obtain ⟨adb, eab, xb0, xb1, xb2⟩ := at_T39 (HRb.out.has (Nat.le_refl 2) hc1).2 0 (by decide) (by decide)
 cases eab
 obtain ⟨qb, hqb⟩ : ∃ q, adb.add (0 * 3) = q := ⟨_, rfl⟩
 replace xb0 : W17.cell? qb = some (.int .i64 2) := by rw [← hqb]; exact xb0
 replace xb1 : W17.cell? ⟨qb.block, qb.off + 1, none⟩ = some (.int .i64 12400000) := by rw [← hqb]; exact xb1
 replace xb2 : W17.cell? ⟨qb.block, qb.off + 2, none⟩ = some (.string (⟨#[]⟩ : ByteArray)) := by rw [← hqb]; exact xb2
 obtain ⟨adc, eac, xc0, xc1, xc2⟩ := at_T39 (HRc.out.has (Nat.le_refl 2) hc1).2 1 (by decide) (by decide)
 cases eac
 obtain ⟨qc, hqc⟩ : ∃ q, adc.add (1 * 3) = q := ⟨_, rfl⟩
 replace xc0 : W17.cell? qc = some (.int .i64 3) := by rw [← hqc]; exact xc0
 replace xc1 : W17.cell? ⟨qc.block, qc.off + 1, none⟩ = some (.int .i64 0) := by rw [← hqc]; exact xc1
 replace xc2 : W17.cell? ⟨qc.block, qc.off + 2, none⟩ = some (.string (⟨#[98, 111, 98, 32, 108, 101, 101]⟩ : ByteArray)) := by rw [← hqc]; exact xc2
 obtain ⟨add, ead, xd0, xd1, xd2⟩ := at_T39 (HRd.out.has (Nat.le_refl 2) hc1).2 1 (by decide) (by decide)
 cases ead
 obtain ⟨qd, hqd⟩ : ∃ q, add.add (1 * 3) = q := ⟨_, rfl⟩
 replace xd0 : W17.cell? qd = some (.int .i64 3) := by rw [← hqd]; exact xd0
 replace xd1 : W17.cell? ⟨qd.block, qd.off + 1, none⟩ = some (.int .i64 0) := by rw [← hqd]; exact xd1
 replace xd2 : W17.cell? ⟨qd.block, qd.off + 2, none⟩ = some (.string (⟨#[97, 110, 110]⟩ : ByteArray)) := by rw [← hqd]; exact xd2
 obtain ⟨ade, eae, xe0, xe1, xe2⟩ := at_T39 (HRe.out.has (Nat.le_refl 2) hc1).2 1 (by decide) (by decide)
 cases eae
 obtain ⟨qe, hqe⟩ : ∃ q, ade.add (1 * 3) = q := ⟨_, rfl⟩
 replace xe0 : W17.cell? qe = some (.int .i64 3) := by rw [← hqe]; exact xe0
 replace xe1 : W17.cell? ⟨qe.block, qe.off + 1, none⟩ = some (.int .i64 0) := by rw [← hqe]; exact xe1
 replace xe2 : W17.cell? ⟨qe.block, qe.off + 2, none⟩ = some (.string (⟨#[98, 111, 98]⟩ : ByteArray)) := by rw [← hqe]; exact xe2
 go_upto_region 19 with (fail)
 try simp only [Reg.SF]
 refine Reg.det [Reg.k 145 (.pointer (some ⟨g9, 0, none⟩)), Reg.k 146 (.slice A99 2 c99), Reg.k 147 (.slice (some ⟨g17, 0, none⟩) 2 2), Reg.k 148 (.bool true), Reg.k 149 (.bool false), Reg.k 150 (.bool false), Reg.k 151 (.pointer (some ⟨g10, 0, none⟩)), Reg.k 152 (.slice (some adb) 2 c105), Reg.k 153 (.pointer (some qb)), Reg.k 154 (.pointer (some ⟨qb.block, qb.off + 1, none⟩)), Reg.k 155 (.int .i64 12400000), Reg.k 156 (.bool false), Reg.k 157 (.bool false), Reg.k 158 (.bool false), Reg.k 159 (.pointer (some ⟨g11, 0, none⟩)), Reg.k 160 (.slice (some adc) 2 c111), Reg.k 161 (.pointer (some qc)), Reg.k 162 (.agg #[.int .i64 3, .int .i64 0, .string (⟨#[98, 111, 98, 32, 108, 101, 101]⟩ : ByteArray)]), Reg.k 163 (.agg #[.int .i64 3, .int .i64 0, .string (⟨#[98, 111, 98, 32, 108, 101, 101]⟩ : ByteArray)]), Reg.k 164 (.bool false), Reg.k 165 (.bool false), Reg.k 166 (.bool false), Reg.k 167 (.pointer (some ⟨g12, 0, none⟩)), Reg.k 168 (.slice (some add) 2 c116), Reg.k 169 (.pointer (some qd)), Reg.k 170 (.agg #[.int .i64 3, .int .i64 0, .string (⟨#[97, 110, 110]⟩ : ByteArray)]), Reg.k 171 (.agg #[.int .i64 3, .int .i64 0, .string (⟨#[97, 110, 110]⟩ : ByteArray)]), Reg.k 172 (.bool false), Reg.k 173 (.bool false), Reg.k 174 (.bool false), Reg.k 175 (.pointer (some ⟨g13, 0, none⟩)), Reg.k 176 (.slice (some ade) 2 c122), Reg.k 177 (.pointer (some qe)), Reg.k 178 (.agg #[.int .i64 3, .int .i64 0, .string (⟨#[98, 111, 98]⟩ : ByteArray)]), Reg.k 179 (.agg #[.int .i64 3, .int .i64 0, .string (⟨#[98, 111, 98]⟩ : ByteArray)]), Reg.k 180 (.bool false), Reg.k 181 (.bool false)] [] 211 rfl (by kernel_rfl) (by kernel_rfl) ?s19 ?_
 case s19 =>
  intro iq oq pq hiq hoq hpq ρ ev W S hE hO ec ef hB hft hΦ
  have e2 : ev (.tmp 2) = .slice (some ⟨g17, 0, none⟩) 2 2 := hO 2 rfl
  have e9 : ev (.tmp 9) = .pointer (some ⟨g9, 0, none⟩) := hO 9 rfl
  have e10 : ev (.tmp 10) = .pointer (some ⟨g10, 0, none⟩) := hO 10 rfl
  have e11 : ev (.tmp 11) = .pointer (some ⟨g11, 0, none⟩) := hO 11 rfl
  have e12 : ev (.tmp 12) = .pointer (some ⟨g12, 0, none⟩) := hO 12 rfl
  have e13 : ev (.tmp 13) = .pointer (some ⟨g13, 0, none⟩) := hO 13 rfl
  have mg9_0 := pw_cell_below hB (HX.out.cell 4 0 rfl rfl : _ = some (.slice A99 2 c99 : Value))
  have mg10_0 := pw_cell_below hB (HX.out.cell 3 0 rfl rfl : _ = some (.slice (some adb) 2 c105 : Value))
  have mg11_0 := pw_cell_below hB (HX.out.cell 2 0 rfl rfl : _ = some (.slice (some adc) 2 c111 : Value))
  have mg12_0 := pw_cell_below hB (HX.out.cell 1 0 rfl rfl : _ = some (.slice (some add) 2 c116 : Value))
  have mg13_0 := pw_cell_below hB (HX.out.cell 0 0 rfl rfl : _ = some (.slice (some ade) 2 c122 : Value))
  have xb0' := pw_cell_below hB xb0
  have xb1' := pw_cell_below hB xb1
  have xb2' := pw_cell_below hB xb2
  have xc0' := pw_cell_below hB xc0
  have xc1' := pw_cell_below hB xc1
  have xc2' := pw_cell_below hB xc2
  have xd0' := pw_cell_below hB xd0
  have xd1' := pw_cell_below hB xd1
  have xd2' := pw_cell_below hB xd2
  have xe0' := pw_cell_below hB xe0
  have xe1' := pw_cell_below hB xe1
  have xe2' := pw_cell_below hB xe2
  simp only [Reg.SV, val_got] at hE
  obtain ⟨e145, e146, e147, e148, e149, e150, e151, e152, e153, e154, e155, e156, e157, e158, e159, e160, e161, e162, e163, e164, e165, e166, e167, e168, e169, e170, e171, e172, e173, e174, e175, e176, e177, e178, e179, e180, e181, _⟩ := hE
  rcases Reg.lt37 hiq with rfl | rfl | rfl | rfl | rfl | rfl | rfl | rfl | rfl | rfl | rfl | rfl | rfl | rfl | rfl | rfl | rfl | rfl | rfl | rfl | rfl | rfl | rfl | rfl | rfl | rfl | rfl | rfl | rfl | rfl | rfl | rfl | rfl | rfl | rfl | rfl | rfl
  all_goals (cases hoq; cases hpq)
  rotate_left 34
  ·refine Reg.D.cc (g := 29) (args := #[.string (⟨#[98, 111, 98]⟩ : ByteArray)]) hB (by go_simp; try rfl) ?_
   exact chapmanref16_Texted.calls (⟨#[98, 111, 98]⟩ : ByteArray) 3 0 (⟨#[98, 111, 98]⟩ : ByteArray) W rfl
  rotate_right 34
  rotate_left 26
  ·refine Reg.D.cc (g := 29) (args := #[.string (⟨#[97, 110, 110]⟩ : ByteArray)]) hB (by go_simp; try rfl) ?_
   exact chapmanref16_Texted.calls (⟨#[97, 110, 110]⟩ : ByteArray) 3 0 (⟨#[97, 110, 110]⟩ : ByteArray) W rfl
  rotate_right 26
  rotate_left 18
  ·refine Reg.D.cc (g := 29) (args := #[.string (⟨#[98, 111, 98, 32, 108, 101, 101]⟩ : ByteArray)]) hB (by go_simp; try rfl) ?_
   exact chapmanref16_Texted.calls (⟨#[98, 111, 98, 32, 108, 101, 101]⟩ : ByteArray) 3 0 (⟨#[98, 111, 98, 32, 108, 101, 101]⟩ : ByteArray) W rfl
  rotate_right 18
  rotate_left 3
  ·refine Reg.D.cc (g := 13) (args := #[.slice A99 2 c99, .slice (some ⟨g17, 0, none⟩) 2 2]) hB (by go_simp; try rfl) ?_
   exact (chapmanref16_Same.calls 5 A99 c99 la (some ⟨g17, 0, none⟩) 2 exC true W (Kd.C_below ha.2 hB) ha.1 (Kd.C_below hc1 hB) (Nat.le_refl _) same_a).mono (fun e w' h => ⟨h.1, below_of_drawn h.2⟩)
  rotate_right 3
  all_goals (first | exact Reg.D.mv hB | skip)
  all_goals (refine Reg.D.cv hB ?_; go_simp; try (first | done | rfl | (rw [← hqb]; rfl) | (rw [← hqc]; rfl) | (rw [← hqd]; rfl) | (rw [← hqe]; rfl) | (simp; done)))
 intro ρ W19 S hB hft hap hΦ
 simp only [Reg.SV, val_got, Reg.SF, Nat.reduceAdd]
 have HX := Aside0.mk (HX.out.call hB)
 replace RA := Aside0.mk (Kd.R_below RA.out hB)
 replace HB7 := Aside0.mk (below_step HB7.out hB)
 replace HRa := Aside0.mk (Row2.below HRa.out hB)
 replace HRb := Aside0.mk (Row2.below HRb.out hB)
 replace HRc := Aside0.mk (Row2.below HRc.out hB)
 replace HRd := Aside0.mk (Row2.below HRd.out hB)
 replace HRe := Aside0.mk (Row2.below HRe.out hB)
 clear hΦ hft hap 
 go_upto_region 21 with (fail)
 try simp only [Reg.SF]
 refine Reg.det [Reg.k 182 (.slice A14 2 c14), Reg.k 183 (.agg #[.int .i64 3, .int .i64 0, .int .i64 1, .string (⟨#[]⟩ : ByteArray), .slice none 0 0]), Reg.k 184 (.slice (some ⟨g17, 0, none⟩) 2 2), Reg.k 185 (.agg #[.int .i64 3, .int .i64 0, .string (⟨#[49, 50, 46, 52, 48]⟩ : ByteArray)]), Reg.k 186 (.agg #[.slice (some ⟨g17, 0, none⟩) 2 2, .int .i64 3, .int .i64 0, .string (⟨#[49, 50, 46, 52, 48]⟩ : ByteArray)]), Reg.k 187 (.agg #[.slice none 0 0, .int .i64 160]), Reg.k 188 (.int .i64 160), Reg.k 189 (.bool true), Reg.k 190 (.bool true), Reg.k 191 (.slice A14 2 c14), Reg.k 192 (.agg #[.int .i64 6, .int .i64 0, .int .i64 0, .string (⟨#[44]⟩ : ByteArray), .slice (some ⟨g28, 0, none⟩) 2 2]), Reg.k 193 (.slice (some ⟨g17, 0, none⟩) 2 2), Reg.k 194 (.agg #[.int .i64 3, .int .i64 0, .string (⟨#[97, 32, 98, 44, 99]⟩ : ByteArray)]), Reg.k 195 (.agg #[.slice (some ⟨g17, 0, none⟩) 2 2, .int .i64 3, .int .i64 0, .string (⟨#[97, 32, 98, 44, 99]⟩ : ByteArray)]), Reg.k 196 (.agg #[.slice none 0 0, .int .i64 160]), Reg.k 197 (.int .i64 160), Reg.k 198 (.bool true), Reg.k 199 (.bool true), Reg.k 200 (.bool true), Reg.k 201 (.agg #[.int .i64 6, .int .i64 0, .int .i64 0, .string (⟨#[44]⟩ : ByteArray), .slice (some ⟨g28, 0, none⟩) 2 2]), (some 202, Reg.Dv.row 202 (Kd.int .i64) 3 ([1])), Reg.k 203 (.bool true), Reg.k 204 (.bool true), Reg.k 205 (.bool true), Reg.k 206 (.agg #[.int .i64 6, .int .i64 0, .int .i64 0, .string (⟨#[44]⟩ : ByteArray), .slice (some ⟨g28, 0, none⟩) 2 2]), (some 207, Reg.Dv.row 207 (Kd.int .i64) 3 ([1])), Reg.k 208 (.int .i64 1), Reg.k 209 (.bool true), Reg.k 210 (.bool true), Reg.k 0 (.bool true)] [] 211 rfl (by kernel_rfl) (by kernel_rfl) ?s20 ?_
 case s20 =>
  intro iq oq pq hiq hoq hpq ρ ev W S hE hO ec ef hB hft hΦ
  have e1 : ev (.tmp 1) = .slice A14 2 c14 := hO 1 rfl
  have e2 : ev (.tmp 2) = .slice (some ⟨g17, 0, none⟩) 2 2 := hO 2 rfl
  have e4 : ev (.tmp 4) = .pointer (some ⟨g4, 0, none⟩) := hO 4 rfl
  have e8 : ev (.tmp 8) = .pointer (some ⟨g8, 0, none⟩) := hO 8 rfl
  have mg4_0 := pw_cell_below hB (HX.out.cell 10 0 rfl rfl : _ = some (.int .i64 3 : Value))
  have mg4_1 := pw_cell_below hB (HX.out.cell 10 1 rfl rfl : _ = some (.int .i64 0 : Value))
  have mg4_2 := pw_cell_below hB (HX.out.cell 10 2 rfl rfl : _ = some (.int .i64 1 : Value))
  have mg4_3 := pw_cell_below hB (HX.out.cell 10 3 rfl rfl : _ = some (.string (⟨#[]⟩ : ByteArray) : Value))
  have mg4_4 := pw_cell_below hB (HX.out.cell 10 4 rfl rfl : _ = some (.slice none 0 0 : Value))
  have mg8_0 := pw_cell_below hB (HX.out.cell 5 0 rfl rfl : _ = some (.int .i64 6 : Value))
  have mg8_1 := pw_cell_below hB (HX.out.cell 5 1 rfl rfl : _ = some (.int .i64 0 : Value))
  have mg8_2 := pw_cell_below hB (HX.out.cell 5 2 rfl rfl : _ = some (.int .i64 0 : Value))
  have mg8_3 := pw_cell_below hB (HX.out.cell 5 3 rfl rfl : _ = some (.string (⟨#[44]⟩ : ByteArray) : Value))
  have mg8_4 := pw_cell_below hB (HX.out.cell 5 4 rfl rfl : _ = some (.slice (some ⟨g28, 0, none⟩) 2 2 : Value))
  simp only [Reg.SV, val_got] at hE
  obtain ⟨e182, e183, e184, e185, e186, e187, e188, e189, e190, e191, e192, e193, e194, e195, e196, e197, e198, e199, e200, e201, e202, e203, e204, e205, e206, e207, e208, e209, e210, e0, _⟩ := hE
  rcases Reg.lt30 hiq with rfl | rfl | rfl | rfl | rfl | rfl | rfl | rfl | rfl | rfl | rfl | rfl | rfl | rfl | rfl | rfl | rfl | rfl | rfl | rfl | rfl | rfl | rfl | rfl | rfl | rfl | rfl | rfl | rfl | rfl
  all_goals (cases hoq; cases hpq)
  rotate_left 26
  ·obtain ⟨_, _, h207⟩ := Kd.R_slice (hΦ 25 _ rfl rfl rfl)
   replace h207 : ρ 207 = _ := h207
   refine Reg.D.cv hB ?_
   go_simp
   try (first | done | rfl | (simp; done) | (intro h; omega))
  rotate_right 26
  rotate_left 25
  ·refine Reg.D.crow (g := 14) (args := #[.agg #[.int .i64 6, .int .i64 0, .int .i64 0, .string (⟨#[44]⟩ : ByteArray), .slice (some ⟨g28, 0, none⟩) 2 2]]) hB (by go_simp; try rfl) ?_
   exact HAB.out W (below_step HB7.out hB)
  rotate_right 25
  rotate_left 21
  ·refine Reg.D.cc (g := 19) (args := #[ρ 202, .int .i64 1]) hB (by go_simp; try rfl) ?_
   have r := hΦ 20 _ rfl rfl rfl
   replace r : Kd.R (Kd.int .i64) 3 W _ _ (ρ 202) [1] := r
   obtain ⟨A, c, e⟩ := Kd.R_slice r
   rw [e] at r ⊢
   exact (chapmanref16_In.calls 5 A c [1] 1 true W (Kd.R_reads' r).2.2 (Kd.R_reads' r).2.1 in_B).mono (fun e w' h => ⟨h.1, below_of_drawn h.2⟩)
  rotate_right 21
  rotate_left 20
  ·refine Reg.D.crow (g := 14) (args := #[.agg #[.int .i64 6, .int .i64 0, .int .i64 0, .string (⟨#[44]⟩ : ByteArray), .slice (some ⟨g28, 0, none⟩) 2 2]]) hB (by go_simp; try rfl) ?_
   exact HAB.out W (below_step HB7.out hB)
  rotate_right 20
  rotate_left 14
  ·refine Reg.D.cc (g := 11) (args := #[.slice A14 2 c14, .agg #[.int .i64 6, .int .i64 0, .int .i64 0, .string (⟨#[44]⟩ : ByteArray), .slice (some ⟨g28, 0, none⟩) 2 2], .agg #[.slice (some ⟨g17, 0, none⟩) 2 2, .int .i64 3, .int .i64 0, .string (⟨#[97, 32, 98, 44, 99]⟩ : ByteArray)]]) hB (by go_simp; try rfl) ?_
   exact (HPg.out W (below_step HB7.out hB)).mono (fun e w' h => ⟨h.2, h.1⟩)
  rotate_right 14
  rotate_left 12
  ·refine Reg.D.cc (g := 29) (args := #[.string (⟨#[97, 32, 98, 44, 99]⟩ : ByteArray)]) hB (by go_simp; try rfl) ?_
   exact chapmanref16_Texted.calls (⟨#[97, 32, 98, 44, 99]⟩ : ByteArray) 3 0 (⟨#[97, 32, 98, 44, 99]⟩ : ByteArray) W rfl
  rotate_right 12
  rotate_left 5
  ·refine Reg.D.cc (g := 11) (args := #[.slice A14 2 c14, .agg #[.int .i64 3, .int .i64 0, .int .i64 1, .string (⟨#[]⟩ : ByteArray), .slice none 0 0], .agg #[.slice (some ⟨g17, 0, none⟩) 2 2, .int .i64 3, .int .i64 0, .string (⟨#[49, 50, 46, 52, 48]⟩ : ByteArray)]]) hB (by go_simp; try rfl) ?_
   exact (HPf.out W (below_step HB7.out hB)).mono (fun e w' h => ⟨h.2, h.1⟩)
  rotate_right 5
  rotate_left 3
  ·refine Reg.D.cc (g := 29) (args := #[.string (⟨#[49, 50, 46, 52, 48]⟩ : ByteArray)]) hB (by go_simp; try rfl) ?_
   exact chapmanref16_Texted.calls (⟨#[49, 50, 46, 52, 48]⟩ : ByteArray) 3 0 (⟨#[49, 50, 46, 52, 48]⟩ : ByteArray) W rfl
  rotate_right 3
  all_goals (first | exact Reg.D.mv hB | skip)
  all_goals (refine Reg.D.cv hB ?_; go_simp; try (first | done | rfl | (simp; done) | (intro h; omega)))
 intro ρ W21 S hB hft hap hΦ
 simp only [Reg.SV, val_got, Reg.SF, Nat.reduceAdd]
 have r202 : Kd.R (Kd.int .i64) 3 W21 _ _ (ρ 202) ([1]) := hΦ 20 _ rfl rfl
 obtain ⟨A202, c202, e202⟩ := Kd.R_slice r202
 replace e202 : ρ 202 = .slice A202 1 c202 := e202
 rw [e202] at r202
 replace r202 := Kd.R_mono (ok' := fun _ => True) (Kd.R_lower r202 HX.out.below.size) (fun _ _ => trivial)
 have r207 : Kd.R (Kd.int .i64) 3 W21 _ _ (ρ 207) ([1]) := hΦ 25 _ rfl rfl
 obtain ⟨A207, c207, e207⟩ := Kd.R_slice r207
 replace e207 : ρ 207 = .slice A207 1 c207 := e207
 rw [e207] at r207
 replace r207 := Kd.R_mono (ok' := fun _ => True) (Kd.R_lower r207 HX.out.below.size) (fun _ _ => trivial)
 try simp only [e202, e207]
 have HX := Aside0.mk (HX.out.call hB)
 replace RA := Aside0.mk (Kd.R_below RA.out hB)
 replace HB7 := Aside0.mk (below_step HB7.out hB)
 replace HRa := Aside0.mk (Row2.below HRa.out hB)
 replace HRb := Aside0.mk (Row2.below HRb.out hB)
 replace HRc := Aside0.mk (Row2.below HRc.out hB)
 replace HRd := Aside0.mk (Row2.below HRd.out hB)
 replace HRe := Aside0.mk (Row2.below HRe.out hB)
 clear hΦ hft hap 
 go_wp2_with fail
 go_ret
 exact ⟨rfl, HX.out.below⟩
end
section
open Go.RowKit YtmebkjdknhknbaaGreatDoor.G YtmebkjdknhknbaaGreatDoorW.PrintWords YtmebkjdknhknbaaGreatDoorW.PrintLast YtmebkjdknhknbaaGreatDoorW.PrintMore
def DigTo (n : Int) (s : ByteArray) : Prop := ∀ w, Calls Tryz.prog 58 #[.int .i64 n] w fun e w' => e = .returned (.string s) ∧ Below w.heap.size w w'
theorem dig_one (n : Int) (h0 : 0 ≤ n) (h1 : n < 10) : ∃ s : ByteArray, s.size ≤ 1 ∧ DigTo n s := by
 refine ⟨(⟨#[48, 49, 50, 51, 52, 53, 54, 55, 56, 57]⟩ : ByteArray).extract n.toNat (n + 1).toNat, by rw [ByteArray.size_extract]; omega, fun w => ?_⟩
 have w1 : IntKind.i64.wrap (n + 1) = n + 1 := by rw [IntKind.wrap_i64]; omega
 have d1 : decide (n < 10) = true := decide_eq_true h1
 have p1 : (0 ≤ n) = True := eq_true h0
 have p2 : (n ≤ n + 1) = True := eq_true (by omega)
 have p3 : (n + 1 ≤ 10) = True := eq_true (by omega)
 have p4 : (0 ≤ n + 1) = True := eq_true (by omega)
 go_enter Tryz.func58, Tryz.ntmps58
 go_wp2_with fail
 go_ret
 exact ⟨rfl, Below.refl _ _⟩
theorem dig_two (n q r : Int) (s1 s2 : ByteArray) (h1 : ¬ n < 10) (hq : IntKind.i64.wrap (Int.tdiv n 10) = q) (hr : Int.tmod n 10 = r) (H1 : DigTo q s1) (H2 : DigTo r s2) (hz : s1.size + s2.size ≤ 1000) : DigTo n (s1 ++ s2) := by
 intro w
 have d1 : decide (n < 10) = false := decide_eq_false h1
 have G1 : Aside0 (∀ w', Calls Tryz.prog 58 #[.int .i64 q] w' fun e w'' => e = .returned (.string s1) ∧ Below w'.heap.size w' w'') := ⟨H1⟩
 have G2 : Aside0 (∀ w', Calls Tryz.prog 58 #[.int .i64 r] w' fun e w'' => e = .returned (.string s2) ∧ Below w'.heap.size w' w'') := ⟨H2⟩
 have hz2 : s1.size + s2.size ≤ 9223372036854775807 := by omega
 clear H1 H2 h1
 go_enter Tryz.func58, Tryz.ntmps58
 go_upto_region 3 with (fail)
 go_wp2_with (first | (go_at_call 58; (with_reducible refine (G1.out _).mono ?_); rintro e W1 ⟨rfl, hb1⟩; have HB := Aside0.mk hb1; clear hb1 G1) | (go_at_call 58; (with_reducible refine (G2.out _).mono ?_); rintro e W2 ⟨rfl, hb2⟩; have HB2 := Aside0.mk (below_step HB.out hb2); clear hb2))
 go_ret
 exact ⟨rfl, HB2.out⟩
theorem dig_all : ∀ (k : Nat) (n : Int), k ≤ 15 → 0 ≤ n → n < 10 ^ k → ∃ s : ByteArray, s.size ≤ k + 1 ∧ DigTo n s := by
 intro k
 induction k with
 | zero =>
  intro n _ h0 h1
  obtain ⟨s, hs, h⟩ := dig_one n h0 (by have : (10 : Int) ^ 0 = 1 := rfl; omega)
  exact ⟨s, by omega, h⟩
 | succ k ih =>
  intro n hk h0 h1
  by_cases h : n < 10
  ·obtain ⟨s, hs, hd⟩ := dig_one n h0 h
   exact ⟨s, by omega, hd⟩
  ·have h1' : n < 10 ^ k * 10 := by rw [← Int.pow_succ]; exact h1
   have hb : (10 : Int) ^ (k + 1) ≤ 10 ^ 15 := by
    have : k + 1 = 1 ∨ k + 1 = 2 ∨ k + 1 = 3 ∨ k + 1 = 4 ∨ k + 1 = 5 ∨ k + 1 = 6 ∨ k + 1 = 7 ∨ k + 1 = 8 ∨ k + 1 = 9 ∨ k + 1 = 10 ∨ k + 1 = 11 ∨ k + 1 = 12 ∨ k + 1 = 13 ∨ k + 1 = 14 ∨ k + 1 = 15 := by omega
    rcases this with e | e | e | e | e | e | e | e | e | e | e | e | e | e | e <;> rw [e] <;> decide
   have hc : (10 : Int) ^ 15 = 1000000000000000 := by decide
   obtain ⟨s1, hs1, hd1⟩ := ih (n / 10) (by omega) (by omega) (by omega)
   obtain ⟨s2, hs2, hd2⟩ := dig_one (n % 10) (by omega) (by omega)
   exact ⟨s1 ++ s2, by rw [ByteArray.size_append]; omega, dig_two n (n / 10) (n % 10) s1 s2 h (by rw [IntKind.wrap_i64, Int.tdiv_eq_ediv_of_nonneg h0]; omega) (Int.tmod_eq_emod_of_nonneg h0) hd1 hd2 (by omega)⟩
end
section
open Go.RowKit YtmebkjdknhknbaaGreatDoor.G YtmebkjdknhknbaaGreatDoorW.PrintWords YtmebkjdknhknbaaGreatDoorW.PrintLast YtmebkjdknhknbaaGreatDoorW.PrintMore
def pwOk (k : Nat) (rest p : Int) : Prop := 0 ≤ rest ∧ (rest = 0 ∨ (k = 6 ∧ p = 100000 ∧ rest < 1000000) ∨ (k = 5 ∧ p = 10000 ∧ rest < 100000) ∨ (k = 4 ∧ p = 1000 ∧ rest < 10000) ∨ (k = 3 ∧ p = 100 ∧ rest < 1000) ∨ (k = 2 ∧ p = 10 ∧ rest < 100) ∨ (k = 1 ∧ p = 1 ∧ rest < 10))
theorem pw_step {k : Nat} {rest p : Int} (h : pwOk k rest p) (h0 : 0 < rest) : ∃ (d r q : Int) (j : Nat), k = j + 1 ∧ p ≠ 0 ∧ 0 ≤ d ∧ d < 10 ∧ IntKind.i64.wrap (Int.tdiv rest p) = d ∧ Int.tmod rest p = r ∧ IntKind.i64.wrap (Int.tdiv p 10) = q ∧ pwOk j r q := by
 obtain ⟨h1, h2⟩ := h
 have key : ∀ (j : Nat) (m : Int), 0 < m → rest < 10 * m → p = m → m ≤ 100000 → k = j + 1 → pwOk j (rest % m) (m / 10) → ∃ (d r q : Int) (j : Nat), k = j + 1 ∧ p ≠ 0 ∧ 0 ≤ d ∧ d < 10 ∧ IntKind.i64.wrap (Int.tdiv rest p) = d ∧ Int.tmod rest p = r ∧ IntKind.i64.wrap (Int.tdiv p 10) = q ∧ pwOk j r q := by
  intro j m hm hr hp hb hk hw
  subst hp
  have e0 : 0 ≤ rest / p := Int.ediv_nonneg h1 (by omega)
  have e1 : rest / p < 10 := Int.ediv_lt_of_lt_mul hm (by omega)
  exact ⟨rest / p, rest % p, p / 10, j, hk, by omega, e0, e1, by rw [IntKind.wrap_i64, Int.tdiv_eq_ediv_of_nonneg h1]; omega, Int.tmod_eq_emod_of_nonneg h1, by rw [IntKind.wrap_i64, Int.tdiv_eq_ediv_of_nonneg (by omega)]; omega, hw⟩
 rcases h2 with h2 | ⟨rfl, hp, hr⟩ | ⟨rfl, hp, hr⟩ | ⟨rfl, hp, hr⟩ | ⟨rfl, hp, hr⟩ | ⟨rfl, hp, hr⟩ | ⟨rfl, hp, hr⟩
 ·omega
 ·exact key 5 100000 (by decide) (by omega) hp (by decide) rfl ⟨by omega, by omega⟩
 ·exact key 4 10000 (by decide) (by omega) hp (by decide) rfl ⟨by omega, by omega⟩
 ·exact key 3 1000 (by decide) (by omega) hp (by decide) rfl ⟨by omega, by omega⟩
 ·exact key 2 100 (by decide) (by omega) hp (by decide) rfl ⟨by omega, by omega⟩
 ·exact key 1 10 (by decide) (by omega) hp (by decide) rfl ⟨by omega, by omega⟩
 ·exact key 0 1 (by decide) (by omega) hp (by decide) rfl ⟨by omega, by omega⟩
theorem text_pos (n : Int) (h0 : 0 ≤ n) (h1 : n < 1000000000000000) (w : World) : Calls Tryz.prog 38 #[.int .i64 n] w fun e w' => (∃ s : ByteArray, e = .returned (.string s) ∧ s.size ≤ 20) ∧ Below w.heap.size w w' := by
 have h9 : (10 : Int) ^ 9 = 1000000000 := by decide
 obtain ⟨s0, hs0, hd0⟩ := dig_all 9 (n / 1000000) (by decide) (by omega) (by rw [h9]; omega)
 clear h9
 obtain ⟨q, hq⟩ : ∃ q, n / 1000000 = q := ⟨_, rfl⟩
 rw [hq] at hd0
 have wq : IntKind.i64.wrap (Int.tdiv n 1000000) = q := by rw [IntKind.wrap_i64, Int.tdiv_eq_ediv_of_nonneg h0]; omega
 have G0 : Aside0 (∀ w', Calls Tryz.prog 58 #[.int .i64 q] w' fun e w'' => e = .returned (.string s0) ∧ Below w'.heap.size w' w'') := ⟨hd0⟩
 obtain ⟨r, hr⟩ : ∃ r, Int.tmod n 1000000 = r := ⟨_, rfl⟩
 have hrr : 0 ≤ r ∧ r < 1000000 := by rw [← hr, Int.tmod_eq_emod_of_nonneg h0]; omega
 have hr0 := hrr.1
 have HR := Aside0.mk hrr
 have HS0 := Aside0.mk hs0
 have dn : decide (n < 0) = false := decide_eq_false (by omega)
 have hz2 : s0.size + 1 ≤ 9223372036854775807 := by omega
 clear hd0 hq hs0 h0 h1 hrr
 go_enter Tryz.func38, Tryz.ntmps38
 by_cases hrp : 0 < r
 ·have dr : decide (r > 0) = true := decide_eq_true hrp
  go_wp2_with (first | (go_at_call 58; (with_reducible refine (G0.out _).mono ?_); rintro e W1 ⟨rfl, hb1⟩; have HB := Aside0.mk hb1; clear hb1))
  go_loopg [3, 4, 5] 6 (fun kq v3 v4 v5 w' => ∃ (s : ByteArray) (rest p : Int), v3 = .string s ∧ v4 = .int .i64 rest ∧ v5 = .int .i64 p ∧ Aside0 (s.size + kq ≤ 17) ∧ Aside0 (pwOk kq rest p) ∧ Aside0 (Below w.heap.size w w'))
  case atStart => exact ⟨s0 ++ ⟨#[46]⟩, r, 100000, rfl, rfl, rfl, ⟨by rw [ByteArray.size_append]; have := HS0.out; show s0.size + 1 + 6 ≤ 17; omega⟩, ⟨HR.out.1, .inr (.inl ⟨rfl, rfl, HR.out.2⟩)⟩, HB⟩
  case round =>
   clear HB G0
   obtain ⟨s, rest, p, rfl, rfl, rfl, HS, HPW, HB⟩ := hrel
   have hsz := HS.out
   by_cases h : 0 < rest
   ·obtain ⟨d, r2, q2, j, hj, hp, hd0, hd1, hd, hr2, hq2, hw⟩ := pw_step HPW.out h
    obtain ⟨sd, hsd, hdg⟩ := dig_one d hd0 hd1
    have GD : Aside0 (∀ w', Calls Tryz.prog 58 #[.int .i64 d] w' fun e w'' => e = .returned (.string sd) ∧ Below w'.heap.size w' w'') := ⟨hdg⟩
    have HW := Aside0.mk (And.intro hj (And.intro hw hsd))
    have drr : decide (rest > 0) = true := decide_eq_true h
    have hz3 : s.size + sd.size ≤ 9223372036854775807 := by omega
    clear hj hw hdg hsd HPW hr dr
    go_wp2_with (first | (go_at_call 58; (with_reducible refine (GD.out _).mono ?_); rintro e W1 ⟨rfl, hb1⟩; have HB2 := Aside0.mk (below_step HB.out hb1); clear hb1))
    cases gk with
    | zero => exact absurd HW.out.1 (by omega)
    | succ gk1 =>
    go_roundg gk1
    case measure => omega
    case rel => exact ⟨s ++ sd, r2, q2, rfl, rfl, rfl, ⟨by rw [ByteArray.size_append]; have := HW.out.2.2; omega⟩, ⟨by have h9 := HW.out.1; (obtain rfl : gk1 = j := (by omega)); exact HW.out.2.1⟩, HB2⟩
   ·have drr : decide (rest > 0) = false := decide_eq_false h
    go_wp2_with fail
    go_ret
    exact ⟨⟨s, rfl, by omega⟩, HB.out⟩
 ·have dr : decide (r > 0) = false := decide_eq_false hrp
  go_wp2_with (first | (go_at_call 58; (with_reducible refine (G0.out _).mono ?_); rintro e W1 ⟨rfl, hb1⟩; have HB := Aside0.mk hb1; clear hb1))
  go_loopg [3, 4, 5] 6 (fun kq v3 v4 v5 w' => ∃ (s : ByteArray) (rest p : Int), v3 = .string s ∧ v4 = .int .i64 rest ∧ v5 = .int .i64 p ∧ Aside0 (s.size + kq ≤ 17) ∧ Aside0 (pwOk kq rest p) ∧ Aside0 (Below w.heap.size w w'))
  case atStart => exact ⟨s0, r, 100000, rfl, rfl, rfl, ⟨by have := HS0.out; omega⟩, ⟨HR.out.1, .inr (.inl ⟨rfl, rfl, HR.out.2⟩)⟩, HB⟩
  case round =>
   clear HB G0
   obtain ⟨s, rest, p, rfl, rfl, rfl, HS, HPW, HB⟩ := hrel
   have hsz := HS.out
   by_cases h : 0 < rest
   ·obtain ⟨d, r2, q2, j, hj, hp, hd0, hd1, hd, hr2, hq2, hw⟩ := pw_step HPW.out h
    obtain ⟨sd, hsd, hdg⟩ := dig_one d hd0 hd1
    have GD : Aside0 (∀ w', Calls Tryz.prog 58 #[.int .i64 d] w' fun e w'' => e = .returned (.string sd) ∧ Below w'.heap.size w' w'') := ⟨hdg⟩
    have HW := Aside0.mk (And.intro hj (And.intro hw hsd))
    have drr : decide (rest > 0) = true := decide_eq_true h
    have hz3 : s.size + sd.size ≤ 9223372036854775807 := by omega
    clear hj hw hdg hsd HPW hr dr
    go_wp2_with (first | (go_at_call 58; (with_reducible refine (GD.out _).mono ?_); rintro e W1 ⟨rfl, hb1⟩; have HB2 := Aside0.mk (below_step HB.out hb1); clear hb1))
    cases gk with
    | zero => exact absurd HW.out.1 (by omega)
    | succ gk1 =>
    go_roundg gk1
    case measure => omega
    case rel => exact ⟨s ++ sd, r2, q2, rfl, rfl, rfl, ⟨by rw [ByteArray.size_append]; have := HW.out.2.2; omega⟩, ⟨by have h9 := HW.out.1; (obtain rfl : gk1 = j := (by omega)); exact HW.out.2.1⟩, HB2⟩
   ·have drr : decide (rest > 0) = false := decide_eq_false h
    go_wp2_with fail
    go_ret
    exact ⟨⟨s, rfl, by omega⟩, HB.out⟩
theorem text_all (n : Int) (h0 : -1000000000000000 < n) (h1 : n < 1000000000000000) (w : World) : Calls Tryz.prog 38 #[.int .i64 n] w fun e w' => (∃ s : ByteArray, e = .returned (.string s) ∧ s.size ≤ 30) ∧ Below w.heap.size w w' := by
 by_cases hn : 0 ≤ n
 ·refine (text_pos n hn h1 w).mono fun e w' h => ?_
  obtain ⟨⟨s, he, hs⟩, hb⟩ := h
  exact ⟨⟨s, he, by omega⟩, hb⟩
 ·obtain ⟨m, hm⟩ : ∃ m, IntKind.i64.wrap (-n) = m := ⟨_, rfl⟩
  have hmm : 0 ≤ m ∧ m < 1000000000000000 := by rw [← hm, IntKind.wrap_i64]; omega
  have GT : Aside0 (∀ w', Calls Tryz.prog 38 #[.int .i64 m] w' fun e w'' => (∃ s : ByteArray, e = .returned (.string s) ∧ s.size ≤ 20) ∧ Below w'.heap.size w' w'') := ⟨fun w' => text_pos m hmm.1 hmm.2 w'⟩
  have dn : decide (n < 0) = true := decide_eq_true (by omega)
  clear hmm h0 h1 hn
  go_enter Tryz.func38, Tryz.ntmps38
  go_wp2_with fail
  refine (GT.out w).mono ?_
  rintro e W1 ⟨⟨s, rfl, hs⟩, hb1⟩
  have HB := Aside0.mk hb1
  have hz : 1 + s.size ≤ 9223372036854775807 := by omega
  have HS := Aside0.mk hs
  clear hb1 hs
  go_wp2_with fail
  go_ret
  exact ⟨⟨_, rfl, by rw [ByteArray.size_append]; have := HS.out; show 1 + s.size ≤ 30; omega⟩, HB.out⟩
end
section
open Go.RowKit YtmebkjdknhknbaaGreatDoor.A YtmebkjdknhknbaaGreatDoor.C YtmebkjdknhknbaaGreatDoorW.PrintWords YtmebkjdknhknbaaGreatDoorW.PrintLast YtmebkjdknhknbaaGreatDoorW.PrintMore
def tyOk (T : S49) (v : S39) : Prop := (T.f2 = true ∧ v = ⟨0, 0, ⟨#[]⟩⟩) ∨ (T.f0 = 1 ∧ (v = ⟨1, 0, ⟨#[]⟩⟩ ∨ v = ⟨1, 1, ⟨#[]⟩⟩)) ∨ (T.f0 = 2 ∧ ∃ n : Int, (-1000000000000000 ≤ n ∧ n ≤ 1000000000000000) ∧ Int.tmod n (stepOf T.f1) = 0 ∧ v = ⟨2, n, ⟨#[]⟩⟩) ∨ (T.f0 = 3 ∧ ∃ s : ByteArray, s.size ≤ 40 ∧ graphicB s.data.toList = true ∧ v = ⟨3, 0, s⟩)
def typOk (T : S49) : Prop := (T.f0 = 2 ∧ 0 ≤ T.f1 ∧ T.f1 ≤ 6) ∨ (T.f0 = 3 ∧ T.f1 = 0) ∨ (T.f0 = 1 ∧ T.f1 = 0)
theorem cell_ty {a : S57} {v : S39} (ha : aOk a) (h : cellOk a v) : tyOk a.f0 v ∧ typOk a.f0 := by
 refine ⟨?_, ?_⟩
 ·rcases h with h | h | ⟨h, n, h0, h1, rfl⟩ | h
  ·exact .inl h
  ·exact .inr (.inl h)
  ·have h6 : a.f0.f1 = 6 := by rcases ha.2 with h | h | h <;> omega
   exact .inr (.inr (.inl ⟨h, n, ⟨by omega, by omega⟩, by rw [h6, show stepOf 6 = 1 from rfl, Int.tmod_one], rfl⟩))
  ·exact .inr (.inr (.inr h))
 ·rcases ha.2 with h | h | h
  ·exact .inl ⟨h.1, by omega, by omega⟩
  ·exact .inr (.inl h)
  ·exact .inr (.inr h)
theorem isDig_gr {l : List UInt8} (h : l.all isDig = true) : graphicB l = true := by
 unfold graphicB
 rw [List.all_eq_true] at h ⊢
 intro c hc
 have := isDig_bounds (h c hc)
 unfold grB
 simp
 omega
theorem gr_apps {a b : List UInt8} (ha : graphicB a = true) (hb : graphicB b = true) : graphicB (a ++ b) = true := by unfold graphicB at *; rw [List.all_append, ha, hb]; rfl
theorem text_gr (n : Int) (h : n.natAbs < 10 ^ 20) : graphicB (textL n) = true := by
 obtain ⟨hf, _⟩ := valOf_parts n h
 rw [textL_eq]
 unfold textOf
 have hW : graphicB (wholeB n) = true := isDig_gr (by have := hf.w; unfold numB at this; rw [Bool.and_eq_true] at this; exact this.2)
 have hP : graphicB (partB n) = true := isDig_gr hf.p
 refine gr_apps (gr_apps ?_ hW) ?_
 ·split <;> decide
 ·split
  ·decide
  ·have : graphicB [(46 : UInt8)] = true := by decide
   exact gr_apps (a := [46]) this hP
theorem cut_in (n S B : Int) (hS : 1 ≤ S) (h0 : -B ≤ n) (h1 : n ≤ B) : -B ≤ Int.tdiv n S * S ∧ Int.tdiv n S * S ≤ B ∧ -B ≤ Int.tdiv n S ∧ Int.tdiv n S ≤ B := by
 rcases Int.le_total 0 n with h | h
 ·rw [Int.tdiv_eq_ediv_of_nonneg h]
  have e1 := Int.ediv_mul_le n (show S ≠ 0 by omega)
  have e2 : 0 ≤ n / S := Int.ediv_nonneg h (by omega)
  have e3 : n / S * 1 ≤ n / S * S := Int.mul_le_mul_of_nonneg_left hS e2
  omega
 ·obtain ⟨m, rfl⟩ : ∃ m, n = -m := ⟨-n, by omega⟩
  have hm : 0 ≤ m := by omega
  rw [Int.neg_tdiv, Int.tdiv_eq_ediv_of_nonneg hm, Int.neg_mul]
  have e1 := Int.ediv_mul_le m (show S ≠ 0 by omega)
  have e2 : 0 ≤ m / S := Int.ediv_nonneg hm (by omega)
  have e3 : m / S * 1 ≤ m / S * S := Int.mul_le_mul_of_nonneg_left hS e2
  omega
theorem scale_ty {n s : Int} (h0 : 0 ≤ s) (h6 : s ≤ 6) (h : -1000000000000000 ≤ n ∧ n ≤ 1000000000000000) : ∃ m : Int, (-1000000000000000 ≤ m ∧ m ≤ 1000000000000000) ∧ Int.tmod m (stepOf s) = 0 ∧ scaleV ⟨2, n, ⟨#[]⟩⟩ s = ⟨2, m, ⟨#[]⟩⟩ := by
 have hp := stepOf_pos s.toNat (by omega)
 have hS : stepOf s = stepsTab.getD s.toNat 0 := rfl
 rw [← hS] at hp
 obtain ⟨e1, e2, e3, e4⟩ := cut_in n (stepOf s) 1000000000000000 hp.1 h.1 h.2
 refine ⟨Int.tdiv n (stepOf s) * stepOf s, ⟨e1, e2⟩, Int.mul_tmod_left _ _, ?_⟩
 have ht : decimal_Trunc.f n s = some (wrap64 (wrap64 (Int.tdiv n (stepOf s)) * stepOf s)) := by unfold decimal_Trunc.f; rw [if_pos ⟨h0, by omega⟩]
 unfold scaleV
 dsimp only
 rw [if_pos rfl, ht, Option.getD_some]
 have w1 : wrap64 (Int.tdiv n (stepOf s)) = Int.tdiv n (stepOf s) := by unfold wrap64; omega
 rw [w1]
 have w2 : wrap64 (Int.tdiv n (stepOf s) * stepOf s) = Int.tdiv n (stepOf s) * stepOf s := by generalize Int.tdiv n (stepOf s) * stepOf s = z at *; unfold wrap64; omega
 rw [w2]
theorem gr_take {l m : List UInt8} (h : graphicB l = true) (hm : ∀ c, c ∈ m → c ∈ l) : graphicB m = true := by
 unfold graphicB at *
 rw [List.all_eq_true] at h ⊢
 exact fun c hc => h c (hm c hc)
theorem cut_mem (l sep : List UInt8) : (∀ c, c ∈ (Lib.cut l sep).1 → c ∈ l) ∧ (∀ c, c ∈ (Lib.cut l sep).2.1 → c ∈ l) := by
 unfold Lib.cut
 split
 ·exact ⟨fun c hc => List.mem_of_mem_take hc, fun c hc => List.mem_of_mem_drop hc⟩
 ·exact ⟨fun c hc => hc, fun c hc => by simp at hc⟩
theorem show_leaf {l0 : List S57} {l : List S39} (hcell : ∀ a : Int, 0 ≤ a → a < l0.length → tyOk (rd_T57 l0 a).f0 (rd_T39 l a) ∧ typOk (rd_T57 l0 a).f0) (k : Nat) (x : S29) (h : vOk (k + 1) l0 x) (hx : x.f0 ≤ 3) : tyOk (tailV k l0 x).1 (shV (k + 1) l x) ∧ typOk (tailV k l0 x).1 := by
 obtain ⟨⟨h1, ha0, ha1⟩, hnum⟩ := vOk_plain h hx
 obtain ⟨c1, c2⟩ := hcell x.f1 ha0 ha1
 have hk : x.f0 = 1 ∨ x.f0 = 2 ∨ x.f0 = 3 := by omega
 rw [shV_succ]
 unfold tailV
 rcases hk with e | e | e
 ·rw [if_pos e, if_pos e]
  unfold tyVal
  split
  ·exact ⟨c1, c2⟩
  ·rename_i h2
   obtain ⟨hd, d, hv⟩ := h
   have h5 := (of_inv hv).2.2.2.2.2.1
   unfold tailV tyVal at h5
   rw [if_pos e, if_neg h2] at h5
   cases h5
 ·obtain ⟨hs0, hs6, hK⟩ := hnum (by omega)
  rw [if_neg (by omega), if_pos e, if_neg (by omega), if_pos e]
  unfold tyScale
  rw [if_pos ⟨hK, hs0, hs6⟩]
  refine ⟨?_, .inl ⟨rfl, hs0, hs6⟩⟩
  rcases c1 with ⟨hn, hv⟩ | ⟨hv, _⟩ | ⟨_, n, hn, _, hv⟩ | ⟨hv, _⟩
  ·rw [hv]; exact .inl ⟨hn, rfl⟩
  ·omega
  ·rw [hv]
   obtain ⟨m, hm, ht, he⟩ := scale_ty hs0 hs6 hn
   exact .inr (.inr (.inl ⟨rfl, m, hm, ht, he⟩))
  ·omega
 ·obtain ⟨hs0, hs6, hK⟩ := hnum (by omega)
  rw [if_neg (by omega), if_neg (by omega), if_pos e, if_neg (by omega), if_neg (by omega), if_pos e]
  unfold tyShow
  have hT : (tyScale l0 x) = (⟨2, x.f2, (rd_T57 l0 x.f1).f0.f2⟩, true) := by unfold tyScale; rw [if_pos ⟨hK, hs0, hs6⟩]
  rw [hT, if_pos rfl]
  refine ⟨?_, .inr (.inl ⟨rfl, rfl⟩)⟩
  rcases c1 with ⟨hn, hv⟩ | ⟨hv, _⟩ | ⟨_, n, hn, _, hv⟩ | ⟨hv, _⟩
  ·rw [hv]; exact .inl ⟨hn, rfl⟩
  ·omega
  ·rw [hv]
   obtain ⟨m, hm, ht, he⟩ := scale_ty hs0 hs6 hn
   rw [he]
   have hnT : numT m = ⟨(textL m).toArray⟩ := by unfold numT decimal_Text.f; rw [if_pos ⟨by omega, by omega⟩]; rfl
   show tyOk _ ⟨3, 0, numT m⟩
   rw [hnT]
   refine .inr (.inr (.inr ⟨rfl, _, ?_, ?_, rfl⟩))
   ·have := textL_len m
    show (textL m).toArray.size ≤ 40
    rw [List.size_toArray]; omega
   ·have := text_gr m (by omega)
    show graphicB (textL m).toArray.toList = true
    rw [List.toList_toArray]; exact this
  ·omega
theorem sep_gr {l0 : List S57} {k : Nat} {x : S29} (h : vOk (k + 1) l0 x) (hx : ¬ x.f0 ≤ 3) : graphicB x.f3.data.toList = true := by
 obtain ⟨hd, d, hv⟩ := h
 have h4 := (of_inv hv).2.2.2.1
 have ha : 0 < arK x.f0 := by unfold arK; rw [if_neg hx]; split <;> decide
 unfold okA at h4
 rw [if_pos ha] at h4
 obtain ⟨_, _, h1, h2, h3⟩ := of_decide_eq_true h4
 have hl : x.f3.data.toList.length = 1 := by rw [Array.length_toList]; exact h1
 match hm : x.f3.data.toList, hl with
 | [c], _ =>
  rw [hm] at h2 h3
  unfold graphicB grB
  simp at h2 h3 ⊢
  omega
theorem show_ty {l0 : List S57} {l : List S39} (hat : atOk l0) (hl : l.length = l0.length) (hc : cellsOk l0 l) : ∀ (k : Nat) (x : S29), k ≤ 8 → vOk (k + 1) l0 x → tyOk (tailV k l0 x).1 (shV (k + 1) l x) ∧ typOk (tailV k l0 x).1 := by
 have hcell : ∀ a : Int, 0 ≤ a → a < l0.length → tyOk (rd_T57 l0 a).f0 (rd_T39 l a) ∧ typOk (rd_T57 l0 a).f0 := fun a h0 h1 => by
  obtain ⟨i, rfl⟩ := Int.eq_ofNat_of_zero_le h0
  exact cell_ty (hat.2.2.1 i (by omega)) (hc i (by omega))
 intro k
 induction k with
 | zero =>
  intro x _ h
  by_cases hx : x.f0 ≤ 3
  ·exact show_leaf hcell 0 x h hx
  ·have := (vOk_parts h hx).2.2
   have hn : 0 < x.f4.length := by split at this <;> omega
   exact (vOk_kid h 0 hn).1.elim
 | succ k ih =>
  intro x hk h
  by_cases hx : x.f0 ≤ 3
  ·exact show_leaf hcell (k + 1) x h hx
  ·obtain ⟨⟨h4, h6⟩, hs1, hlen⟩ := vOk_parts h hx
   obtain ⟨_, _, hsep, hkt, hnul, ht⟩ := parts_inv h (by omega) hx
   have hn : 0 < x.f4.length := by split at hlen <;> omega
   obtain ⟨i0, j0⟩ := ih _ (by omega) (vOk_kid h 0 hn)
   have t0 := hkt 0 hn
   have n0 := hnul
   rw [show k + 1 - 1 = k from rfl] at t0 n0 ht
   rw [ht, shV_succ, if_neg (by omega), if_neg (by omega), if_neg (by omega)]
   have hTy : typOk ⟨3, 0, (tailV k l0 (rd_T29 x.f4 ((0 : Nat) : Int))).1.f2 || decide (x.f0 = 5)⟩ := .inr (.inl ⟨rfl, rfl⟩)
   refine ⟨?_, hTy⟩
   generalize (tailV k l0 (rd_T29 x.f4 ((0 : Nat) : Int))).1 = T at *
   generalize hv : shV (k + 1) l (rd_T29 x.f4 ((0 : Nat) : Int)) = v at *
   -- the kid's value: null, or a text
   have hk : (T.f2 = true ∧ v = ⟨0, 0, ⟨#[]⟩⟩) ∨ ∃ s : ByteArray, s.size ≤ 40 ∧ graphicB s.data.toList = true ∧ v = ⟨3, 0, s⟩ := by
    rcases i0 with h | h | h | h
    ·exact .inl h
    ·omega
    ·omega
    ·exact .inr h.2
   by_cases e4 : x.f0 = 4
   ·rw [if_pos e4]
    rcases hk with ⟨hT, rfl⟩ | ⟨s, hs, hg, rfl⟩
    ·exact .inl ⟨by simp [hT], rfl⟩
    ·refine .inr (.inr (.inr ⟨rfl, _, ?_, ?_, rfl⟩))
     ·show (Lib.cut s.data.toList x.f3.data.toList).1.toArray.size ≤ 40
      have h1 : (Lib.cut s.data.toList x.f3.data.toList).1.length ≤ s.data.toList.length := by
       unfold Lib.cut
       split
       ·rw [List.length_take]; exact Nat.min_le_right _ _
       ·exact Nat.le_refl _
      have h2 : s.data.toList.length = s.size := Array.length_toList
      rw [List.size_toArray]; omega
     ·exact gr_take hg (cut_mem _ _).1
   ·rw [if_neg e4]
    by_cases e5 : x.f0 = 5
    ·rw [if_pos e5]
     have hN : (T.f2 || decide (x.f0 = 5)) = true := by rw [decide_eq_true e5, Bool.or_true]
     unfold behindV
     split
     ·rename_i hcond
      rcases hk with ⟨hT, rfl⟩ | ⟨s, hs, hg, rfl⟩
      ·exact absurd hcond.1 (by decide)
      ·refine .inr (.inr (.inr ⟨rfl, _, ?_, ?_, rfl⟩))
       ·show (Lib.cut s.data.toList x.f3.data.toList).2.1.toArray.size ≤ 40
        have h1 : (Lib.cut s.data.toList x.f3.data.toList).2.1.length ≤ s.data.toList.length := by
         unfold Lib.cut
         split
         ·rw [List.length_drop]; exact Nat.sub_le _ _
         ·exact Nat.zero_le _
        have h2 : s.data.toList.length = s.size := Array.length_toList
        rw [List.size_toArray]; omega
       ·exact gr_take hg (cut_mem _ _).2
     ·exact .inl ⟨hN, rfl⟩
    ·rw [if_neg e5]
     have e6 : x.f0 = 6 := by omega
     have h2 : 1 < x.f4.length := by split at hlen <;> omega
     obtain ⟨i1, _⟩ := ih _ (by omega) (vOk_kid h 1 h2)
     have t1 := hkt 1 h2
     rw [show k + 1 - 1 = k from rfl] at t1
     have hT2 := n0 e6
     rcases hk with ⟨hT, _⟩ | ⟨s, hs, hg, rfl⟩
     ·rw [hT2] at hT; cases hT
     ·refine .inr (.inr (.inr ⟨rfl, _, cut_size _, ?_, rfl⟩))
      unfold cutV
      refine gr_cut ?_ _
      unfold joinV
      split
      ·exact hg
      ·refine gr_app (gr_app hg ?_) ?_
       ·exact sep_gr h hx
       ·rcases i1 with ⟨_, e⟩ | h | h | ⟨_, s', _, hg', e⟩
        ·rw [e]; rfl
        ·omega
        ·omega
        ·rw [e]; exact hg'
end
section
open Go.RowKit YtmebkjdknhknbaaGreatDoor.G YtmebkjdknhknbaaGreatDoorW.PrintWords YtmebkjdknhknbaaGreatDoorW.PrintLast YtmebkjdknhknbaaGreatDoorW.PrintMore
theorem rtext_from (s : ByteArray) (hg : graphicB s.data.toList = true) (h40 : s.size ≤ 40) : ∀ (m i k : Nat), i + m = s.size → m < k → chapmanref16_text.l0 k s (i : Int) = some true := by
 intro m
 induction m with
 | zero =>
  intro i k hi hk
  obtain ⟨k, rfl⟩ : ∃ j, k = j + 1 := ⟨k - 1, by omega⟩
  rw [chapmanref16_text.l0, if_neg (by omega), decide_eq_true (by omega)]
 | succ m ih =>
  intro i k hi hk
  obtain ⟨k, rfl⟩ : ∃ j, k = j + 1 := ⟨k - 1, by omega⟩
  have hw : wrap64 ((i : Int) + 1) = ((i + 1 : Nat) : Int) := by unfold wrap64; omega
  have hb : 32 ≤ bt s (i : Int) ∧ bt s (i : Int) ≤ 126 := by
   have hl : i < s.data.toList.length := by rw [Array.length_toList]; show i < s.size; omega
   have h1 := List.all_eq_true.1 hg _ (List.getElem_mem hl)
   unfold grB at h1
   simp at h1
   have : bt s (i : Int) = ((s.data.toList[i].toNat : Nat) : Int) := by unfold bt; simp only [Int.toNat_natCast]; rw [dif_pos (show i < s.size by omega)]; rfl
   rw [this]; simp; omega
  rw [chapmanref16_text.l0, if_pos (by omega), if_pos (by omega), if_neg (by omega), if_neg (by omega), hw]
  exact ih (i + 1) k (by omega) (by omega)
theorem rtext_f (s : ByteArray) (hg : graphicB s.data.toList = true) (h40 : s.size ≤ 40) : chapmanref16_text.f 50 s = some true := by
 unfold chapmanref16_text.f
 exact rtext_from s hg h40 s.size 0 50 (by omega) (by omega)
theorem step_pow (s : Int) (h0 : 0 ≤ s) (h6 : s ≤ 6) : chapmanref16_power.f 14 (6 - s) = some (stepOf s) := by
 have : s = 0 ∨ s = 1 ∨ s = 2 ∨ s = 3 ∨ s = 4 ∨ s = 5 ∨ s = 6 := by omega
 rcases this with rfl | rfl | rfl | rfl | rfl | rfl | rfl
 ·exact (show chapmanref16_power.f 14 (6 - 0) = some 1000000 by kernel_rfl)
 ·exact (show chapmanref16_power.f 14 (6 - 1) = some 100000 by kernel_rfl)
 ·exact (show chapmanref16_power.f 14 (6 - 2) = some 10000 by kernel_rfl)
 ·exact (show chapmanref16_power.f 14 (6 - 3) = some 1000 by kernel_rfl)
 ·exact (show chapmanref16_power.f 14 (6 - 4) = some 100 by kernel_rfl)
 ·exact (show chapmanref16_power.f 14 (6 - 5) = some 10 by kernel_rfl)
 ·exact (show chapmanref16_power.f 14 (6 - 6) = some 1 by kernel_rfl)
theorem step_ne (s : Int) (h0 : 0 ≤ s) (h6 : s ≤ 6) : stepOf s ≠ 0 := by
 have := stepOf_pos s.toNat (by omega)
 have hS : stepOf s = stepsTab.getD s.toNat 0 := rfl
 omega
theorem number_true (n s M : Int) (hM : 0 ≤ M ∧ M ≤ 4000000000000000000) (h0 : 0 ≤ s) (h6 : s ≤ 6) (hn : -M ≤ n ∧ n ≤ M) (ht : Int.tmod n (stepOf s) = 0) (w : World) :
  Calls Tryz.prog 46 #[.agg #[.int .i64 2, .int .i64 n, .string (⟨#[]⟩ : ByteArray)], .int .i64 s, .int .i64 M] w fun e w' => e = .returned (.bool true) ∧ Below w.heap.size w w' := by
 have hu := Tryz.underlying39
 obtain ⟨P, hPe⟩ : ∃ P, stepOf s = P := ⟨_, rfl⟩
 have HP : Aside0 (∀ w', Calls Tryz.prog 37 #[.int .i64 (6 - s)] w' fun r w'' => r = .returned (.int .i64 P) ∧ Below w'.heap.size w' w'') := ⟨fun w' => (chapmanref16_power.calls 14 (6 - s) P w' (by rw [← hPe]; exact step_pow s h0 h6)).mono fun r w'' h => ⟨h.1, below_drawn h.2⟩⟩
 have hP0 : P ≠ 0 := by rw [← hPe]; exact step_ne s h0 h6
 have hm : Int.tmod n P = 0 := by rw [← hPe]; exact ht
 obtain ⟨MN, hMN⟩ : ∃ z, IntKind.i64.wrap (-M) = z := ⟨_, rfl⟩
 have hMM : MN = -M := by rw [← hMN, IntKind.wrap_i64]; omega
 have hMa : MN ≤ n := by omega
 have hMb : n ≤ M := hn.2
 have h6s : IntKind.i64.wrap (6 - s) = 6 - s := by rw [IntKind.wrap_i64]; omega
 clear hMM hPe ht hn hM
 have HX := Aside0.mk (Bxs.start w)
 go_enter Tryz.func46, Tryz.ntmps46
 go_upto_region 0 with (fail)
 refine Reg.det [(some 3, Reg.Dv.box 3 39 (fun _ => #[.int .i64 2, .int .i64 n, .string (⟨#[]⟩ : ByteArray)]) [] true), Reg.k 6 (.bool false)] [] 45 rfl (by kernel_rfl) (by kernel_rfl) ?s1 ?_
 case s1 =>
  intro iq oq pq hiq hoq hpq ρ ev W S hE hO ec ef hB hft hΦ
  have e0 : ev (.tmp 0) = .agg #[.int .i64 2, .int .i64 n, .string (⟨#[]⟩ : ByteArray)] := hO 0 rfl
  simp only [Reg.SV] at hE
  obtain ⟨e3, e6, _⟩ := hE
  rcases Reg.lt2 hiq with rfl | rfl
  all_goals (cases hoq; cases hpq)
  ·refine Reg.D.box hB ?_
   go_simp
   try rfl
  all_goals (first | exact Reg.D.mv hB | skip)
  all_goals (refine Reg.D.cv hB ?_; go_simp; try (first | done | rfl | (simp; done) | (intro h; omega)))
 intro ρ W0 S hB hft hap hΦ
 simp only [Reg.SV, Reg.SF, Nat.reduceAdd]
 obtain ⟨g3, e3, s3, hg3, _, b3⟩ := hΦ 0 _ rfl rfl
 replace e3 : ρ 3 = .pointer (some ⟨g3, 0, none⟩) := e3
 try simp only [e3]
 replace b3 : W0.heap[g3]? = some (.cells #[.int .i64 2, .int .i64 n, .string (⟨#[]⟩ : ByteArray)] 39 (0, 0)) := b3
 have HX := Aside0.mk (HX.out.join (Bxs.one hB hg3 b3))
 clear hΦ hft hap 
 go_upto_region 1 with (fail)
 try simp only [Reg.SF]
 refine Reg.det [Reg.k 7 (.pointer (some ⟨g3, 0, none⟩)), Reg.k 8 (.int .i64 2), Reg.k 9 (.bool true), Reg.k 10 (.bool true), Reg.k 11 (.pointer (some ⟨g3, 2, none⟩)), Reg.k 12 (.string (⟨#[]⟩ : ByteArray)), Reg.k 13 (.bool true), Reg.k 14 (.bool true), Reg.k 15 (.bool true), Reg.k 16 (.pointer (some ⟨g3, 1, none⟩)), Reg.k 17 (.int .i64 n), Reg.k 18 (.int .i64 M), Reg.k 19 (.int .i64 MN), Reg.k 20 (.bool true), Reg.k 21 (.bool true), Reg.k 22 (.bool true), Reg.k 23 (.pointer (some ⟨g3, 1, none⟩)), Reg.k 24 (.int .i64 n), Reg.k 25 (.int .i64 M), Reg.k 26 (.bool true), Reg.k 27 (.bool true), Reg.k 28 (.bool true), Reg.k 29 (.int .i64 s), Reg.k 30 (.bool true), Reg.k 31 (.bool true), Reg.k 32 (.bool true), Reg.k 33 (.int .i64 s), Reg.k 34 (.bool true), Reg.k 35 (.bool true), Reg.k 36 (.bool true), Reg.k 37 (.pointer (some ⟨g3, 1, none⟩)), Reg.k 38 (.int .i64 n), Reg.k 39 (.int .i64 s), Reg.k 40 (.int .i64 (6 - s)), Reg.k 41 (.int .i64 P), Reg.k 42 (.int .i64 0), Reg.k 43 (.bool true), Reg.k 44 (.bool true), Reg.k 6 (.bool true)] [] 45 rfl (by kernel_rfl) (by kernel_rfl) ?s2 ?_
 case s2 =>
  intro iq oq pq hiq hoq hpq ρ ev W S hE hO ec ef hB hft hΦ
  have e1 : ev (.tmp 1) = .int .i64 s := hO 1 rfl
  have e2 : ev (.tmp 2) = .int .i64 M := hO 2 rfl
  have e3 : ev (.tmp 3) = .pointer (some ⟨g3, 0, none⟩) := hO 3 rfl
  have mg3_0 := pw_cell_below hB (HX.out.cell 0 0 rfl rfl : _ = some (.int .i64 2 : Value))
  have mg3_2 := pw_cell_below hB (HX.out.cell 0 2 rfl rfl : _ = some (.string (⟨#[]⟩ : ByteArray) : Value))
  have mg3_1 := pw_cell_below hB (HX.out.cell 0 1 rfl rfl : _ = some (.int .i64 n : Value))
  simp only [Reg.SV] at hE
  obtain ⟨e7, e8, e9, e10, e11, e12, e13, e14, e15, e16, e17, e18, e19, e20, e21, e22, e23, e24, e25, e26, e27, e28, e29, e30, e31, e32, e33, e34, e35, e36, e37, e38, e39, e40, e41, e42, e43, e44, e6, _⟩ := hE
  rcases Reg.lt39 hiq with rfl | rfl | rfl | rfl | rfl | rfl | rfl | rfl | rfl | rfl | rfl | rfl | rfl | rfl | rfl | rfl | rfl | rfl | rfl | rfl | rfl | rfl | rfl | rfl | rfl | rfl | rfl | rfl | rfl | rfl | rfl | rfl | rfl | rfl | rfl | rfl | rfl | rfl | rfl
  all_goals (cases hoq; cases hpq)
  rotate_left 34
  ·refine Reg.D.cc (g := 37) (args := #[.int .i64 (6 - s)]) hB (by go_simp; try rfl) ?_
   exact HP.out W
  rotate_right 34
  all_goals (first | exact Reg.D.mv hB | skip)
  all_goals (refine Reg.D.cv hB ?_; go_simp; try (first | done | rfl | (exact hMN) | (simp [hP0, hm]; done) | (simp; omega)))
 intro ρ W1 S hB hft hap hΦ
 simp only [Reg.SV, Reg.SF, Nat.reduceAdd]
 have HX := Aside0.mk (HX.out.call hB)
 clear hΦ hft hap 
 go_wp2_with fail
 go_ret
 exact ⟨rfl, HX.out.below⟩
theorem has_walk (kt s : Int) (nu : Bool) (v0 v1 : Int) (v2 : ByteArray) (hT : (kt = 2 ∧ 0 ≤ s ∧ s ≤ 6) ∨ ((kt = 1 ∨ kt = 3) ∧ s = 0))
  (hV : (nu = true ∧ v0 = 0 ∧ v1 = 0 ∧ v2 = ⟨#[]⟩) ∨ (kt = 1 ∧ v0 = 1 ∧ (v1 = 0 ∨ v1 = 1) ∧ v2 = ⟨#[]⟩) ∨ (kt = 2 ∧ v0 = 2 ∧ ((-1000000000000000 ≤ v1 ∧ v1 ≤ 1000000000000000) ∧ Int.tmod v1 (stepOf s) = 0) ∧ v2 = ⟨#[]⟩) ∨ (kt = 3 ∧ v0 = 3 ∧ v1 = 0 ∧ (v2.size ≤ 40 ∧ graphicB v2.data.toList = true))) (w : World) :
  Calls Tryz.prog 25 #[.agg #[.int .i64 kt, .int .i64 s, .bool nu], .agg #[.int .i64 v0, .int .i64 v1, .string v2]] w fun e w' => e = .returned (.bool true) ∧ Below w.heap.size w w' := by
 have hu := Tryz.underlying39
 have hu3 := Tryz.underlying49
 have HNu : Aside0 ((-1000000000000000 ≤ v1 ∧ v1 ≤ 1000000000000000) ∧ Int.tmod v1 (stepOf s) = 0 → ∀ w', Calls Tryz.prog 46 #[.agg #[.int .i64 2, .int .i64 v1, .string (⟨#[]⟩ : ByteArray)], .int .i64 s, .int .i64 1000000000000000] w' fun e w'' => e = .returned (.bool true) ∧ Below w'.heap.size w' w'') :=
  ⟨fun h w' => number_true v1 s 1000000000000000 (by omega) (by omega) (by omega) h.1 h.2 w'⟩
 have HTx : Aside0 (v2.size ≤ 40 ∧ graphicB v2.data.toList = true → ∀ w', Calls Tryz.prog 47 #[.string v2] w' fun e w'' => e = .returned (.bool true) ∧ Below w'.heap.size w' w'') :=
  ⟨fun h w' => (chapmanref16_text.calls 50 v2 true w' (rtext_f v2 h.2 h.1)).mono fun e w'' h => ⟨h.1, below_drawn h.2⟩⟩
 have HX := Aside0.mk (Bxs.start w)
 go_enter Tryz.func25, Tryz.ntmps25
 go_upto_region 0 with (fail)
 refine Reg.det [(some 2, Reg.Dv.box 2 49 (fun _ => #[.int .i64 kt, .int .i64 s, .bool nu]) [] true), (some 3, Reg.Dv.box 3 39 (fun _ => #[.int .i64 v0, .int .i64 v1, .string v2]) [] true), Reg.k 4 (.bool false)] [] 98 rfl (by kernel_rfl) (by kernel_rfl) ?s3 ?_
 case s3 =>
  intro iq oq pq hiq hoq hpq ρ ev W S hE hO ec ef hB hft hΦ
  have e0 : ev (.tmp 0) = .agg #[.int .i64 kt, .int .i64 s, .bool nu] := hO 0 rfl
  have e1 : ev (.tmp 1) = .agg #[.int .i64 v0, .int .i64 v1, .string v2] := hO 1 rfl
  simp only [Reg.SV] at hE
  obtain ⟨e2, e3, e4, _⟩ := hE
  rcases Reg.lt3 hiq with rfl | rfl | rfl
  all_goals (cases hoq; cases hpq)
  rotate_left 1
  ·refine Reg.D.box hB ?_
   go_simp
   try rfl
  rotate_right 1
  ·refine Reg.D.box hB ?_
   go_simp
   try rfl
  all_goals (first | exact Reg.D.mv hB | skip)
  all_goals (refine Reg.D.cv hB ?_; go_simp; try (first | done | rfl | (simp; done) | (intro h; omega)))
 intro ρ W0 S hB hft hap hΦ
 simp only [Reg.SV, Reg.SF, Nat.reduceAdd]
 obtain ⟨g2, e2, s2, hg2, _, b2⟩ := hΦ 0 _ rfl rfl
 replace e2 : ρ 2 = .pointer (some ⟨g2, 0, none⟩) := e2
 obtain ⟨g3, e3, s3, hg3, _, b3⟩ := hΦ 1 _ rfl rfl
 replace e3 : ρ 3 = .pointer (some ⟨g3, 0, none⟩) := e3
 try simp only [e2, e3]
 replace b2 : W0.heap[g2]? = some (.cells #[.int .i64 kt, .int .i64 s, .bool nu] 49 (0, 0)) := b2
 replace b3 : W0.heap[g3]? = some (.cells #[.int .i64 v0, .int .i64 v1, .string v2] 39 (0, 0)) := b3
 have HX := Aside0.mk (HX.out.join ((Bxs.one hB hg2 b2).more hg3 b3 (by intro p hp; simp only [List.mem_cons, List.mem_singleton, List.not_mem_nil, or_false] at hp; rcases hp with rfl <;> (intro e; dsimp only at e; subst e; first | exact absurd (hap _ _ _ s2 s3) (by decide)))))
 clear hΦ hft hap 
 go_upto_region 1 with (fail)
 go_cut [32] (fun v32 wd => v32 = .bool false ∧ Aside0 (Bxs w wd [(g3, 39, #[.int .i64 v0, .int .i64 v1, .string v2]), (g2, 49, #[.int .i64 kt, .int .i64 s, .bool nu])]))
 case first =>
  rcases hT with ⟨rfl, h0, h6⟩ | ⟨hk, rfl⟩
  ·skip
   go_upto_region 1 with (fail)
   try simp only [Reg.SF]
   refine Reg.det [Reg.k 5 (.pointer (some ⟨g2, 0, none⟩)), Reg.k 6 (.int .i64 2), Reg.k 7 (.bool false), Reg.k 8 (.bool false), Reg.k 9 (.pointer (some ⟨g2, 0, none⟩)), Reg.k 10 (.int .i64 2), Reg.k 11 (.bool false), Reg.k 12 (.bool false), Reg.k 13 (.bool false), Reg.k 14 (.pointer (some ⟨g2, 1, none⟩)), Reg.k 15 (.int .i64 s), Reg.k 16 (.bool false), Reg.k 17 (.bool false), Reg.k 18 (.bool false), Reg.k 19 (.pointer (some ⟨g2, 1, none⟩)), Reg.k 20 (.int .i64 s), Reg.k 21 (.bool false), Reg.k 22 (.bool false), Reg.k 23 (.bool false), Reg.k 24 (.pointer (some ⟨g2, 0, none⟩)), Reg.k 25 (.int .i64 2), Reg.k 26 (.bool false), Reg.k 27 (.bool false), Reg.u 28, Reg.u 29, Reg.u 30, Reg.k 31 (.bool false), Reg.k 32 (.bool false)] [] 98 rfl (by kernel_rfl) (by kernel_rfl) ?s4 ?_
   case s4 =>
    intro iq oq pq hiq hoq hpq ρ ev W S hE hO ec ef hB hft hΦ
    have e2 : ev (.tmp 2) = .pointer (some ⟨g2, 0, none⟩) := hO 2 rfl
    have mg2_0 := pw_cell_below hB (HX.out.cell 1 0 rfl rfl : _ = some (.int .i64 2 : Value))
    have mg2_1 := pw_cell_below hB (HX.out.cell 1 1 rfl rfl : _ = some (.int .i64 s : Value))
    simp only [Reg.SV] at hE
    obtain ⟨e5, e6, e7, e8, e9, e10, e11, e12, e13, e14, e15, e16, e17, e18, e19, e20, e21, e22, e23, e24, e25, e26, e27, e28, e29, e30, e31, e32, _⟩ := hE
    rcases Reg.lt28 hiq with rfl | rfl | rfl | rfl | rfl | rfl | rfl | rfl | rfl | rfl | rfl | rfl | rfl | rfl | rfl | rfl | rfl | rfl | rfl | rfl | rfl | rfl | rfl | rfl | rfl | rfl | rfl | rfl
    all_goals (cases hoq; cases hpq)
    all_goals (first | exact Reg.D.sk hB | skip)
    all_goals (first | exact Reg.D.mv hB | skip)
    all_goals (refine Reg.D.cv hB ?_; go_simp; try (first | done | rfl | omega | (simp; omega)))
   intro ρ W1 S hB hft hap hΦ
   simp only [Reg.SV, Reg.SF, Nat.reduceAdd]
   have HX := Aside0.mk (HX.out.call hB)
   clear hΦ hft hap 
   go_wp2_with fail
   go_meet
   case rel => exact ⟨rfl, HX⟩
  ·skip
   go_upto_region 1 with (fail)
   try simp only [Reg.SF]
   refine Reg.det [Reg.k 5 (.pointer (some ⟨g2, 0, none⟩)), Reg.k 6 (.int .i64 kt), Reg.k 7 (.bool false), Reg.k 8 (.bool false), Reg.k 9 (.pointer (some ⟨g2, 0, none⟩)), Reg.k 10 (.int .i64 kt), Reg.k 11 (.bool false), Reg.k 12 (.bool false), Reg.k 13 (.bool false), Reg.k 14 (.pointer (some ⟨g2, 1, none⟩)), Reg.k 15 (.int .i64 0), Reg.k 16 (.bool false), Reg.k 17 (.bool false), Reg.k 18 (.bool false), Reg.k 19 (.pointer (some ⟨g2, 1, none⟩)), Reg.k 20 (.int .i64 0), Reg.k 21 (.bool false), Reg.k 22 (.bool false), Reg.k 23 (.bool false), Reg.k 24 (.pointer (some ⟨g2, 0, none⟩)), Reg.k 25 (.int .i64 kt), Reg.k 26 (.bool true), Reg.k 27 (.bool true), Reg.k 28 (.pointer (some ⟨g2, 1, none⟩)), Reg.k 29 (.int .i64 0), Reg.k 30 (.bool false), Reg.k 31 (.bool false), Reg.k 32 (.bool false)] [] 98 rfl (by kernel_rfl) (by kernel_rfl) ?s5 ?_
   case s5 =>
    intro iq oq pq hiq hoq hpq ρ ev W S hE hO ec ef hB hft hΦ
    have e2 : ev (.tmp 2) = .pointer (some ⟨g2, 0, none⟩) := hO 2 rfl
    have mg2_0 := pw_cell_below hB (HX.out.cell 1 0 rfl rfl : _ = some (.int .i64 kt : Value))
    have mg2_1 := pw_cell_below hB (HX.out.cell 1 1 rfl rfl : _ = some (.int .i64 0 : Value))
    simp only [Reg.SV] at hE
    obtain ⟨e5, e6, e7, e8, e9, e10, e11, e12, e13, e14, e15, e16, e17, e18, e19, e20, e21, e22, e23, e24, e25, e26, e27, e28, e29, e30, e31, e32, _⟩ := hE
    rcases Reg.lt28 hiq with rfl | rfl | rfl | rfl | rfl | rfl | rfl | rfl | rfl | rfl | rfl | rfl | rfl | rfl | rfl | rfl | rfl | rfl | rfl | rfl | rfl | rfl | rfl | rfl | rfl | rfl | rfl | rfl
    all_goals (cases hoq; cases hpq)
    all_goals (first | exact Reg.D.mv hB | skip)
    all_goals (refine Reg.D.cv hB ?_; go_simp; try (first | done | rfl | omega | (simp; omega)))
   intro ρ W1 S hB hft hap hΦ
   simp only [Reg.SV, Reg.SF, Nat.reduceAdd]
   have HX := Aside0.mk (HX.out.call hB)
   clear hΦ hft hap 
   go_wp2_with fail
   go_meet
   case rel => exact ⟨rfl, HX⟩
 clear HX 
 obtain ⟨hv32, HX⟩ := hcut
 generalize wc = W1c at *
 subst hv32
 rcases hV with ⟨rfl, rfl, rfl, rfl⟩ | ⟨rfl, rfl, h1, rfl⟩ | ⟨rfl, rfl, hn, rfl⟩ | ⟨rfl, rfl, rfl, hs⟩
 ·skip
  go_upto_region 3 with (fail)
  try simp only [Reg.SF]
  refine Reg.det [Reg.k 33 (.pointer (some ⟨g3, 0, none⟩)), Reg.k 34 (.int .i64 0)] [] 98 rfl (by kernel_rfl) (by kernel_rfl) ?s6 ?_
  case s6 =>
   intro iq oq pq hiq hoq hpq ρ ev W S hE hO ec ef hB hft hΦ
   have e3 : ev (.tmp 3) = .pointer (some ⟨g3, 0, none⟩) := hO 3 rfl
   have mg3_0 := pw_cell_below hB (HX.out.cell 0 0 rfl rfl : _ = some (.int .i64 0 : Value))
   simp only [Reg.SV] at hE
   obtain ⟨e33, e34, _⟩ := hE
   rcases Reg.lt2 hiq with rfl | rfl
   all_goals (cases hoq; cases hpq)
   all_goals (refine Reg.D.cv hB ?_; go_simp; try (first | done | rfl | (simp [C1.out]; done) | (simp; omega)))
  intro ρ W3 S hB hft hap hΦ
  simp only [Reg.SV, Reg.SF, Nat.reduceAdd]
  have HX := Aside0.mk (HX.out.call hB)
  clear hΦ hft hap 
  go_upto_region 4 with (fail)
  try simp only [Reg.SF]
  refine Reg.det [Reg.k 36 (.bool true), Reg.k 35 (.bool true)] [] 98 rfl (by kernel_rfl) (by kernel_rfl) ?s7 ?_
  case s7 =>
   intro iq oq pq hiq hoq hpq ρ ev W S hE hO ec ef hB hft hΦ
   have e34 : ev (.tmp 34) = .int .i64 0 := hO 34 rfl
   simp only [Reg.SV] at hE
   obtain ⟨e36, e35, _⟩ := hE
   rcases Reg.lt2 hiq with rfl | rfl
   all_goals (cases hoq; cases hpq)
   all_goals (first | exact Reg.D.mv hB | skip)
   all_goals (refine Reg.D.cv hB ?_; go_simp; try (first | done | rfl | (simp [C1.out]; done) | (simp; omega)))
  intro ρ W4 S hB hft hap hΦ
  simp only [Reg.SV, Reg.SF, Nat.reduceAdd]
  have HX := Aside0.mk (HX.out.call hB)
  clear hΦ hft hap 
  go_upto_region 5 with (fail)
  try simp only [Reg.SF]
  refine Reg.det [Reg.k 37 (.pointer (some ⟨g2, 2, none⟩)), Reg.k 38 (.bool true), Reg.k 39 (.bool true), Reg.k 40 (.pointer (some ⟨g3, 1, none⟩)), Reg.k 41 (.int .i64 0), Reg.k 42 (.bool true), Reg.k 43 (.bool true), Reg.k 44 (.bool true), Reg.k 45 (.pointer (some ⟨g3, 2, none⟩)), Reg.k 46 (.string (⟨#[]⟩ : ByteArray)), Reg.k 47 (.bool true), Reg.k 48 (.bool true), Reg.k 4 (.bool true)] [] 98 rfl (by kernel_rfl) (by kernel_rfl) ?s8 ?_
  case s8 =>
   intro iq oq pq hiq hoq hpq ρ ev W S hE hO ec ef hB hft hΦ
   have e2 : ev (.tmp 2) = .pointer (some ⟨g2, 0, none⟩) := hO 2 rfl
   have e3 : ev (.tmp 3) = .pointer (some ⟨g3, 0, none⟩) := hO 3 rfl
   have mg2_2 := pw_cell_below hB (HX.out.cell 1 2 rfl rfl : _ = some (.bool true : Value))
   have mg3_1 := pw_cell_below hB (HX.out.cell 0 1 rfl rfl : _ = some (.int .i64 0 : Value))
   have mg3_2 := pw_cell_below hB (HX.out.cell 0 2 rfl rfl : _ = some (.string (⟨#[]⟩ : ByteArray) : Value))
   simp only [Reg.SV] at hE
   obtain ⟨e37, e38, e39, e40, e41, e42, e43, e44, e45, e46, e47, e48, e4, _⟩ := hE
   rcases Reg.lt13 hiq with rfl | rfl | rfl | rfl | rfl | rfl | rfl | rfl | rfl | rfl | rfl | rfl | rfl
   all_goals (cases hoq; cases hpq)
   all_goals (first | exact Reg.D.mv hB | skip)
   all_goals (refine Reg.D.cv hB ?_; go_simp; try (first | done | rfl | (simp [C1.out]; done) | (simp; omega)))
  intro ρ W5 S hB hft hap hΦ
  simp only [Reg.SV, Reg.SF, Nat.reduceAdd]
  have HX := Aside0.mk (HX.out.call hB)
  clear hΦ hft hap 
  go_wp2_with fail
  go_ret
  exact ⟨rfl, HX.out.below⟩
 ·skip
  go_upto_region 3 with (fail)
  try simp only [Reg.SF]
  refine Reg.det [Reg.k 33 (.pointer (some ⟨g3, 0, none⟩)), Reg.k 34 (.int .i64 1)] [] 98 rfl (by kernel_rfl) (by kernel_rfl) ?s9 ?_
  case s9 =>
   intro iq oq pq hiq hoq hpq ρ ev W S hE hO ec ef hB hft hΦ
   have e3 : ev (.tmp 3) = .pointer (some ⟨g3, 0, none⟩) := hO 3 rfl
   have mg3_0 := pw_cell_below hB (HX.out.cell 0 0 rfl rfl : _ = some (.int .i64 1 : Value))
   simp only [Reg.SV] at hE
   obtain ⟨e33, e34, _⟩ := hE
   rcases Reg.lt2 hiq with rfl | rfl
   all_goals (cases hoq; cases hpq)
   all_goals (refine Reg.D.cv hB ?_; go_simp; try (first | done | rfl | (simp [C1.out]; done) | (simp; omega)))
  intro ρ W3 S hB hft hap hΦ
  simp only [Reg.SV, Reg.SF, Nat.reduceAdd]
  have HX := Aside0.mk (HX.out.call hB)
  clear hΦ hft hap 
  go_upto_region 4 with (fail)
  try simp only [Reg.SF]
  refine Reg.det [Reg.k 36 (.bool false), Reg.k 35 (.bool false)] [] 98 rfl (by kernel_rfl) (by kernel_rfl) ?s10 ?_
  case s10 =>
   intro iq oq pq hiq hoq hpq ρ ev W S hE hO ec ef hB hft hΦ
   have e34 : ev (.tmp 34) = .int .i64 1 := hO 34 rfl
   simp only [Reg.SV] at hE
   obtain ⟨e36, e35, _⟩ := hE
   rcases Reg.lt2 hiq with rfl | rfl
   all_goals (cases hoq; cases hpq)
   all_goals (first | exact Reg.D.mv hB | skip)
   all_goals (refine Reg.D.cv hB ?_; go_simp; try (first | done | rfl | (simp [C1.out]; done) | (simp; omega)))
  intro ρ W4 S hB hft hap hΦ
  simp only [Reg.SV, Reg.SF, Nat.reduceAdd]
  have HX := Aside0.mk (HX.out.call hB)
  clear hΦ hft hap 
  go_upto_region 6 with (fail)
  try simp only [Reg.SF]
  refine Reg.det [Reg.k 50 (.bool true), Reg.k 49 (.bool true)] [] 98 rfl (by kernel_rfl) (by kernel_rfl) ?s11 ?_
  case s11 =>
   intro iq oq pq hiq hoq hpq ρ ev W S hE hO ec ef hB hft hΦ
   have e34 : ev (.tmp 34) = .int .i64 1 := hO 34 rfl
   simp only [Reg.SV] at hE
   obtain ⟨e50, e49, _⟩ := hE
   rcases Reg.lt2 hiq with rfl | rfl
   all_goals (cases hoq; cases hpq)
   all_goals (first | exact Reg.D.mv hB | skip)
   all_goals (refine Reg.D.cv hB ?_; go_simp; try (first | done | rfl | (simp [C1.out]; done) | (simp; omega)))
  intro ρ W6 S hB hft hap hΦ
  simp only [Reg.SV, Reg.SF, Nat.reduceAdd]
  have HX := Aside0.mk (HX.out.call hB)
  clear hΦ hft hap 
  rcases h1 with rfl | rfl
  ·skip
   go_upto_region 7 with (fail)
   try simp only [Reg.SF]
   refine Reg.det [Reg.k 51 (.pointer (some ⟨g2, 0, none⟩)), Reg.k 52 (.int .i64 1), Reg.k 53 (.bool true), Reg.k 54 (.bool true), Reg.k 55 (.pointer (some ⟨g3, 1, none⟩)), Reg.k 56 (.int .i64 0), Reg.k 57 (.bool true), Reg.k 58 (.bool true), Reg.u 59, Reg.u 60, Reg.u 61, Reg.k 62 (.bool true), Reg.k 63 (.bool true), Reg.k 64 (.bool true), Reg.k 65 (.pointer (some ⟨g3, 2, none⟩)), Reg.k 66 (.string (⟨#[]⟩ : ByteArray)), Reg.k 67 (.bool true), Reg.k 68 (.bool true), Reg.k 4 (.bool true)] [] 98 rfl (by kernel_rfl) (by kernel_rfl) ?s12 ?_
   case s12 =>
    intro iq oq pq hiq hoq hpq ρ ev W S hE hO ec ef hB hft hΦ
    have e2 : ev (.tmp 2) = .pointer (some ⟨g2, 0, none⟩) := hO 2 rfl
    have e3 : ev (.tmp 3) = .pointer (some ⟨g3, 0, none⟩) := hO 3 rfl
    have mg2_0 := pw_cell_below hB (HX.out.cell 1 0 rfl rfl : _ = some (.int .i64 1 : Value))
    have mg3_1 := pw_cell_below hB (HX.out.cell 0 1 rfl rfl : _ = some (.int .i64 0 : Value))
    have mg3_2 := pw_cell_below hB (HX.out.cell 0 2 rfl rfl : _ = some (.string (⟨#[]⟩ : ByteArray) : Value))
    simp only [Reg.SV] at hE
    obtain ⟨e51, e52, e53, e54, e55, e56, e57, e58, e59, e60, e61, e62, e63, e64, e65, e66, e67, e68, e4, _⟩ := hE
    rcases Reg.lt19 hiq with rfl | rfl | rfl | rfl | rfl | rfl | rfl | rfl | rfl | rfl | rfl | rfl | rfl | rfl | rfl | rfl | rfl | rfl | rfl
    all_goals (cases hoq; cases hpq)
    all_goals (first | exact Reg.D.sk hB | skip)
    all_goals (first | exact Reg.D.mv hB | skip)
    all_goals (refine Reg.D.cv hB ?_; go_simp; try (first | done | rfl | (simp [C1.out]; done) | (simp; omega)))
   intro ρ W7 S hB hft hap hΦ
   simp only [Reg.SV, Reg.SF, Nat.reduceAdd]
   have HX := Aside0.mk (HX.out.call hB)
   clear hΦ hft hap 
   go_wp2_with fail
   go_ret
   exact ⟨rfl, HX.out.below⟩
  ·skip
   go_upto_region 7 with (fail)
   try simp only [Reg.SF]
   refine Reg.det [Reg.k 51 (.pointer (some ⟨g2, 0, none⟩)), Reg.k 52 (.int .i64 1), Reg.k 53 (.bool true), Reg.k 54 (.bool true), Reg.k 55 (.pointer (some ⟨g3, 1, none⟩)), Reg.k 56 (.int .i64 1), Reg.k 57 (.bool false), Reg.k 58 (.bool false), Reg.k 59 (.pointer (some ⟨g3, 1, none⟩)), Reg.k 60 (.int .i64 1), Reg.k 61 (.bool true), Reg.k 62 (.bool true), Reg.k 63 (.bool true), Reg.k 64 (.bool true), Reg.k 65 (.pointer (some ⟨g3, 2, none⟩)), Reg.k 66 (.string (⟨#[]⟩ : ByteArray)), Reg.k 67 (.bool true), Reg.k 68 (.bool true), Reg.k 4 (.bool true)] [] 98 rfl (by kernel_rfl) (by kernel_rfl) ?s13 ?_
   case s13 =>
    intro iq oq pq hiq hoq hpq ρ ev W S hE hO ec ef hB hft hΦ
    have e2 : ev (.tmp 2) = .pointer (some ⟨g2, 0, none⟩) := hO 2 rfl
    have e3 : ev (.tmp 3) = .pointer (some ⟨g3, 0, none⟩) := hO 3 rfl
    have mg2_0 := pw_cell_below hB (HX.out.cell 1 0 rfl rfl : _ = some (.int .i64 1 : Value))
    have mg3_1 := pw_cell_below hB (HX.out.cell 0 1 rfl rfl : _ = some (.int .i64 1 : Value))
    have mg3_2 := pw_cell_below hB (HX.out.cell 0 2 rfl rfl : _ = some (.string (⟨#[]⟩ : ByteArray) : Value))
    simp only [Reg.SV] at hE
    obtain ⟨e51, e52, e53, e54, e55, e56, e57, e58, e59, e60, e61, e62, e63, e64, e65, e66, e67, e68, e4, _⟩ := hE
    rcases Reg.lt19 hiq with rfl | rfl | rfl | rfl | rfl | rfl | rfl | rfl | rfl | rfl | rfl | rfl | rfl | rfl | rfl | rfl | rfl | rfl | rfl
    all_goals (cases hoq; cases hpq)
    all_goals (first | exact Reg.D.mv hB | skip)
    all_goals (refine Reg.D.cv hB ?_; go_simp; try (first | done | rfl | (simp [C1.out]; done) | (simp; omega)))
   intro ρ W7 S hB hft hap hΦ
   simp only [Reg.SV, Reg.SF, Nat.reduceAdd]
   have HX := Aside0.mk (HX.out.call hB)
   clear hΦ hft hap 
   go_wp2_with fail
   go_ret
   exact ⟨rfl, HX.out.below⟩
 ·skip
  go_upto_region 3 with (fail)
  try simp only [Reg.SF]
  refine Reg.det [Reg.k 33 (.pointer (some ⟨g3, 0, none⟩)), Reg.k 34 (.int .i64 2)] [] 98 rfl (by kernel_rfl) (by kernel_rfl) ?s14 ?_
  case s14 =>
   intro iq oq pq hiq hoq hpq ρ ev W S hE hO ec ef hB hft hΦ
   have e3 : ev (.tmp 3) = .pointer (some ⟨g3, 0, none⟩) := hO 3 rfl
   have mg3_0 := pw_cell_below hB (HX.out.cell 0 0 rfl rfl : _ = some (.int .i64 2 : Value))
   simp only [Reg.SV] at hE
   obtain ⟨e33, e34, _⟩ := hE
   rcases Reg.lt2 hiq with rfl | rfl
   all_goals (cases hoq; cases hpq)
   all_goals (refine Reg.D.cv hB ?_; go_simp; try (first | done | rfl | (simp [C1.out]; done) | (simp; omega)))
  intro ρ W3 S hB hft hap hΦ
  simp only [Reg.SV, Reg.SF, Nat.reduceAdd]
  have HX := Aside0.mk (HX.out.call hB)
  clear hΦ hft hap 
  go_upto_region 4 with (fail)
  try simp only [Reg.SF]
  refine Reg.det [Reg.k 36 (.bool false), Reg.k 35 (.bool false)] [] 98 rfl (by kernel_rfl) (by kernel_rfl) ?s15 ?_
  case s15 =>
   intro iq oq pq hiq hoq hpq ρ ev W S hE hO ec ef hB hft hΦ
   have e34 : ev (.tmp 34) = .int .i64 2 := hO 34 rfl
   simp only [Reg.SV] at hE
   obtain ⟨e36, e35, _⟩ := hE
   rcases Reg.lt2 hiq with rfl | rfl
   all_goals (cases hoq; cases hpq)
   all_goals (first | exact Reg.D.mv hB | skip)
   all_goals (refine Reg.D.cv hB ?_; go_simp; try (first | done | rfl | (simp [C1.out]; done) | (simp; omega)))
  intro ρ W4 S hB hft hap hΦ
  simp only [Reg.SV, Reg.SF, Nat.reduceAdd]
  have HX := Aside0.mk (HX.out.call hB)
  clear hΦ hft hap 
  go_upto_region 6 with (fail)
  try simp only [Reg.SF]
  refine Reg.det [Reg.k 50 (.bool false), Reg.k 49 (.bool false)] [] 98 rfl (by kernel_rfl) (by kernel_rfl) ?s16 ?_
  case s16 =>
   intro iq oq pq hiq hoq hpq ρ ev W S hE hO ec ef hB hft hΦ
   have e34 : ev (.tmp 34) = .int .i64 2 := hO 34 rfl
   simp only [Reg.SV] at hE
   obtain ⟨e50, e49, _⟩ := hE
   rcases Reg.lt2 hiq with rfl | rfl
   all_goals (cases hoq; cases hpq)
   all_goals (first | exact Reg.D.mv hB | skip)
   all_goals (refine Reg.D.cv hB ?_; go_simp; try (first | done | rfl | (simp [C1.out]; done) | (simp; omega)))
  intro ρ W6 S hB hft hap hΦ
  simp only [Reg.SV, Reg.SF, Nat.reduceAdd]
  have HX := Aside0.mk (HX.out.call hB)
  clear hΦ hft hap 
  go_upto_region 8 with (fail)
  try simp only [Reg.SF]
  refine Reg.det [Reg.k 70 (.bool true), Reg.k 69 (.bool true)] [] 98 rfl (by kernel_rfl) (by kernel_rfl) ?s17 ?_
  case s17 =>
   intro iq oq pq hiq hoq hpq ρ ev W S hE hO ec ef hB hft hΦ
   have e34 : ev (.tmp 34) = .int .i64 2 := hO 34 rfl
   simp only [Reg.SV] at hE
   obtain ⟨e70, e69, _⟩ := hE
   rcases Reg.lt2 hiq with rfl | rfl
   all_goals (cases hoq; cases hpq)
   all_goals (first | exact Reg.D.mv hB | skip)
   all_goals (refine Reg.D.cv hB ?_; go_simp; try (first | done | rfl | (simp [C1.out]; done) | (simp; omega)))
  intro ρ W8 S hB hft hap hΦ
  simp only [Reg.SV, Reg.SF, Nat.reduceAdd]
  have HX := Aside0.mk (HX.out.call hB)
  clear hΦ hft hap 
  go_upto_region 9 with (fail)
  try simp only [Reg.SF]
  refine Reg.det [Reg.k 71 (.pointer (some ⟨g2, 0, none⟩)), Reg.k 72 (.int .i64 2), Reg.k 73 (.bool true), Reg.k 74 (.bool true), Reg.k 75 (.agg #[.int .i64 2, .int .i64 v1, .string (⟨#[]⟩ : ByteArray)]), Reg.k 76 (.pointer (some ⟨g2, 1, none⟩)), Reg.k 77 (.int .i64 s), Reg.k 78 (.bool true), Reg.k 79 (.bool true), Reg.k 4 (.bool true)] [] 98 rfl (by kernel_rfl) (by kernel_rfl) ?s18 ?_
  case s18 =>
   intro iq oq pq hiq hoq hpq ρ ev W S hE hO ec ef hB hft hΦ
   have e2 : ev (.tmp 2) = .pointer (some ⟨g2, 0, none⟩) := hO 2 rfl
   have e3 : ev (.tmp 3) = .pointer (some ⟨g3, 0, none⟩) := hO 3 rfl
   have mg2_0 := pw_cell_below hB (HX.out.cell 1 0 rfl rfl : _ = some (.int .i64 2 : Value))
   have mg3_0 := pw_cell_below hB (HX.out.cell 0 0 rfl rfl : _ = some (.int .i64 2 : Value))
   have mg3_1 := pw_cell_below hB (HX.out.cell 0 1 rfl rfl : _ = some (.int .i64 v1 : Value))
   have mg3_2 := pw_cell_below hB (HX.out.cell 0 2 rfl rfl : _ = some (.string (⟨#[]⟩ : ByteArray) : Value))
   have mg2_1 := pw_cell_below hB (HX.out.cell 1 1 rfl rfl : _ = some (.int .i64 s : Value))
   simp only [Reg.SV] at hE
   obtain ⟨e71, e72, e73, e74, e75, e76, e77, e78, e79, e4, _⟩ := hE
   rcases Reg.lt10 hiq with rfl | rfl | rfl | rfl | rfl | rfl | rfl | rfl | rfl | rfl
   all_goals (cases hoq; cases hpq)
   rotate_left 7
   ·refine Reg.D.cc (g := 46) (args := #[.agg #[.int .i64 2, .int .i64 v1, .string (⟨#[]⟩ : ByteArray)], .int .i64 s, .int .i64 1000000000000000]) hB (by go_simp; try rfl) ?_
    exact HNu.out hn W
   rotate_right 7
   all_goals (first | exact Reg.D.mv hB | skip)
   all_goals (refine Reg.D.cv hB ?_; go_simp; try (first | done | rfl | (simp [C1.out]; done) | (simp; omega)))
  intro ρ W9 S hB hft hap hΦ
  simp only [Reg.SV, Reg.SF, Nat.reduceAdd]
  have HX := Aside0.mk (HX.out.call hB)
  clear hΦ hft hap 
  go_wp2_with fail
  go_ret
  exact ⟨rfl, HX.out.below⟩
 ·skip
  go_upto_region 3 with (fail)
  try simp only [Reg.SF]
  refine Reg.det [Reg.k 33 (.pointer (some ⟨g3, 0, none⟩)), Reg.k 34 (.int .i64 3)] [] 98 rfl (by kernel_rfl) (by kernel_rfl) ?s19 ?_
  case s19 =>
   intro iq oq pq hiq hoq hpq ρ ev W S hE hO ec ef hB hft hΦ
   have e3 : ev (.tmp 3) = .pointer (some ⟨g3, 0, none⟩) := hO 3 rfl
   have mg3_0 := pw_cell_below hB (HX.out.cell 0 0 rfl rfl : _ = some (.int .i64 3 : Value))
   simp only [Reg.SV] at hE
   obtain ⟨e33, e34, _⟩ := hE
   rcases Reg.lt2 hiq with rfl | rfl
   all_goals (cases hoq; cases hpq)
   all_goals (refine Reg.D.cv hB ?_; go_simp; try (first | done | rfl | (simp [C1.out]; done) | (simp; omega)))
  intro ρ W3 S hB hft hap hΦ
  simp only [Reg.SV, Reg.SF, Nat.reduceAdd]
  have HX := Aside0.mk (HX.out.call hB)
  clear hΦ hft hap 
  go_upto_region 4 with (fail)
  try simp only [Reg.SF]
  refine Reg.det [Reg.k 36 (.bool false), Reg.k 35 (.bool false)] [] 98 rfl (by kernel_rfl) (by kernel_rfl) ?s20 ?_
  case s20 =>
   intro iq oq pq hiq hoq hpq ρ ev W S hE hO ec ef hB hft hΦ
   have e34 : ev (.tmp 34) = .int .i64 3 := hO 34 rfl
   simp only [Reg.SV] at hE
   obtain ⟨e36, e35, _⟩ := hE
   rcases Reg.lt2 hiq with rfl | rfl
   all_goals (cases hoq; cases hpq)
   all_goals (first | exact Reg.D.mv hB | skip)
   all_goals (refine Reg.D.cv hB ?_; go_simp; try (first | done | rfl | (simp [C1.out]; done) | (simp; omega)))
  intro ρ W4 S hB hft hap hΦ
  simp only [Reg.SV, Reg.SF, Nat.reduceAdd]
  have HX := Aside0.mk (HX.out.call hB)
  clear hΦ hft hap 
  go_upto_region 6 with (fail)
  try simp only [Reg.SF]
  refine Reg.det [Reg.k 50 (.bool false), Reg.k 49 (.bool false)] [] 98 rfl (by kernel_rfl) (by kernel_rfl) ?s21 ?_
  case s21 =>
   intro iq oq pq hiq hoq hpq ρ ev W S hE hO ec ef hB hft hΦ
   have e34 : ev (.tmp 34) = .int .i64 3 := hO 34 rfl
   simp only [Reg.SV] at hE
   obtain ⟨e50, e49, _⟩ := hE
   rcases Reg.lt2 hiq with rfl | rfl
   all_goals (cases hoq; cases hpq)
   all_goals (first | exact Reg.D.mv hB | skip)
   all_goals (refine Reg.D.cv hB ?_; go_simp; try (first | done | rfl | (simp [C1.out]; done) | (simp; omega)))
  intro ρ W6 S hB hft hap hΦ
  simp only [Reg.SV, Reg.SF, Nat.reduceAdd]
  have HX := Aside0.mk (HX.out.call hB)
  clear hΦ hft hap 
  go_upto_region 8 with (fail)
  try simp only [Reg.SF]
  refine Reg.det [Reg.k 70 (.bool false), Reg.k 69 (.bool false)] [] 98 rfl (by kernel_rfl) (by kernel_rfl) ?s22 ?_
  case s22 =>
   intro iq oq pq hiq hoq hpq ρ ev W S hE hO ec ef hB hft hΦ
   have e34 : ev (.tmp 34) = .int .i64 3 := hO 34 rfl
   simp only [Reg.SV] at hE
   obtain ⟨e70, e69, _⟩ := hE
   rcases Reg.lt2 hiq with rfl | rfl
   all_goals (cases hoq; cases hpq)
   all_goals (first | exact Reg.D.mv hB | skip)
   all_goals (refine Reg.D.cv hB ?_; go_simp; try (first | done | rfl | (simp [C1.out]; done) | (simp; omega)))
  intro ρ W8 S hB hft hap hΦ
  simp only [Reg.SV, Reg.SF, Nat.reduceAdd]
  have HX := Aside0.mk (HX.out.call hB)
  clear hΦ hft hap 
  go_upto_region 10 with (fail)
  try simp only [Reg.SF]
  refine Reg.det [Reg.k 80 (.pointer (some ⟨g3, 0, none⟩)), Reg.k 81 (.int .i64 3), Reg.k 82 (.bool true), Reg.k 83 (.bool true), Reg.k 84 (.pointer (some ⟨g2, 0, none⟩)), Reg.k 85 (.int .i64 3), Reg.k 86 (.bool true), Reg.k 87 (.bool true), Reg.k 88 (.bool true), Reg.k 89 (.pointer (some ⟨g3, 1, none⟩)), Reg.k 90 (.int .i64 0), Reg.k 91 (.bool true), Reg.k 92 (.bool true), Reg.k 93 (.bool true), Reg.k 94 (.pointer (some ⟨g3, 2, none⟩)), Reg.k 95 (.string v2), Reg.k 96 (.bool true), Reg.k 97 (.bool true), Reg.k 4 (.bool true)] [] 98 rfl (by kernel_rfl) (by kernel_rfl) ?s23 ?_
  case s23 =>
   intro iq oq pq hiq hoq hpq ρ ev W S hE hO ec ef hB hft hΦ
   have e2 : ev (.tmp 2) = .pointer (some ⟨g2, 0, none⟩) := hO 2 rfl
   have e3 : ev (.tmp 3) = .pointer (some ⟨g3, 0, none⟩) := hO 3 rfl
   have mg3_0 := pw_cell_below hB (HX.out.cell 0 0 rfl rfl : _ = some (.int .i64 3 : Value))
   have mg2_0 := pw_cell_below hB (HX.out.cell 1 0 rfl rfl : _ = some (.int .i64 3 : Value))
   have mg3_1 := pw_cell_below hB (HX.out.cell 0 1 rfl rfl : _ = some (.int .i64 0 : Value))
   have mg3_2 := pw_cell_below hB (HX.out.cell 0 2 rfl rfl : _ = some (.string v2 : Value))
   simp only [Reg.SV] at hE
   obtain ⟨e80, e81, e82, e83, e84, e85, e86, e87, e88, e89, e90, e91, e92, e93, e94, e95, e96, e97, e4, _⟩ := hE
   rcases Reg.lt19 hiq with rfl | rfl | rfl | rfl | rfl | rfl | rfl | rfl | rfl | rfl | rfl | rfl | rfl | rfl | rfl | rfl | rfl | rfl | rfl
   all_goals (cases hoq; cases hpq)
   rotate_left 16
   ·refine Reg.D.cc (g := 47) (args := #[.string v2]) hB (by go_simp; try rfl) ?_
    exact HTx.out hs W
   rotate_right 16
   all_goals (first | exact Reg.D.mv hB | skip)
   all_goals (refine Reg.D.cv hB ?_; go_simp; try (first | done | rfl | (simp [C1.out]; done) | (simp; omega)))
  intro ρ W10 S hB hft hap hΦ
  simp only [Reg.SV, Reg.SF, Nat.reduceAdd]
  have HX := Aside0.mk (HX.out.call hB)
  clear hΦ hft hap 
  go_wp2_with fail
  go_ret
  exact ⟨rfl, HX.out.below⟩
theorem Has_true {T : S49} {v : S39} (hT : typOk T) (hv : tyOk T v) (w : World) : Calls Tryz.prog 25 #[.agg #[.int .i64 T.f0, .int .i64 T.f1, .bool T.f2], .agg #[.int .i64 v.f0, .int .i64 v.f1, .string v.f2]] w fun e w' => e = .returned (.bool true) ∧ Below w.heap.size w w' := by
 refine has_walk T.f0 T.f1 T.f2 v.f0 v.f1 v.f2 ?_ ?_ w
 ·rcases hT with h | h | h
  ·exact .inl h
  ·exact .inr ⟨.inr h.1, h.2⟩
  ·exact .inr ⟨.inl h.1, h.2⟩
 ·rcases hv with ⟨h, rfl⟩ | ⟨h, rfl | rfl⟩ | ⟨h, n, h1, h2, rfl⟩ | ⟨h, s, h1, h2, rfl⟩
  ·exact .inl ⟨h, rfl, rfl, rfl⟩
  ·exact .inr (.inl ⟨h, rfl, .inl rfl, rfl⟩)
  ·exact .inr (.inl ⟨h, rfl, .inr rfl, rfl⟩)
  ·exact .inr (.inr (.inl ⟨h, rfl, ⟨h1, h2⟩, rfl⟩))
  ·exact .inr (.inr (.inr ⟨h, rfl, rfl, h1, h2⟩))
end
section
open Go.RowKit YtmebkjdknhknbaaGreatDoor.G YtmebkjdknhknbaaGreatDoorW.PrintWords YtmebkjdknhknbaaGreatDoorW.PrintLast YtmebkjdknhknbaaGreatDoorW.PrintMore
def rngV (v : S39) : Prop := v.f0 = 1 → v.f1 = 0 ∨ v.f1 = 1
def strP (v : Value) (B : Nat) (W : World) (S : Nat → Prop) : Prop := ∃ s : ByteArray, v = .string s ∧ s.size ≤ 30
theorem strP_st {v : Value} {B : Nat} {W W' : World} {S : Nat → Prop} (hz : W.heap.size ≤ W'.heap.size) (hk : ∀ k, k < W.heap.size → S k → W'.heap[k]? = W.heap[k]?) (h : strP v B W S) : strP v B W' S := h
def strDv (d : Nat) : Reg.Dv := Reg.Dv.n d strP strP_st
theorem val_str (d : Nat) (n : Nat) (ρ : Nat → Value) : (strDv d).val n ρ = ρ n := rfl
theorem str_step {f d : Nat} {eats : List (Nat × Nat)} {i : Nat} {ρ : Nat → Value} {S : Nat → Nat → Prop} {w W : World} {args : Array Value} (hB : Below w.heap.size w W) (h : Calls Tryz.prog f args W fun e w' => (∃ s : ByteArray, e = .returned (.string s) ∧ s.size ≤ 30) ∧ Below W.heap.size W w') :
  Calls Tryz.prog f args W fun e w' => ∃ v, e = .returned v ∧ Reg.Kv eats w i (some d) (strDv d) ρ W S v w' := by
 refine h.mono fun e w' h => ?_
 obtain ⟨⟨s, rfl, hs⟩, hb⟩ := h
 exact ⟨_, rfl, Reg.Kv.n (Φ := strP) (st := strP_st) (fun k => W.heap.size ≤ k ∧ k < w'.heap.size) hB hb (fun k hk => hk) ⟨s, rfl, hs⟩⟩
theorem Cut_ex (n s : Int) (h0 : 0 ≤ s) (h6 : s ≤ 6) : ∃ C : Int, ∀ w, Calls Tryz.prog 21 #[.int .i64 n, .int .i64 s] w fun e w' => e = .returned (.int .i64 C) ∧ Below w.heap.size w w' := by
 obtain ⟨P, hPe⟩ : ∃ P, stepOf s = P := ⟨_, rfl⟩
 have HP : Aside0 (∀ w', Calls Tryz.prog 37 #[.int .i64 (6 - s)] w' fun r w'' => r = .returned (.int .i64 P) ∧ Below w'.heap.size w' w'') := ⟨fun w' => (chapmanref16_power.calls 14 (6 - s) P w' (by rw [← hPe]; exact step_pow s h0 h6)).mono fun r w'' h => ⟨h.1, below_drawn h.2⟩⟩
 have hP0 : P ≠ 0 := by rw [← hPe]; exact step_ne s h0 h6
 have hs6 : IntKind.i64.wrap (6 - s) = 6 - s := by rw [IntKind.wrap_i64]; omega
 clear hPe
 refine ⟨wrap64 (n - Int.tmod n P), fun w => ?_⟩
 go_enter Tryz.func21, Tryz.ntmps21
 go_wp2_with (first | (go_at_call 37; (with_reducible refine (HP.out _).mono ?_); rintro e W1 ⟨rfl, hb1⟩; have HB := Aside0.mk hb1; clear hb1))
 go_ret
 exact ⟨rfl, HB.out⟩
theorem wish_walk (T : S49) (sv : S39) (B : Option Addr) (nb cb : Nat) (K N N2 X7 X11 P11 M11 N5 X13 S6 X15 P15 M15 L17 J17 X18 Y18 : Int) (WS : ByteArray) (w : World) (hsv : sv.f2.size ≤ 100) (hsr : rngV sv) (hN2r : N2 = 0 ∨ N2 = 1)
  (HK : Aside0 (∀ w', Below w.heap.size w w' → Calls Tryz.prog 36 #[.slice B nb cb, .int .i64 0] w' fun e w'' => e = .returned (.int .i64 K) ∧ Below w'.heap.size w' w''))
  (HN : Aside0 (∀ w', Below w.heap.size w w' → Calls Tryz.prog 36 #[.slice B nb cb, .int .i64 1] w' fun e w'' => e = .returned (.int .i64 N) ∧ Below w'.heap.size w' w''))
  (hK16 : IntKind.i64.wrap (Int.tdiv K 16) = Int.tdiv K 16) (hX7 : Int.tmod (Int.tdiv K 16) 4 = X7) (hN2 : Int.tmod N 2 = N2) (w128 : IntKind.i64.wrap (N - 128) = N - 128) (hK8 : IntKind.i64.wrap (Int.tdiv K 8) = Int.tdiv K 8) (hX11 : Int.tmod (Int.tdiv K 8) 12 = X11) (hM11 : IntKind.i64.wrap ((N - 128) * P11) = M11) (hN5 : Int.tmod N 5 = N5) (hX13 : IntKind.i64.wrap (N5 - 2) = X13) (hS6 : IntKind.i64.wrap (6 - T.f1) = S6)
  (hX15 : Int.tmod (Int.tdiv K 8) 9 = X15) (hM15 : IntKind.i64.wrap ((N - 128) * P15) = M15) (hL17 : IntKind.i64.wrap ((sv.f2.size : Int) + 1) = L17) (hJ17 : Int.tmod N L17 = J17) (hL0 : L17 ≠ 0) (hJa : 0 ≤ J17) (hJb : J17 ≤ sv.f2.size) (hX18 : IntKind.i64.wrap (Int.tdiv K 8 * 5) = X18) (hY18 : IntKind.i64.wrap (X18 + N) = Y18)
  (HP11 : Aside0 (∀ w', Calls Tryz.prog 37 #[.int .i64 X11] w' fun e w'' => e = .returned (.int .i64 P11) ∧ Below w'.heap.size w' w'')) (HP15 : Aside0 (∀ w', Calls Tryz.prog 37 #[.int .i64 X15] w' fun e w'' => e = .returned (.int .i64 P15) ∧ Below w'.heap.size w' w''))
  (HP6 : Aside0 (T.f0 = 2 → ∃ P : Int, ∀ w', Calls Tryz.prog 37 #[.int .i64 S6] w' fun e w'' => e = .returned (.int .i64 P) ∧ Below w'.heap.size w' w'')) (HCu : Aside0 (T.f0 = 2 → ∃ C : Int, ∀ w', Calls Tryz.prog 21 #[.int .i64 M11, .int .i64 T.f1] w' fun e w'' => e = .returned (.int .i64 C) ∧ Below w'.heap.size w' w''))
  (HTx : Aside0 (∀ w', Calls Tryz.prog 38 #[.int .i64 M15] w' fun e w'' => (∃ s : ByteArray, e = .returned (.string s) ∧ s.size ≤ 30) ∧ Below w'.heap.size w' w'')) (HWo : Aside0 (∀ w', Calls Tryz.prog 39 #[.int .i64 Y18, .int .i64 N] w' fun e w'' => e = .returned (.string WS) ∧ Below w'.heap.size w' w'')) (HWS : Aside0 (WS.size ≤ 40)) :
  Calls Tryz.prog 15 #[.agg #[.int .i64 T.f0, .int .i64 T.f1, .bool T.f2], .agg #[.int .i64 sv.f0, .int .i64 sv.f1, .string sv.f2], .slice B nb cb] w fun e w' => (∃ v : S39, e = .returned (.agg (vC v)) ∧ v.f2.size ≤ 100 ∧ rngV v) ∧ Below w.heap.size w w' := by
 have hu49 := Tryz.underlying49
 have hu39 := Tryz.underlying39
 have HX := Aside0.mk (Bxs.start w)
 go_enter Tryz.func15, Tryz.ntmps15
 go_upto_region 0 with (fail)
 refine Reg.det [(some 3, Reg.Dv.box 3 49 (fun _ => #[.int .i64 T.f0, .int .i64 T.f1, .bool T.f2]) [] true), (some 4, Reg.Dv.box 4 39 (fun _ => #[.int .i64 sv.f0, .int .i64 sv.f1, .string sv.f2]) [] true), (some 6, Reg.Dv.box 6 39 (fun _ => #[.int .i64 0, .int .i64 0, .string (⟨#[]⟩ : ByteArray)]) [] true)] [] 111 rfl (by kernel_rfl) (by kernel_rfl) ?s1 ?_
 case s1 =>
  intro iq oq pq hiq hoq hpq ρ ev W S hE hO ec ef hB hft hΦ
  have e0 : ev (.tmp 0) = .agg #[.int .i64 T.f0, .int .i64 T.f1, .bool T.f2] := hO 0 rfl
  have e1 : ev (.tmp 1) = .agg #[.int .i64 sv.f0, .int .i64 sv.f1, .string sv.f2] := hO 1 rfl
  simp only [Reg.SV, val_str] at hE
  obtain ⟨e3, e4, e6, _⟩ := hE
  rcases Reg.lt3 hiq with rfl | rfl | rfl
  all_goals (cases hoq; cases hpq)
  rotate_left 2
  ·refine Reg.D.box hB ?_
   go_simp
   try rfl
  rotate_right 2
  rotate_left 1
  ·refine Reg.D.box hB ?_
   go_simp
   try rfl
  rotate_right 1
  ·refine Reg.D.box hB ?_
   go_simp
   try rfl
 intro ρ W0 S hB hft hap hΦ
 simp only [Reg.SV, val_str, Reg.SF, Nat.reduceAdd]
 obtain ⟨g3, e3, s3, hg3, _, b3⟩ := hΦ 0 _ rfl rfl
 replace e3 : ρ 3 = .pointer (some ⟨g3, 0, none⟩) := e3
 obtain ⟨g4, e4, s4, hg4, _, b4⟩ := hΦ 1 _ rfl rfl
 replace e4 : ρ 4 = .pointer (some ⟨g4, 0, none⟩) := e4
 obtain ⟨g6, e6, s6, hg6, _, b6⟩ := hΦ 2 _ rfl rfl
 replace e6 : ρ 6 = .pointer (some ⟨g6, 0, none⟩) := e6
 try simp only [e3, e4, e6]
 replace b3 : W0.heap[g3]? = some (.cells #[.int .i64 T.f0, .int .i64 T.f1, .bool T.f2] 49 (0, 0)) := b3
 replace b4 : W0.heap[g4]? = some (.cells #[.int .i64 sv.f0, .int .i64 sv.f1, .string sv.f2] 39 (0, 0)) := b4
 replace b6 : W0.heap[g6]? = some (.cells #[.int .i64 0, .int .i64 0, .string (⟨#[]⟩ : ByteArray)] 39 (0, 0)) := b6
 have HX := Aside0.mk (HX.out.join (((Bxs.one hB hg3 b3).more hg4 b4 (by intro p hp; simp only [List.mem_cons, List.mem_singleton, List.not_mem_nil, or_false] at hp; rcases hp with rfl <;> (intro e; dsimp only at e; subst e; first | exact absurd (hap _ _ _ s3 s4) (by decide)))).more hg6 b6 (by intro p hp; simp only [List.mem_cons, List.mem_singleton, List.not_mem_nil, or_false] at hp; rcases hp with rfl | rfl <;> (intro e; dsimp only at e; subst e; first | exact absurd (hap _ _ _ s3 s6) (by decide) | exact absurd (hap _ _ _ s4 s6) (by decide)))))
 clear hΦ hft hap 
 go_upto_region 1 with (fail)
 try simp only [Reg.SF]
 refine Reg.det [Reg.k 9 (.slice B nb cb), Reg.k 10 (.int .i64 K), Reg.k 11 (.slice B nb cb), Reg.k 12 (.int .i64 N), Reg.k 7 (.int .i64 K), Reg.k 8 (.int .i64 N)] [] 111 rfl (by kernel_rfl) (by kernel_rfl) ?s2 ?_
 case s2 =>
  intro iq oq pq hiq hoq hpq ρ ev W S hE hO ec ef hB hft hΦ
  have e2 : ev (.tmp 2) = .slice B nb cb := hO 2 rfl
  simp only [Reg.SV, val_str] at hE
  obtain ⟨e9, e10, e11, e12, e7, e8, _⟩ := hE
  rcases Reg.lt6 hiq with rfl | rfl | rfl | rfl | rfl | rfl
  all_goals (cases hoq; cases hpq)
  rotate_left 3
  ·refine Reg.D.cc (g := 36) (args := #[.slice B nb cb, .int .i64 1]) hB (by go_simp; try rfl) ?_
   exact HN.out W (below_step HX.out.below hB)
  rotate_right 3
  rotate_left 1
  ·refine Reg.D.cc (g := 36) (args := #[.slice B nb cb, .int .i64 0]) hB (by go_simp; try rfl) ?_
   exact HK.out W (below_step HX.out.below hB)
  rotate_right 1
  all_goals (first | exact Reg.D.mv hB | skip)
  all_goals (refine Reg.D.cv hB ?_; go_simp; try (first | done | rfl | (simp; done) | (intro h; omega)))
 intro ρ W1 S hB hft hap hΦ
 simp only [Reg.SV, val_str, Reg.SF, Nat.reduceAdd]
 have HX := Aside0.mk (HX.out.call hB)
 clear hΦ hft hap 
 obtain ⟨c2, hc2⟩ : ∃ b, (Int.tmod K 8 == 0) = b := ⟨_, rfl⟩
 have Ac2 := Aside0.mk hc2
 clear hc2
 obtain ⟨c4, hc4⟩ : ∃ b, (Int.tmod K 8 == 1) = b := ⟨_, rfl⟩
 have Ac4 := Aside0.mk hc4
 clear hc4
 obtain ⟨c6, hc6⟩ : ∃ b, (Int.tmod K 16 == 2) = b := ⟨_, rfl⟩
 have Ac6 := Aside0.mk hc6
 clear hc6
 obtain ⟨c8, hc8⟩ : ∃ b, (T.f0 == 1) = b := ⟨_, rfl⟩
 have Ac8 := Aside0.mk hc8
 clear hc8
 obtain ⟨cT, hcT⟩ : ∃ b, (T.f0 == 2) = b := ⟨_, rfl⟩
 have AcT := Aside0.mk hcT
 clear hcT
 obtain ⟨c14, hc14⟩ : ∃ b, (Int.tmod K 8 == 3) = b := ⟨_, rfl⟩
 have Ac14 := Aside0.mk hc14
 clear hc14
 obtain ⟨c16, hc16⟩ : ∃ b, (Int.tmod K 8 == 4) = b := ⟨_, rfl⟩
 have Ac16 := Aside0.mk hc16
 clear hc16
 obtain ⟨c5, hc5⟩ : ∃ b, decide (Int.tmod K 8 < 5) = b := ⟨_, rfl⟩
 have Ac5 := Aside0.mk hc5
 clear hc5
 have AcT2 : Aside0 (cT = true → T.f0 = 2) := ⟨fun h => by have := AcT.out; rw [h] at this; simpa using this⟩
 go_upto_region 2 with (fail)
 try simp only [Reg.SF]
 refine Reg.det [Reg.k 14 (.int .i64 K), Reg.k 15 (.int .i64 (Int.tmod K 8)), Reg.k 16 (.bool c2), Reg.k 13 (.bool c2)] [] 111 rfl (by kernel_rfl) (by kernel_rfl) ?s3 ?_
 case s3 =>
  intro iq oq pq hiq hoq hpq ρ ev W S hE hO ec ef hB hft hΦ
  have e7 : ev (.tmp 7) = .int .i64 K := hO 7 rfl
  simp only [Reg.SV, val_str] at hE
  obtain ⟨e14, e15, e16, e13, _⟩ := hE
  rcases Reg.lt4 hiq with rfl | rfl | rfl | rfl
  all_goals (cases hoq; cases hpq)
  all_goals (first | exact Reg.D.mv hB | skip)
  all_goals (refine Reg.D.cv hB ?_; go_simp; try (first | done | rfl | (exact Ac2.out) | (simp; done)))
 intro ρ W2 S hB hft hap hΦ
 simp only [Reg.SV, val_str, Reg.SF, Nat.reduceAdd]
 have HX := Aside0.mk (HX.out.call hB)
 clear hΦ hft hap 
 cases c2 with
 | true =>
  go_upto_region 3 with (fail)
  try simp only [Reg.SF]
  refine Reg.det [Reg.k 17 (.agg #[.int .i64 sv.f0, .int .i64 sv.f1, .string sv.f2])] [] 111 rfl (by kernel_rfl) (by kernel_rfl) ?s4 ?_
  case s4 =>
   intro iq oq pq hiq hoq hpq ρ ev W S hE hO ec ef hB hft hΦ
   have e4 : ev (.tmp 4) = .pointer (some ⟨g4, 0, none⟩) := hO 4 rfl
   have mg4_0 := pw_cell_below hB (HX.out.cell 1 0 rfl rfl : _ = some (.int .i64 sv.f0 : Value))
   have mg4_1 := pw_cell_below hB (HX.out.cell 1 1 rfl rfl : _ = some (.int .i64 sv.f1 : Value))
   have mg4_2 := pw_cell_below hB (HX.out.cell 1 2 rfl rfl : _ = some (.string sv.f2 : Value))
   simp only [Reg.SV, val_str] at hE
   obtain ⟨e17, _⟩ := hE
   obtain rfl : iq = 0 := by have : iq < 1 := hiq; omega
   cases hoq; cases hpq
   all_goals (refine Reg.D.cv hB ?_; go_simp; try (first | done | rfl | (simp; done) | (intro h; omega)))
  intro ρ W3 S hB hft hap hΦ
  simp only [Reg.SV, val_str, Reg.SF, Nat.reduceAdd]
  have HX := Aside0.mk (HX.out.call hB)
  clear hΦ hft hap 
  refine bx_put (w := w) rfl 39 (.tmp 6) (.tmp 17) rfl rfl (L1 := []) (cells := #[.int .i64 sv.f0, .int .i64 sv.f1, .string sv.f2]) HX.out rfl rfl (by kernel_rfl) rfl rfl ?_
  intro Wp hx
  have HX := Aside0.mk hx
  clear hx
  go_wp2_with fail
  refine bodyPost_ret (results_cell_row rfl _ _ g6 39 #[.int .i64 sv.f0, .int .i64 sv.f1, .string sv.f2] (0, 0) _ rfl (HX.out.at 0 rfl) hu39 rfl (by kernel_rfl)) rfl ?_
  exact ⟨⟨⟨sv.f0, sv.f1, sv.f2⟩, rfl, hsv, hsr⟩, HX.out.below⟩
 | false =>
  go_upto_region 4 with (fail)
  try simp only [Reg.SF]
  refine Reg.det [Reg.k 19 (.int .i64 K), Reg.k 20 (.int .i64 (Int.tmod K 8)), Reg.k 21 (.bool c4), Reg.k 18 (.bool c4)] [] 111 rfl (by kernel_rfl) (by kernel_rfl) ?s5 ?_
  case s5 =>
   intro iq oq pq hiq hoq hpq ρ ev W S hE hO ec ef hB hft hΦ
   have e7 : ev (.tmp 7) = .int .i64 K := hO 7 rfl
   simp only [Reg.SV, val_str] at hE
   obtain ⟨e19, e20, e21, e18, _⟩ := hE
   rcases Reg.lt4 hiq with rfl | rfl | rfl | rfl
   all_goals (cases hoq; cases hpq)
   all_goals (first | exact Reg.D.mv hB | skip)
   all_goals (refine Reg.D.cv hB ?_; go_simp; try (first | done | rfl | (exact Ac4.out) | (simp; done)))
  intro ρ W4 S hB hft hap hΦ
  simp only [Reg.SV, val_str, Reg.SF, Nat.reduceAdd]
  have HX := Aside0.mk (HX.out.call hB)
  clear hΦ hft hap 
  cases c4 with
  | true =>
   go_upto_region 5 with (fail)
   try simp only [Reg.SF]
   refine Reg.det [Reg.k 22 (.agg #[.int .i64 0, .int .i64 0, .string (⟨#[]⟩ : ByteArray)])] [] 111 rfl (by kernel_rfl) (by kernel_rfl) ?s6 ?_
   case s6 =>
    intro iq oq pq hiq hoq hpq ρ ev W S hE hO ec ef hB hft hΦ
    simp only [Reg.SV, val_str] at hE
    obtain ⟨e22, _⟩ := hE
    obtain rfl : iq = 0 := by have : iq < 1 := hiq; omega
    cases hoq; cases hpq
    all_goals (refine Reg.D.cv hB ?_; go_simp; try (first | done | rfl | (simp; done) | (intro h; omega)))
   intro ρ W5 S hB hft hap hΦ
   simp only [Reg.SV, val_str, Reg.SF, Nat.reduceAdd]
   have HX := Aside0.mk (HX.out.call hB)
   clear hΦ hft hap 
   refine bx_put (w := w) rfl 39 (.tmp 6) (.tmp 22) rfl rfl (L1 := []) (cells := #[.int .i64 0, .int .i64 0, .string (⟨#[]⟩ : ByteArray)]) HX.out rfl rfl (by kernel_rfl) rfl rfl ?_
   intro Wp hx
   have HX := Aside0.mk hx
   clear hx
   go_wp2_with fail
   refine bodyPost_ret (results_cell_row rfl _ _ g6 39 #[.int .i64 0, .int .i64 0, .string (⟨#[]⟩ : ByteArray)] (0, 0) _ rfl (HX.out.at 0 rfl) hu39 rfl (by kernel_rfl)) rfl ?_
   exact ⟨⟨⟨0, 0, (⟨#[]⟩ : ByteArray)⟩, rfl, (show (⟨#[]⟩ : ByteArray).size ≤ 100 by decide), fun h => absurd h (by show ¬ (0 : Int) = 1; decide)⟩, HX.out.below⟩
  | false =>
   go_upto_region 6 with (fail)
   try simp only [Reg.SF]
   refine Reg.det [Reg.k 24 (.int .i64 K), Reg.k 25 (.int .i64 (Int.tmod K 16)), Reg.k 26 (.bool c6), Reg.k 23 (.bool c6)] [] 111 rfl (by kernel_rfl) (by kernel_rfl) ?s7 ?_
   case s7 =>
    intro iq oq pq hiq hoq hpq ρ ev W S hE hO ec ef hB hft hΦ
    have e7 : ev (.tmp 7) = .int .i64 K := hO 7 rfl
    simp only [Reg.SV, val_str] at hE
    obtain ⟨e24, e25, e26, e23, _⟩ := hE
    rcases Reg.lt4 hiq with rfl | rfl | rfl | rfl
    all_goals (cases hoq; cases hpq)
    all_goals (first | exact Reg.D.mv hB | skip)
    all_goals (refine Reg.D.cv hB ?_; go_simp; try (first | done | rfl | (exact Ac6.out) | (simp; done)))
   intro ρ W6 S hB hft hap hΦ
   simp only [Reg.SV, val_str, Reg.SF, Nat.reduceAdd]
   have HX := Aside0.mk (HX.out.call hB)
   clear hΦ hft hap 
   cases c6 with
   | true =>
    go_upto_region 7 with (fail)
    try simp only [Reg.SF]
    refine Reg.det [Reg.k 27 (.int .i64 K), Reg.k 28 (.int .i64 (Int.tdiv K 16)), Reg.k 29 (.int .i64 X7), Reg.k 30 (.int .i64 N), Reg.k 31 (.int .i64 N2), Reg.k 32 (.agg #[.int .i64 X7, .int .i64 N2, .string (⟨#[]⟩ : ByteArray)])] [] 111 rfl (by kernel_rfl) (by kernel_rfl) ?s8 ?_
    case s8 =>
     intro iq oq pq hiq hoq hpq ρ ev W S hE hO ec ef hB hft hΦ
     have e7 : ev (.tmp 7) = .int .i64 K := hO 7 rfl
     have e8 : ev (.tmp 8) = .int .i64 N := hO 8 rfl
     simp only [Reg.SV, val_str] at hE
     obtain ⟨e27, e28, e29, e30, e31, e32, _⟩ := hE
     rcases Reg.lt6 hiq with rfl | rfl | rfl | rfl | rfl | rfl
     all_goals (cases hoq; cases hpq)
     all_goals (first | exact Reg.D.mv hB | skip)
     all_goals (refine Reg.D.cv hB ?_; go_simp; try (first | done | rfl | (exact hK16) | (exact hX7) | (exact hN2) | (simp; done)))
    intro ρ W7 S hB hft hap hΦ
    simp only [Reg.SV, val_str, Reg.SF, Nat.reduceAdd]
    have HX := Aside0.mk (HX.out.call hB)
    clear hΦ hft hap 
    refine bx_put (w := w) rfl 39 (.tmp 6) (.tmp 32) rfl rfl (L1 := []) (cells := #[.int .i64 X7, .int .i64 N2, .string (⟨#[]⟩ : ByteArray)]) HX.out rfl rfl (by kernel_rfl) rfl rfl ?_
    intro Wp hx
    have HX := Aside0.mk hx
    clear hx
    go_wp2_with fail
    refine bodyPost_ret (results_cell_row rfl _ _ g6 39 #[.int .i64 X7, .int .i64 N2, .string (⟨#[]⟩ : ByteArray)] (0, 0) _ rfl (HX.out.at 0 rfl) hu39 rfl (by kernel_rfl)) rfl ?_
    exact ⟨⟨⟨X7, N2, (⟨#[]⟩ : ByteArray)⟩, rfl, (show (⟨#[]⟩ : ByteArray).size ≤ 100 by decide), fun _ => hN2r⟩, HX.out.below⟩
   | false =>
    go_upto_region 8 with (fail)
    try simp only [Reg.SF]
    refine Reg.det [Reg.k 34 (.pointer (some ⟨g3, 0, none⟩)), Reg.k 35 (.int .i64 T.f0), Reg.k 36 (.bool c8), Reg.k 33 (.bool c8)] [] 111 rfl (by kernel_rfl) (by kernel_rfl) ?s9 ?_
    case s9 =>
     intro iq oq pq hiq hoq hpq ρ ev W S hE hO ec ef hB hft hΦ
     have e3 : ev (.tmp 3) = .pointer (some ⟨g3, 0, none⟩) := hO 3 rfl
     have mg3_0 := pw_cell_below hB (HX.out.cell 2 0 rfl rfl : _ = some (.int .i64 T.f0 : Value))
     simp only [Reg.SV, val_str] at hE
     obtain ⟨e34, e35, e36, e33, _⟩ := hE
     rcases Reg.lt4 hiq with rfl | rfl | rfl | rfl
     all_goals (cases hoq; cases hpq)
     all_goals (first | exact Reg.D.mv hB | skip)
     all_goals (refine Reg.D.cv hB ?_; go_simp; try (first | done | rfl | (exact Ac8.out) | (simp; done)))
    intro ρ W8 S hB hft hap hΦ
    simp only [Reg.SV, val_str, Reg.SF, Nat.reduceAdd]
    have HX := Aside0.mk (HX.out.call hB)
    clear hΦ hft hap 
    cases c8 with
    | true =>
     go_upto_region 9 with (fail)
     try simp only [Reg.SF]
     refine Reg.det [Reg.k 37 (.int .i64 N), Reg.k 38 (.int .i64 N2), Reg.k 39 (.agg #[.int .i64 1, .int .i64 N2, .string (⟨#[]⟩ : ByteArray)])] [] 111 rfl (by kernel_rfl) (by kernel_rfl) ?s10 ?_
     case s10 =>
      intro iq oq pq hiq hoq hpq ρ ev W S hE hO ec ef hB hft hΦ
      have e8 : ev (.tmp 8) = .int .i64 N := hO 8 rfl
      simp only [Reg.SV, val_str] at hE
      obtain ⟨e37, e38, e39, _⟩ := hE
      rcases Reg.lt3 hiq with rfl | rfl | rfl
      all_goals (cases hoq; cases hpq)
      all_goals (first | exact Reg.D.mv hB | skip)
      all_goals (refine Reg.D.cv hB ?_; go_simp; try (first | done | rfl | (exact hN2) | (simp; done)))
     intro ρ W9 S hB hft hap hΦ
     simp only [Reg.SV, val_str, Reg.SF, Nat.reduceAdd]
     have HX := Aside0.mk (HX.out.call hB)
     clear hΦ hft hap 
     refine bx_put (w := w) rfl 39 (.tmp 6) (.tmp 39) rfl rfl (L1 := []) (cells := #[.int .i64 1, .int .i64 N2, .string (⟨#[]⟩ : ByteArray)]) HX.out rfl rfl (by kernel_rfl) rfl rfl ?_
     intro Wp hx
     have HX := Aside0.mk hx
     clear hx
     go_wp2_with fail
     refine bodyPost_ret (results_cell_row rfl _ _ g6 39 #[.int .i64 1, .int .i64 N2, .string (⟨#[]⟩ : ByteArray)] (0, 0) _ rfl (HX.out.at 0 rfl) hu39 rfl (by kernel_rfl)) rfl ?_
     exact ⟨⟨⟨1, N2, (⟨#[]⟩ : ByteArray)⟩, rfl, (show (⟨#[]⟩ : ByteArray).size ≤ 100 by decide), fun _ => hN2r⟩, HX.out.below⟩
    | false =>
     go_upto_region 10 with (fail)
     go_cut [40] (fun v40 wd => v40 = .bool (cT && c5) ∧ Aside0 (Bxs w wd [(g6, 39, #[.int .i64 0, .int .i64 0, .string (⟨#[]⟩ : ByteArray)]), (g4, 39, #[.int .i64 sv.f0, .int .i64 sv.f1, .string sv.f2]), (g3, 49, #[.int .i64 T.f0, .int .i64 T.f1, .bool T.f2])]))
     case first =>
      cases cT with
      | true =>
       go_upto_region 10 with (fail)
       try simp only [Reg.SF]
       refine Reg.det [Reg.k 41 (.pointer (some ⟨g3, 0, none⟩)), Reg.k 42 (.int .i64 T.f0), Reg.k 43 (.bool true), Reg.k 44 (.bool true), Reg.k 45 (.int .i64 K), Reg.k 46 (.int .i64 (Int.tmod K 8)), Reg.k 47 (.bool c5), Reg.k 48 (.bool c5), Reg.k 40 (.bool c5)] [] 111 rfl (by kernel_rfl) (by kernel_rfl) ?s11 ?_
       case s11 =>
        intro iq oq pq hiq hoq hpq ρ ev W S hE hO ec ef hB hft hΦ
        have e3 : ev (.tmp 3) = .pointer (some ⟨g3, 0, none⟩) := hO 3 rfl
        have e7 : ev (.tmp 7) = .int .i64 K := hO 7 rfl
        have mg3_0 := pw_cell_below hB (HX.out.cell 2 0 rfl rfl : _ = some (.int .i64 T.f0 : Value))
        simp only [Reg.SV, val_str] at hE
        obtain ⟨e41, e42, e43, e44, e45, e46, e47, e48, e40, _⟩ := hE
        rcases Reg.lt9 hiq with rfl | rfl | rfl | rfl | rfl | rfl | rfl | rfl | rfl
        all_goals (cases hoq; cases hpq)
        all_goals (first | exact Reg.D.mv hB | skip)
        all_goals (refine Reg.D.cv hB ?_; go_simp; try (first | done | rfl | (exact Ac5.out) | (have := AcT.out; simp at this; simp [this]; done) | (have := AcT.out; simp at this; omega) | (simp; done)))
       intro ρ W10 S hB hft hap hΦ
       simp only [Reg.SV, val_str, Reg.SF, Nat.reduceAdd]
       have HX := Aside0.mk (HX.out.call hB)
       clear hΦ hft hap 
       go_wp2_with fail
       go_meet
       case rel => exact ⟨by first | rfl | simp, HX⟩
      | false =>
       go_upto_region 10 with (fail)
       try simp only [Reg.SF]
       refine Reg.det [Reg.k 41 (.pointer (some ⟨g3, 0, none⟩)), Reg.k 42 (.int .i64 T.f0), Reg.k 43 (.bool false), Reg.k 44 (.bool false), Reg.u 45, Reg.u 46, Reg.u 47, Reg.k 48 (.bool false), Reg.k 40 (.bool false)] [] 111 rfl (by kernel_rfl) (by kernel_rfl) ?s12 ?_
       case s12 =>
        intro iq oq pq hiq hoq hpq ρ ev W S hE hO ec ef hB hft hΦ
        have e3 : ev (.tmp 3) = .pointer (some ⟨g3, 0, none⟩) := hO 3 rfl
        have e7 : ev (.tmp 7) = .int .i64 K := hO 7 rfl
        have mg3_0 := pw_cell_below hB (HX.out.cell 2 0 rfl rfl : _ = some (.int .i64 T.f0 : Value))
        simp only [Reg.SV, val_str] at hE
        obtain ⟨e41, e42, e43, e44, e45, e46, e47, e48, e40, _⟩ := hE
        rcases Reg.lt9 hiq with rfl | rfl | rfl | rfl | rfl | rfl | rfl | rfl | rfl
        all_goals (cases hoq; cases hpq)
        all_goals (first | exact Reg.D.sk hB | skip)
        all_goals (first | exact Reg.D.mv hB | skip)
        all_goals (refine Reg.D.cv hB ?_; go_simp; try (first | done | rfl | (exact Ac5.out) | (have := AcT.out; simp at this; simp [this]; done) | (have := AcT.out; simp at this; omega) | (simp; done)))
       intro ρ W10 S hB hft hap hΦ
       simp only [Reg.SV, val_str, Reg.SF, Nat.reduceAdd]
       have HX := Aside0.mk (HX.out.call hB)
       clear hΦ hft hap 
       go_wp2_with fail
       go_meet
       case rel => exact ⟨by first | rfl | simp, HX⟩
     clear HX 
     obtain ⟨hv40, HX⟩ := hcut
     generalize wc = W10c at *
     subst hv40
     obtain ⟨cz, hcz⟩ : ∃ b, (cT && c5) = b := ⟨_, rfl⟩
     rw [hcz]
     have ACZ := Aside0.mk hcz
     clear hcz
     cases cz with
     | true =>
      have h2 := AcT2.out (by have := ACZ.out; rw [Bool.and_eq_true] at this; exact this.1)
      obtain ⟨CV, hCV⟩ := HCu.out h2
      have HCV := Aside0.mk hCV
      clear hCV h2
      go_upto_region 11 with (fail)
      try simp only [Reg.SF]
      refine Reg.det [Reg.k 49 (.int .i64 N), Reg.k 50 (.int .i64 (N - 128)), Reg.k 51 (.int .i64 K), Reg.k 52 (.int .i64 (Int.tdiv K 8)), Reg.k 53 (.int .i64 X11), Reg.k 54 (.int .i64 P11), Reg.k 55 (.int .i64 M11), Reg.k 56 (.pointer (some ⟨g3, 1, none⟩)), Reg.k 57 (.int .i64 T.f1), Reg.k 58 (.int .i64 CV), Reg.k 59 (.agg #[.int .i64 2, .int .i64 CV, .string (⟨#[]⟩ : ByteArray)])] [] 111 rfl (by kernel_rfl) (by kernel_rfl) ?s13 ?_
      case s13 =>
       intro iq oq pq hiq hoq hpq ρ ev W S hE hO ec ef hB hft hΦ
       have e3 : ev (.tmp 3) = .pointer (some ⟨g3, 0, none⟩) := hO 3 rfl
       have e7 : ev (.tmp 7) = .int .i64 K := hO 7 rfl
       have e8 : ev (.tmp 8) = .int .i64 N := hO 8 rfl
       have mg3_1 := pw_cell_below hB (HX.out.cell 2 1 rfl rfl : _ = some (.int .i64 T.f1 : Value))
       simp only [Reg.SV, val_str] at hE
       obtain ⟨e49, e50, e51, e52, e53, e54, e55, e56, e57, e58, e59, _⟩ := hE
       rcases Reg.lt11 hiq with rfl | rfl | rfl | rfl | rfl | rfl | rfl | rfl | rfl | rfl | rfl
       all_goals (cases hoq; cases hpq)
       rotate_left 9
       ·refine Reg.D.cc (g := 21) (args := #[.int .i64 M11, .int .i64 T.f1]) hB (by go_simp; try rfl) ?_
        exact HCV.out W
       rotate_right 9
       rotate_left 5
       ·refine Reg.D.cc (g := 37) (args := #[.int .i64 X11]) hB (by go_simp; try rfl) ?_
        exact HP11.out W
       rotate_right 5
       all_goals (first | exact Reg.D.mv hB | skip)
       all_goals (refine Reg.D.cv hB ?_; go_simp; try (first | done | rfl | (exact w128) | (exact hK8) | (exact hX11) | (exact hM11) | (simp; done)))
      intro ρ W11 S hB hft hap hΦ
      simp only [Reg.SV, val_str, Reg.SF, Nat.reduceAdd]
      have HX := Aside0.mk (HX.out.call hB)
      clear hΦ hft hap 
      refine bx_put (w := w) rfl 39 (.tmp 6) (.tmp 59) rfl rfl (L1 := []) (cells := #[.int .i64 2, .int .i64 CV, .string (⟨#[]⟩ : ByteArray)]) HX.out rfl rfl (by kernel_rfl) rfl rfl ?_
      intro Wp hx
      have HX := Aside0.mk hx
      clear hx
      go_wp2_with fail
      refine bodyPost_ret (results_cell_row rfl _ _ g6 39 #[.int .i64 2, .int .i64 CV, .string (⟨#[]⟩ : ByteArray)] (0, 0) _ rfl (HX.out.at 0 rfl) hu39 rfl (by kernel_rfl)) rfl ?_
      exact ⟨⟨⟨2, CV, (⟨#[]⟩ : ByteArray)⟩, rfl, (show (⟨#[]⟩ : ByteArray).size ≤ 100 by decide), fun h => absurd h (by show ¬ (2 : Int) = 1; decide)⟩, HX.out.below⟩
     | false =>
      go_upto_region 12 with (fail)
      try simp only [Reg.SF]
      refine Reg.det [Reg.k 61 (.pointer (some ⟨g3, 0, none⟩)), Reg.k 62 (.int .i64 T.f0), Reg.k 63 (.bool cT), Reg.k 60 (.bool cT)] [] 111 rfl (by kernel_rfl) (by kernel_rfl) ?s14 ?_
      case s14 =>
       intro iq oq pq hiq hoq hpq ρ ev W S hE hO ec ef hB hft hΦ
       have e3 : ev (.tmp 3) = .pointer (some ⟨g3, 0, none⟩) := hO 3 rfl
       have mg3_0 := pw_cell_below hB (HX.out.cell 2 0 rfl rfl : _ = some (.int .i64 T.f0 : Value))
       simp only [Reg.SV, val_str] at hE
       obtain ⟨e61, e62, e63, e60, _⟩ := hE
       rcases Reg.lt4 hiq with rfl | rfl | rfl | rfl
       all_goals (cases hoq; cases hpq)
       all_goals (first | exact Reg.D.mv hB | skip)
       all_goals (refine Reg.D.cv hB ?_; go_simp; try (first | done | rfl | (exact AcT.out) | (simp; done)))
      intro ρ W12 S hB hft hap hΦ
      simp only [Reg.SV, val_str, Reg.SF, Nat.reduceAdd]
      have HX := Aside0.mk (HX.out.call hB)
      clear hΦ hft hap 
      cases cT with
      | true =>
       have h2 := AcT2.out rfl
       obtain ⟨P13, hP13⟩ := HP6.out h2
       have HP13 := Aside0.mk hP13
       clear hP13 h2
       obtain ⟨M13, hM13⟩ : ∃ z, IntKind.i64.wrap (X13 * P13) = z := ⟨_, rfl⟩
       obtain ⟨Y13, hY13⟩ : ∃ z, IntKind.i64.wrap (sv.f1 + M13) = z := ⟨_, rfl⟩
       go_upto_region 13 with (fail)
       try simp only [Reg.SF]
       refine Reg.det [Reg.k 64 (.pointer (some ⟨g4, 1, none⟩)), Reg.k 65 (.int .i64 sv.f1), Reg.k 66 (.int .i64 N), Reg.k 67 (.int .i64 N5), Reg.k 68 (.int .i64 X13), Reg.k 69 (.pointer (some ⟨g3, 1, none⟩)), Reg.k 70 (.int .i64 T.f1), Reg.k 71 (.int .i64 S6), Reg.k 72 (.int .i64 P13), Reg.k 73 (.int .i64 M13), Reg.k 74 (.int .i64 Y13), Reg.k 75 (.agg #[.int .i64 2, .int .i64 Y13, .string (⟨#[]⟩ : ByteArray)])] [] 111 rfl (by kernel_rfl) (by kernel_rfl) ?s15 ?_
       case s15 =>
        intro iq oq pq hiq hoq hpq ρ ev W S hE hO ec ef hB hft hΦ
        have e3 : ev (.tmp 3) = .pointer (some ⟨g3, 0, none⟩) := hO 3 rfl
        have e4 : ev (.tmp 4) = .pointer (some ⟨g4, 0, none⟩) := hO 4 rfl
        have e8 : ev (.tmp 8) = .int .i64 N := hO 8 rfl
        have mg4_1 := pw_cell_below hB (HX.out.cell 1 1 rfl rfl : _ = some (.int .i64 sv.f1 : Value))
        have mg3_1 := pw_cell_below hB (HX.out.cell 2 1 rfl rfl : _ = some (.int .i64 T.f1 : Value))
        simp only [Reg.SV, val_str] at hE
        obtain ⟨e64, e65, e66, e67, e68, e69, e70, e71, e72, e73, e74, e75, _⟩ := hE
        rcases Reg.lt12 hiq with rfl | rfl | rfl | rfl | rfl | rfl | rfl | rfl | rfl | rfl | rfl | rfl
        all_goals (cases hoq; cases hpq)
        rotate_left 8
        ·refine Reg.D.cc (g := 37) (args := #[.int .i64 S6]) hB (by go_simp; try rfl) ?_
         exact HP13.out W
        rotate_right 8
        all_goals (first | exact Reg.D.mv hB | skip)
        all_goals (refine Reg.D.cv hB ?_; go_simp; try (first | done | rfl | (exact hN5) | (exact hX13) | (exact hS6) | (exact hM13) | (exact hY13) | (simp; done)))
       intro ρ W13 S hB hft hap hΦ
       simp only [Reg.SV, val_str, Reg.SF, Nat.reduceAdd]
       have HX := Aside0.mk (HX.out.call hB)
       clear hΦ hft hap 
       refine bx_put (w := w) rfl 39 (.tmp 6) (.tmp 75) rfl rfl (L1 := []) (cells := #[.int .i64 2, .int .i64 Y13, .string (⟨#[]⟩ : ByteArray)]) HX.out rfl rfl (by kernel_rfl) rfl rfl ?_
       intro Wp hx
       have HX := Aside0.mk hx
       clear hx
       go_wp2_with fail
       refine bodyPost_ret (results_cell_row rfl _ _ g6 39 #[.int .i64 2, .int .i64 Y13, .string (⟨#[]⟩ : ByteArray)] (0, 0) _ rfl (HX.out.at 0 rfl) hu39 rfl (by kernel_rfl)) rfl ?_
       exact ⟨⟨⟨2, Y13, (⟨#[]⟩ : ByteArray)⟩, rfl, (show (⟨#[]⟩ : ByteArray).size ≤ 100 by decide), fun h => absurd h (by show ¬ (2 : Int) = 1; decide)⟩, HX.out.below⟩
      | false =>
       go_upto_region 14 with (fail)
       try simp only [Reg.SF]
       refine Reg.det [Reg.k 77 (.int .i64 K), Reg.k 78 (.int .i64 (Int.tmod K 8)), Reg.k 79 (.bool c14), Reg.k 76 (.bool c14)] [] 111 rfl (by kernel_rfl) (by kernel_rfl) ?s16 ?_
       case s16 =>
        intro iq oq pq hiq hoq hpq ρ ev W S hE hO ec ef hB hft hΦ
        have e7 : ev (.tmp 7) = .int .i64 K := hO 7 rfl
        simp only [Reg.SV, val_str] at hE
        obtain ⟨e77, e78, e79, e76, _⟩ := hE
        rcases Reg.lt4 hiq with rfl | rfl | rfl | rfl
        all_goals (cases hoq; cases hpq)
        all_goals (first | exact Reg.D.mv hB | skip)
        all_goals (refine Reg.D.cv hB ?_; go_simp; try (first | done | rfl | (exact Ac14.out) | (simp; done)))
       intro ρ W14 S hB hft hap hΦ
       simp only [Reg.SV, val_str, Reg.SF, Nat.reduceAdd]
       have HX := Aside0.mk (HX.out.call hB)
       clear hΦ hft hap 
       cases c14 with
       | true =>
        go_upto_region 15 with (fail)
        try simp only [Reg.SF]
        refine Reg.det [Reg.k 80 (.int .i64 N), Reg.k 81 (.int .i64 (N - 128)), Reg.k 82 (.int .i64 K), Reg.k 83 (.int .i64 (Int.tdiv K 8)), Reg.k 84 (.int .i64 X15), Reg.k 85 (.int .i64 P15), Reg.k 86 (.int .i64 M15), (some 87, strDv 87), (some 88, Reg.Dv.u [87] (fun l => .agg #[.int .i64 3, .int .i64 0, (l.headD undef)]))] [] 111 rfl (by kernel_rfl) (by kernel_rfl) ?s17 ?_
        case s17 =>
         intro iq oq pq hiq hoq hpq ρ ev W S hE hO ec ef hB hft hΦ
         have e7 : ev (.tmp 7) = .int .i64 K := hO 7 rfl
         have e8 : ev (.tmp 8) = .int .i64 N := hO 8 rfl
         simp only [Reg.SV, val_str] at hE
         obtain ⟨e80, e81, e82, e83, e84, e85, e86, e87, e88, _⟩ := hE
         rcases Reg.lt9 hiq with rfl | rfl | rfl | rfl | rfl | rfl | rfl | rfl | rfl
         all_goals (cases hoq; cases hpq)
         rotate_left 8
         ·refine Reg.D.uc (g := 29) (args := #[ρ 87]) hB (by go_simp; try rfl) ?_
          obtain ⟨s87, h87, _⟩ := hΦ 7 _ rfl rfl rfl
          replace h87 : ρ 87 = .string s87 := h87
          simp only [List.map_cons, List.map_nil, List.headD_cons, h87]
          exact chapmanref16_Texted.calls s87 3 0 s87 W rfl
         rotate_right 8
         rotate_left 7
         ·refine Reg.D.call (g := 38) (args := #[.int .i64 M15]) (by go_simp; try rfl) ?_
          exact str_step hB (HTx.out W)
         rotate_right 7
         rotate_left 5
         ·refine Reg.D.cc (g := 37) (args := #[.int .i64 X15]) hB (by go_simp; try rfl) ?_
          exact HP15.out W
         rotate_right 5
         all_goals (first | exact Reg.D.mv hB | skip)
         all_goals (refine Reg.D.cv hB ?_; go_simp; try (first | done | rfl | (exact w128) | (exact hK8) | (exact hX15) | (exact hM15) | (simp; done)))
        intro ρ W15 S hB hft hap hΦ
        simp only [Reg.SV, val_str, Reg.SF, Nat.reduceAdd]
        obtain ⟨s87, e87, z87⟩ := hΦ 7 _ rfl rfl
        replace e87 : ρ 87 = .string s87 := e87
        try simp only [e87]
        have HX := Aside0.mk (HX.out.call hB)
        clear hΦ hft hap 
        refine bx_put (w := w) rfl 39 (.tmp 6) (.tmp 88) rfl rfl (L1 := []) (cells := #[.int .i64 3, .int .i64 0, .string s87]) HX.out rfl rfl (by kernel_rfl) rfl rfl ?_
        intro Wp hx
        have HX := Aside0.mk hx
        clear hx
        go_wp2_with fail
        refine bodyPost_ret (results_cell_row rfl _ _ g6 39 #[.int .i64 3, .int .i64 0, .string s87] (0, 0) _ rfl (HX.out.at 0 rfl) hu39 rfl (by kernel_rfl)) rfl ?_
        exact ⟨⟨⟨3, 0, s87⟩, rfl, by show s87.size ≤ 100; omega, fun h => absurd h (by show ¬ (3 : Int) = 1; decide)⟩, HX.out.below⟩
       | false =>
        go_upto_region 16 with (fail)
        try simp only [Reg.SF]
        refine Reg.det [Reg.k 90 (.int .i64 K), Reg.k 91 (.int .i64 (Int.tmod K 8)), Reg.k 92 (.bool c16), Reg.k 89 (.bool c16)] [] 111 rfl (by kernel_rfl) (by kernel_rfl) ?s18 ?_
        case s18 =>
         intro iq oq pq hiq hoq hpq ρ ev W S hE hO ec ef hB hft hΦ
         have e7 : ev (.tmp 7) = .int .i64 K := hO 7 rfl
         simp only [Reg.SV, val_str] at hE
         obtain ⟨e90, e91, e92, e89, _⟩ := hE
         rcases Reg.lt4 hiq with rfl | rfl | rfl | rfl
         all_goals (cases hoq; cases hpq)
         all_goals (first | exact Reg.D.mv hB | skip)
         all_goals (refine Reg.D.cv hB ?_; go_simp; try (first | done | rfl | (exact Ac16.out) | (simp; done)))
        intro ρ W16 S hB hft hap hΦ
        simp only [Reg.SV, val_str, Reg.SF, Nat.reduceAdd]
        have HX := Aside0.mk (HX.out.call hB)
        clear hΦ hft hap 
        cases c16 with
        | true =>
         go_upto_region 17 with (fail)
         try simp only [Reg.SF]
         refine Reg.det [Reg.k 93 (.pointer (some ⟨g4, 2, none⟩)), Reg.k 94 (.string sv.f2), Reg.k 95 (.int .i64 N), Reg.k 96 (.pointer (some ⟨g4, 2, none⟩)), Reg.k 97 (.string sv.f2), Reg.k 98 (.int .i64 sv.f2.size), Reg.k 99 (.int .i64 L17), Reg.k 100 (.int .i64 J17), Reg.k 101 (.string (sv.f2.extract 0 J17.toNat)), Reg.k 102 (.agg #[.int .i64 3, .int .i64 0, .string (sv.f2.extract 0 J17.toNat)])] [] 111 rfl (by kernel_rfl) (by kernel_rfl) ?s19 ?_
         case s19 =>
          intro iq oq pq hiq hoq hpq ρ ev W S hE hO ec ef hB hft hΦ
          have e4 : ev (.tmp 4) = .pointer (some ⟨g4, 0, none⟩) := hO 4 rfl
          have e8 : ev (.tmp 8) = .int .i64 N := hO 8 rfl
          have mg4_2 := pw_cell_below hB (HX.out.cell 1 2 rfl rfl : _ = some (.string sv.f2 : Value))
          simp only [Reg.SV, val_str] at hE
          obtain ⟨e93, e94, e95, e96, e97, e98, e99, e100, e101, e102, _⟩ := hE
          rcases Reg.lt10 hiq with rfl | rfl | rfl | rfl | rfl | rfl | rfl | rfl | rfl | rfl
          all_goals (cases hoq; cases hpq)
          rotate_left 9
          ·refine Reg.D.cc (g := 29) (args := #[.string (sv.f2.extract 0 J17.toNat)]) hB (by go_simp; try rfl) ?_
           exact chapmanref16_Texted.calls (sv.f2.extract 0 J17.toNat) 3 0 (sv.f2.extract 0 J17.toNat) W rfl
          rotate_right 9
          all_goals (first | exact Reg.D.mv hB | skip)
          all_goals (refine Reg.D.cv hB ?_; go_simp; try (first | done | rfl | (exact hL17) | (exact hJ17) | (rw [if_pos hJa, if_pos hJb]; rfl) | (simp [hJa, hJb]; done) | (simp; done)))
         intro ρ W17 S hB hft hap hΦ
         simp only [Reg.SV, val_str, Reg.SF, Nat.reduceAdd]
         have HX := Aside0.mk (HX.out.call hB)
         clear hΦ hft hap 
         refine bx_put (w := w) rfl 39 (.tmp 6) (.tmp 102) rfl rfl (L1 := []) (cells := #[.int .i64 3, .int .i64 0, .string (sv.f2.extract 0 J17.toNat)]) HX.out rfl rfl (by kernel_rfl) rfl rfl ?_
         intro Wp hx
         have HX := Aside0.mk hx
         clear hx
         go_wp2_with fail
         refine bodyPost_ret (results_cell_row rfl _ _ g6 39 #[.int .i64 3, .int .i64 0, .string (sv.f2.extract 0 J17.toNat)] (0, 0) _ rfl (HX.out.at 0 rfl) hu39 rfl (by kernel_rfl)) rfl ?_
         exact ⟨⟨⟨3, 0, (sv.f2.extract 0 J17.toNat)⟩, rfl, by show ByteArray.size _ ≤ 100; rw [ByteArray.size_extract]; omega, fun h => absurd h (by show ¬ (3 : Int) = 1; decide)⟩, HX.out.below⟩
        | false =>
         go_upto_region 18 with (fail)
         try simp only [Reg.SF]
         refine Reg.det [Reg.k 103 (.int .i64 K), Reg.k 104 (.int .i64 (Int.tdiv K 8)), Reg.k 105 (.int .i64 X18), Reg.k 106 (.int .i64 N), Reg.k 107 (.int .i64 Y18), Reg.k 108 (.int .i64 N), Reg.k 109 (.string WS), Reg.k 110 (.agg #[.int .i64 3, .int .i64 0, .string WS])] [] 111 rfl (by kernel_rfl) (by kernel_rfl) ?s20 ?_
         case s20 =>
          intro iq oq pq hiq hoq hpq ρ ev W S hE hO ec ef hB hft hΦ
          have e7 : ev (.tmp 7) = .int .i64 K := hO 7 rfl
          have e8 : ev (.tmp 8) = .int .i64 N := hO 8 rfl
          simp only [Reg.SV, val_str] at hE
          obtain ⟨e103, e104, e105, e106, e107, e108, e109, e110, _⟩ := hE
          rcases Reg.lt8 hiq with rfl | rfl | rfl | rfl | rfl | rfl | rfl | rfl
          all_goals (cases hoq; cases hpq)
          rotate_left 7
          ·refine Reg.D.cc (g := 29) (args := #[.string WS]) hB (by go_simp; try rfl) ?_
           exact chapmanref16_Texted.calls WS 3 0 WS W rfl
          rotate_right 7
          rotate_left 6
          ·refine Reg.D.cc (g := 39) (args := #[.int .i64 Y18, .int .i64 N]) hB (by go_simp; try rfl) ?_
           exact HWo.out W
          rotate_right 6
          all_goals (first | exact Reg.D.mv hB | skip)
          all_goals (refine Reg.D.cv hB ?_; go_simp; try (first | done | rfl | (exact hK8) | (exact hX18) | (exact hY18) | (simp; done)))
         intro ρ W18 S hB hft hap hΦ
         simp only [Reg.SV, val_str, Reg.SF, Nat.reduceAdd]
         have HX := Aside0.mk (HX.out.call hB)
         clear hΦ hft hap 
         refine bx_put (w := w) rfl 39 (.tmp 6) (.tmp 110) rfl rfl (L1 := []) (cells := #[.int .i64 3, .int .i64 0, .string WS]) HX.out rfl rfl (by kernel_rfl) rfl rfl ?_
         intro Wp hx
         have HX := Aside0.mk hx
         clear hx
         go_wp2_with fail
         refine bodyPost_ret (results_cell_row rfl _ _ g6 39 #[.int .i64 3, .int .i64 0, .string WS] (0, 0) _ rfl (HX.out.at 0 rfl) hu39 rfl (by kernel_rfl)) rfl ?_
         exact ⟨⟨⟨3, 0, WS⟩, rfl, by have := HWS.out; show WS.size ≤ 100; omega, fun h => absurd h (by show ¬ (3 : Int) = 1; decide)⟩, HX.out.below⟩
theorem Wish_calls {T : S49} {sv : S39} (hT : typOk T) (hsv : sv.f2.size ≤ 100) (hsr : rngV sv) (B : Option Addr) (cb : Nat) (lb : List Int) (hlb : ∀ x, x ∈ lb → 0 ≤ x ∧ x ≤ 255) (hcb : lb.length ≤ cb) (w : World) (hrb : Kd.C (Kd.int .u8) w B lb.length lb) :
  Calls Tryz.prog 15 #[.agg #[.int .i64 T.f0, .int .i64 T.f1, .bool T.f2], .agg #[.int .i64 sv.f0, .int .i64 sv.f1, .string sv.f2], .slice B lb.length cb] w fun e w' => (∃ v : S39, e = .returned (.agg (vC v)) ∧ v.f2.size ≤ 100 ∧ rngV v) ∧ Below w.heap.size w w' := by
 have hK := byteV_in hlb 0
 have hN := byteV_in hlb 1
 have HK := (byte_calls hrb hcb).out 0 (by decide) (by decide)
 have HN := (byte_calls hrb hcb).out 1 (by decide) (by decide)
 generalize byteV lb 0 = K at hK HK
 generalize byteV lb 1 = N at hN HN
 have e8 : Int.tdiv K 8 = K / 8 := Int.tdiv_eq_ediv_of_nonneg hK.1
 have e16 : Int.tdiv K 16 = K / 16 := Int.tdiv_eq_ediv_of_nonneg hK.1
 have x11 : 0 ≤ Int.tmod (Int.tdiv K 8) 12 ∧ Int.tmod (Int.tdiv K 8) 12 ≤ 11 := by rw [e8, Int.tmod_eq_emod_of_nonneg (by omega)]; omega
 have x15 : 0 ≤ Int.tmod (Int.tdiv K 8) 9 ∧ Int.tmod (Int.tdiv K 8) 9 ≤ 11 := by rw [e8, Int.tmod_eq_emod_of_nonneg (by omega)]; omega
 obtain ⟨P11, hP11, g11⟩ := power_calls.out _ x11.1 x11.2
 obtain ⟨P15, hP15, g15⟩ := power_calls.out _ x15.1 x15.2
 have m15 := mul_in (a := N - 128) (by omega) (by omega) hP15.1 hP15.2
 have w15 : IntKind.i64.wrap ((N - 128) * P15) = (N - 128) * P15 := by rw [IntKind.wrap_i64]; generalize (N - 128) * P15 = z at *; omega
 have h2 : T.f0 = 2 → 0 ≤ T.f1 ∧ T.f1 ≤ 6 := fun h => by rcases hT with h3 | h3 | h3 <;> omega
 have w6 : T.f0 = 2 → IntKind.i64.wrap (6 - T.f1) = 6 - T.f1 := fun h => by have := h2 h; rw [IntKind.wrap_i64]; omega
 have y18 : IntKind.i64.wrap (IntKind.i64.wrap (Int.tdiv K 8 * 5) + N) = K / 8 * 5 + N := by rw [e8, IntKind.wrap_i64, IntKind.wrap_i64]; omega
 have l17 : IntKind.i64.wrap ((sv.f2.size : Int) + 1) = (sv.f2.size : Int) + 1 := by rw [IntKind.wrap_i64]; omega
 have j0 : 0 ≤ Int.tmod N (IntKind.i64.wrap ((sv.f2.size : Int) + 1)) := Int.tmod_nonneg _ hN.1
 have j1 : Int.tmod N (IntKind.i64.wrap ((sv.f2.size : Int) + 1)) < IntKind.i64.wrap ((sv.f2.size : Int) + 1) := Int.tmod_lt_of_pos _ (by omega)
 obtain ⟨WS, hWS, hs40, _⟩ := word_l0 (a := K / 8 * 5 + N) (b := N) (by omega) (by omega) hN.1 hN.2 8 ⟨#[]⟩ 0 100 (by omega) (by omega) (by decide) (by decide)
 exact wish_walk T sv B lb.length cb K N _ _ _ P11 _ _ _ _ _ P15 _ _ _ _ _ WS w hsv hsr (by rw [Int.tmod_eq_emod_of_nonneg hN.1]; omega) ⟨HK⟩ ⟨HN⟩ (by rw [IntKind.wrap_i64, e16]; omega) rfl rfl (by rw [IntKind.wrap_i64]; omega) (by rw [IntKind.wrap_i64, e8]; omega) rfl rfl rfl rfl rfl rfl rfl rfl rfl (by omega) j0 (by omega) rfl rfl ⟨g11⟩ ⟨g15⟩
  ⟨fun h => ⟨stepOf T.f1, fun w' => (chapmanref16_power.calls 14 _ (stepOf T.f1) w' (by rw [w6 h]; exact step_pow _ (h2 h).1 (h2 h).2)).mono fun r w'' h => ⟨h.1, below_drawn h.2⟩⟩⟩ ⟨fun h => Cut_ex _ _ (h2 h).1 (h2 h).2⟩ ⟨fun w' => by rw [w15]; exact text_all _ (by generalize (N - 128) * P15 = z at *; omega) (by generalize (N - 128) * P15 = z at *; omega) w'⟩ ⟨fun w' => by rw [y18]; exact chapmanref16_word.calls 100 _ _ WS w' hWS⟩ ⟨hs40⟩
end
section
open Go.RowKit YtmebkjdknhknbaaGreatDoor.A YtmebkjdknhknbaaGreatDoor.C YtmebkjdknhknbaaGreatDoor.F YtmebkjdknhknbaaGreatDoorW.PrintWords YtmebkjdknhknbaaGreatDoorW.PrintLast YtmebkjdknhknbaaGreatDoorW.PrintMore
theorem rng_of_ty {T : S49} {v : S39} (h : tyOk T v) : rngV v := by
 rcases h with ⟨_, rfl⟩ | ⟨_, rfl | rfl⟩ | ⟨_, n, _, _, rfl⟩ | ⟨_, s, _, _, rfl⟩
 ·exact fun h => absurd h (by decide)
 ·exact fun _ => .inl rfl
 ·exact fun _ => .inr rfl
 ·exact fun h => absurd h (show ¬ (2 : Int) = 1 by decide)
 ·exact fun h => absurd h (show ¬ (3 : Int) = 1 by decide)
theorem rng_set {l : List S39} {v : S39} (hl : ∀ y, y ∈ l → rngV y) (hv : rngV v) (n : Nat) : ∀ y, y ∈ l.set n v → rngV y := fun y hy => by
 rcases List.mem_or_eq_of_mem_set hy with h | rfl
 ·exact hl y h
 ·exact hv
theorem rng_ahead (v : S39) (s : ByteArray) : rngV (aheadV v s) := by
 unfold aheadV
 split
 ·exact fun h => absurd h (show ¬ (3 : Int) = 1 by decide)
 ·exact fun h => absurd h (show ¬ (0 : Int) = 1 by decide)
theorem rng_behind (v : S39) (s : ByteArray) : rngV (behindV v s) := by
 unfold behindV
 split
 ·exact fun h => absurd h (show ¬ (3 : Int) = 1 by decide)
 ·exact fun h => absurd h (show ¬ (0 : Int) = 1 by decide)
theorem rng_join {a : S39} (b : S39) (s : ByteArray) (ha : rngV a) : rngV (joinV a b s) := by
 unfold joinV
 split
 ·exact ha
 ·exact fun h => absurd h (show ¬ (3 : Int) = 1 by decide)
theorem puts_rng (l0 : List S57) : ∀ (k : Nat) (x : S29) (l l2 : List S39) (v : S39), (∀ y, y ∈ l → rngV y) → rngV v → putsV k l0 l x v = some l2 → ∀ y, y ∈ l2 → rngV y := by
 intro k
 induction k with
 | zero => intro x l l2 v _ _ h; cases h
 | succ k ih =>
  intro x l l2 v hl hv h
  rw [putsV_succ] at h
  unfold putsR at h
  split at h
  ·obtain rfl := Option.some.inj h; exact hl
  ·split at h
   ·cases h
   ·split at h
    ·cases h
    ·rename_i l3 hR
     split at h
     ·obtain rfl := Option.some.inj h
      unfold putK at hR
      split at hR
      ·obtain rfl := Option.some.inj hR; exact rng_set hl hv _
      ·split at hR
       ·unfold putTextV at hR
        split at hR
        ·obtain rfl := Option.some.inj hR; exact rng_set hl hv _
        ·split at hR
         ·split at hR
          ·obtain rfl := Option.some.inj hR; exact rng_set hl (fun h => absurd h (show ¬ (2 : Int) = 1 by decide)) _
          ·cases hR
         ·cases hR
       ·split at hR
        ·split at hR
         ·exact ih _ _ _ _ hl (rng_join _ _ hv) hR
         ·cases hR
        ·split at hR
         ·split at hR
          ·exact ih _ _ _ _ hl (rng_join _ _ (rng_ahead _ _)) hR
          ·cases hR
         ·split at hR
          ·obtain ⟨l4, h4, h5⟩ := Option.bind_eq_some_iff.mp hR
           exact ih _ _ _ _ (ih _ _ _ _ hl (rng_ahead _ _) h4) (rng_behind _ _) h5
          ·cases hR
     ·cases h
theorem nil_of_beq {s : ByteArray} (h : (s.toList == ([] : List UInt8)) = true) : s = ⟨#[]⟩ := by rw [nil_beq] at h; exact of_decide_eq_true h
theorem has_ty {T : S49} {v : S39} (hr : rngV v) (h : hasB T.f0 T.f1 T.f2 v.f0 v.f1 v.f2 = true) : tyOk T v ∧ typOk T := by
  unfold hasB at h
  simp only [Bool.and_eq_true] at h
  obtain ⟨hT, hv, ht⟩ := h
  have hTy : typOk T := by
    unfold vtB at hT
    split at hT
    · simp at hT; exact .inl ⟨by assumption, hT.1, hT.2⟩
    · split at hT
      · exact .inr (.inr ⟨by assumption, by simpa using hT⟩)
      · split at hT
        · exact .inr (.inl ⟨by assumption, by simpa using hT⟩)
        · cases hT
  refine ⟨?_, hTy⟩
  obtain ⟨v0, v1, v2⟩ := v
  unfold vvB at hv
  rw [ck_eq] at hv
  dsimp only at hv ht hr
  split at hv
  · rename_i h0
    subst h0
    rw [if_pos rfl] at ht
    simp only [Bool.and_eq_true, beq_iff_eq] at hv
    obtain ⟨rfl, h2⟩ := hv
    obtain rfl := nil_of_beq (by simpa using h2)
    exact .inl ⟨ht, rfl⟩
  · rename_i h0
    rw [if_neg h0] at ht
    split at hv
    · rename_i h1
      subst h1
      rw [if_neg (by decide)] at ht
      have hk : T.f0 = 1 := by have : (1 : Int) = T.f0 := by simpa using ht
                               omega
      split at hv
      · obtain rfl := nil_of_beq hv
        rcases hr rfl with h | h
        · exact .inr (.inl ⟨hk, .inl (by rw [show v1 = 0 from h])⟩)
        · exact .inr (.inl ⟨hk, .inr (by rw [show v1 = 1 from h])⟩)
      · cases hv
    · rename_i h1
      split at hv
      · rename_i h2
        subst h2
        rw [if_pos rfl] at ht
        split at ht
        · rename_i hk
          split at hv
          · rename_i hlo
            split at hv
            · rename_i hhi
              obtain rfl := nil_of_beq hv
              refine .inr (.inr (.inl ⟨hk, v1, ⟨?_, hhi⟩, by simpa using ht, rfl⟩))
              unfold wrap64 at hlo
              omega
            · cases hv
          · cases hv
        · cases ht
      · rename_i h2
        rw [if_neg h2] at ht
        split at hv
        · rename_i h3
          subst h3
          have hk : T.f0 = 3 := by have : (3 : Int) = T.f0 := by simpa using ht
                                   omega
          split at hv
          · rename_i h4
            subst h4
            split at hv
            · exact .inr (.inr (.inr ⟨hk, v2, by omega, hv, rfl⟩))
            · cases hv
          · cases hv
        · cases hv
theorem fit_ty {a : S57} {v : S39} (ha : aOk a) (hr : rngV v) (h : fitB a v = true) : (a.f1 = 1 ∧ 0 ≤ a.f0.f1 ∧ a.f0.f1 ≤ 6 ∧ ∃ n : Int, (-4000000000000000000 ≤ n ∧ n ≤ 4000000000000000000) ∧ Int.tmod n (stepOf a.f0.f1) = 0 ∧ v = ⟨2, n, ⟨#[]⟩⟩) ∨ (a.f1 = 0 ∧ tyOk a.f0 v ∧ typOk a.f0) := by
 rcases ha.1 with h1 | ⟨h1, _⟩
 ·unfold fitB at h
  rw [if_neg (by omega)] at h
  obtain ⟨h2, h3⟩ := has_ty hr h
  exact .inr ⟨h1, h2, h3⟩
 ·unfold fitB at h
  rw [if_pos (.inl h1)] at h
  simp only [Bool.and_eq_true, beq_iff_eq] at h
  obtain ⟨h2, h3, h4⟩ := h
  obtain ⟨v0, v1, v2⟩ := v
  dsimp only at h2 h3 h4
  subst h2
  unfold wwB at h3
  rw [ck_eq, if_neg (by decide), if_neg (by decide), if_pos rfl] at h3
  unfold placesB at h4
  split at h3
  ·rename_i hlo
   split at h3
   ·rename_i hhi
    obtain rfl := nil_of_beq h3
    split at h4
    ·rename_i hs
     refine .inl ⟨h1, hs.1, by omega, v1, ⟨?_, hhi⟩, by simpa using h4, rfl⟩
     unfold wrap64 at hlo
     omega
    ·cases h4
   ·cases h3
  ·cases h3
theorem puts_shows {k : Nat} {l0 : List S57} {l l2 : List S39} {x : S29} {v : S39} (h : putsV (k + 1) l0 l x v = some l2) : shV (k + 1) l2 x = v ∧ (eqV (shV (k + 1) l x) v = false → hasV (ofV (k + 1) l0 x 8).1 v = true) := by
 rw [putsV_succ] at h
 unfold putsR at h
 split at h
 ·rename_i he
  obtain rfl := Option.some.inj h
  exact ⟨(eqV_iff _ _).1 he, fun hn => by rw [he] at hn; cases hn⟩
 ·split at h
  ·cases h
  ·rename_i hb
   split at h
   ·cases h
   ·split at h
    ·rename_i hc
     obtain rfl := Option.some.inj h
     rw [Bool.and_eq_true] at hc
     exact ⟨(eqV_iff _ _).1 hc.2, fun _ => by simpa using hb⟩
    ·cases h
theorem puts_none {k : Nat} {l0 : List S57} {l : List S39} {x : S29} {v : S39} (h : putsV (k + 1) l0 l x v = none) : eqV (shV (k + 1) l x) v = false := by
 cases he : eqV (shV (k + 1) l x) v
 ·rfl
 ·rw [putsV_succ] at h
  unfold putsR at h
  rw [if_pos he] at h
  cases h
theorem puts_again {k : Nat} {l0 : List S57} {l2 : List S39} {x : S29} {v : S39} (h : shV (k + 1) l2 x = v) : putsV (k + 1) l0 l2 x v = some l2 := by
 rw [putsV_succ]
 unfold putsR
 rw [h, if_pos ((eqV_iff v v).2 rfl)]
theorem cells_rng {l0 : List S57} {l : List S39} (hat : atOk l0) (hl : l.length = l0.length) (hc : cellsOk l0 l) : ∀ y, y ∈ l → rngV y := fun y hy => by
 obtain ⟨i, hi, rfl⟩ := List.getElem_of_mem hy
 have h := (cell_ty (hat.2.2.1 i (by omega)) (hc i hi)).1
 have : rd_T39 l (i : Int) = l[i] := by unfold rd_T39; rw [Int.toNat_natCast, List.getD_eq_getElem?_getD, List.getElem?_eq_getElem hi]; rfl
 rw [this] at h
 exact rng_of_ty h
theorem eqV_sym (a b : S39) : eqV a b = eqV b a := by
 cases h : eqV a b
 ·cases h2 : eqV b a
  ·rfl
  ·rw [(eqV_iff b a).1 h2, (eqV_iff a a).2 rfl] at h; cases h
 ·rw [(eqV_iff a b).1 h, (eqV_iff b b).2 rfl]
theorem neV {a b : S39} {c : Bool} (h : eqV a b = c) : (a.f0 == b.f0 && (a.f1 == b.f1 && (a.f2.toList == b.f2.toList))) = c ∧ (!(a.f0 == b.f0 && (a.f1 == b.f1 && (a.f2.toList == b.f2.toList)))) = !c ∧ (a.f0 != b.f0 || (a.f1 != b.f1 || !(a.f2.toList == b.f2.toList))) = !c := by
 unfold eqV at h
 refine ⟨h, by rw [h], ?_⟩
 rw [← h]
 unfold bne
 cases (a.f0 == b.f0) <;> cases (a.f1 == b.f1) <;> cases (a.f2.toList == b.f2.toList) <;> rfl
theorem neV_no {a b : S39} (h : eqV a b = false) : a.f0 = b.f0 → a.f1 = b.f1 → ¬ a.f2.toList = b.f2.toList := fun h0 h1 h2 => by
 unfold eqV at h
 rw [h0, h1, h2] at h
 simp at h
theorem neV_yes {a b : S39} (h : eqV a b = true) : a.f0 = b.f0 ∧ a.f1 = b.f1 ∧ a.f2.toList = b.f2.toList := by
 rw [(eqV_iff a b).1 h]; exact ⟨rfl, rfl, rfl⟩
def vlP (v : Value) (B : Nat) (W : World) (S : Nat → Prop) : Prop := ∃ x : S39, v = .agg (vC x) ∧ x.f2.size ≤ 100 ∧ rngV x
theorem vlP_st {v : Value} {B : Nat} {W W' : World} {S : Nat → Prop} (hz : W.heap.size ≤ W'.heap.size) (hk : ∀ k, k < W.heap.size → S k → W'.heap[k]? = W.heap[k]?) (h : vlP v B W S) : vlP v B W' S := h
def vlDv (d : Nat) : Reg.Dv := Reg.Dv.n d vlP vlP_st
theorem val_vl (d : Nat) (n : Nat) (ρ : Nat → Value) : (vlDv d).val n ρ = ρ n := rfl
theorem vl_step {f d : Nat} {eats : List (Nat × Nat)} {i : Nat} {ρ : Nat → Value} {S : Nat → Nat → Prop} {w W : World} {args : Array Value} (hB : Below w.heap.size w W) (h : Calls Tryz.prog f args W fun e w' => (∃ x : S39, e = .returned (.agg (vC x)) ∧ x.f2.size ≤ 100 ∧ rngV x) ∧ Below W.heap.size W w') :
  Calls Tryz.prog f args W fun e w' => ∃ v, e = .returned v ∧ Reg.Kv eats w i (some d) (vlDv d) ρ W S v w' := by
 refine h.mono fun e w' h => ?_
 obtain ⟨⟨x, rfl, h1, h2⟩, hb⟩ := h
 exact ⟨_, rfl, Reg.Kv.n (Φ := vlP) (st := vlP_st) (fun k => W.heap.size ≤ k ∧ k < w'.heap.size) hB hb (fun k hk => hk) ⟨x, rfl, h1, h2⟩⟩
end
section
open Go.RowKit YtmebkjdknhknbaaGreatDoor.G YtmebkjdknhknbaaGreatDoorW.PrintWords YtmebkjdknhknbaaGreatDoorW.PrintLast YtmebkjdknhknbaaGreatDoorW.PrintMore
theorem fits_count (a : S57) (v : S39) (n : Int) (w : World) (HC : Aside0 (∀ w', Calls Tryz.prog 46 #[.agg #[.int .i64 2, .int .i64 n, .string (⟨#[]⟩ : ByteArray)], .int .i64 a.f0.f1, .int .i64 4000000000000000000] w' fun e w'' => e = .returned (.bool true) ∧ Below w'.heap.size w' w'')) :
  Calls Tryz.prog 44 #[.agg #[.int .i64 a.f0.f0, .int .i64 a.f0.f1, .bool a.f0.f2, .int .i64 1, .int .i64 a.f2.f0, .int .i64 a.f2.f1, .string a.f2.f2], .agg #[.int .i64 2, .int .i64 n, .string (⟨#[]⟩ : ByteArray)]] w fun e w' => e = .returned (.bool true) ∧ Below w.heap.size w w' := by
 have hu := Tryz.underlying57
 have hu2 := Tryz.underlying39
 have hu3 := Tryz.underlying49
 have HX := Aside0.mk (Bxs.start w)
 go_enter Tryz.func44, Tryz.ntmps44
 go_upto_region 0 with (fail)
 refine Reg.det [(some 2, Reg.Dv.box 2 57 (fun _ => #[.int .i64 a.f0.f0, .int .i64 a.f0.f1, .bool a.f0.f2, .int .i64 1, .int .i64 a.f2.f0, .int .i64 a.f2.f1, .string a.f2.f2]) [] true), (some 3, Reg.Dv.box 3 39 (fun _ => #[.int .i64 2, .int .i64 n, .string (⟨#[]⟩ : ByteArray)]) [] true), Reg.k 4 (.bool false)] [] 22 rfl (by kernel_rfl) (by kernel_rfl) ?s1 ?_
 case s1 =>
  intro iq oq pq hiq hoq hpq ρ ev W S hE hO ec ef hB hft hΦ
  have e0 : ev (.tmp 0) = .agg #[.int .i64 a.f0.f0, .int .i64 a.f0.f1, .bool a.f0.f2, .int .i64 1, .int .i64 a.f2.f0, .int .i64 a.f2.f1, .string a.f2.f2] := hO 0 rfl
  have e1 : ev (.tmp 1) = .agg #[.int .i64 2, .int .i64 n, .string (⟨#[]⟩ : ByteArray)] := hO 1 rfl
  simp only [Reg.SV] at hE
  obtain ⟨e2, e3, e4, _⟩ := hE
  rcases Reg.lt3 hiq with rfl | rfl | rfl
  all_goals (cases hoq; cases hpq)
  rotate_left 1
  ·refine Reg.D.box hB ?_
   go_simp
   try rfl
  rotate_right 1
  ·refine Reg.D.box hB ?_
   go_simp
   try rfl
  all_goals (first | exact Reg.D.mv hB | skip)
  all_goals (refine Reg.D.cv hB ?_; go_simp; try (first | done | rfl | (simp; done) | (intro h; omega)))
 intro ρ W0 S hB hft hap hΦ
 simp only [Reg.SV, Reg.SF, Nat.reduceAdd]
 obtain ⟨g2, e2, s2, hg2, _, b2⟩ := hΦ 0 _ rfl rfl
 replace e2 : ρ 2 = .pointer (some ⟨g2, 0, none⟩) := e2
 obtain ⟨g3, e3, s3, hg3, _, b3⟩ := hΦ 1 _ rfl rfl
 replace e3 : ρ 3 = .pointer (some ⟨g3, 0, none⟩) := e3
 try simp only [e2, e3]
 replace b2 : W0.heap[g2]? = some (.cells #[.int .i64 a.f0.f0, .int .i64 a.f0.f1, .bool a.f0.f2, .int .i64 1, .int .i64 a.f2.f0, .int .i64 a.f2.f1, .string a.f2.f2] 57 (0, 0)) := b2
 replace b3 : W0.heap[g3]? = some (.cells #[.int .i64 2, .int .i64 n, .string (⟨#[]⟩ : ByteArray)] 39 (0, 0)) := b3
 have HX := Aside0.mk (HX.out.join ((Bxs.one hB hg2 b2).more hg3 b3 (by intro p hp; simp only [List.mem_cons, List.mem_singleton, List.not_mem_nil, or_false] at hp; rcases hp with rfl <;> (intro e; dsimp only at e; subst e; first | exact absurd (hap _ _ _ s2 s3) (by decide)))))
 clear hΦ hft hap 
 go_upto_region 1 with (fail)
 try simp only [Reg.SF]
 refine Reg.det [Reg.k 5 (.pointer (some ⟨g2, 3, none⟩)), Reg.k 6 (.int .i64 1), Reg.k 7 (.bool true), Reg.k 8 (.bool true), Reg.u 9, Reg.u 10, Reg.u 11, Reg.k 12 (.bool true)] [] 22 rfl (by kernel_rfl) (by kernel_rfl) ?s2 ?_
 case s2 =>
  intro iq oq pq hiq hoq hpq ρ ev W S hE hO ec ef hB hft hΦ
  have e2 : ev (.tmp 2) = .pointer (some ⟨g2, 0, none⟩) := hO 2 rfl
  have mg2_3 := pw_cell_below hB (HX.out.cell 1 3 rfl rfl : _ = some (.int .i64 1 : Value))
  simp only [Reg.SV] at hE
  obtain ⟨e5, e6, e7, e8, e9, e10, e11, e12, _⟩ := hE
  rcases Reg.lt8 hiq with rfl | rfl | rfl | rfl | rfl | rfl | rfl | rfl
  all_goals (cases hoq; cases hpq)
  all_goals (first | exact Reg.D.sk hB | skip)
  all_goals (first | exact Reg.D.mv hB | skip)
  all_goals (refine Reg.D.cv hB ?_; go_simp; try (first | done | rfl | (simp; done) | (intro h; omega)))
 intro ρ W1 S hB hft hap hΦ
 simp only [Reg.SV, Reg.SF, Nat.reduceAdd]
 have HX := Aside0.mk (HX.out.call hB)
 clear hΦ hft hap 
 go_upto_region 2 with (fail)
 try simp only [Reg.SF]
 refine Reg.det [Reg.k 13 (.agg #[.int .i64 2, .int .i64 n, .string (⟨#[]⟩ : ByteArray)]), Reg.k 14 (.pointer (some ⟨g2, 0, none⟩)), Reg.k 15 (.pointer (some ⟨g2, 1, none⟩)), Reg.k 16 (.int .i64 a.f0.f1), Reg.k 17 (.bool true), Reg.k 4 (.bool true)] [] 22 rfl (by kernel_rfl) (by kernel_rfl) ?s3 ?_
 case s3 =>
  intro iq oq pq hiq hoq hpq ρ ev W S hE hO ec ef hB hft hΦ
  have e2 : ev (.tmp 2) = .pointer (some ⟨g2, 0, none⟩) := hO 2 rfl
  have e3 : ev (.tmp 3) = .pointer (some ⟨g3, 0, none⟩) := hO 3 rfl
  have mg3_0 := pw_cell_below hB (HX.out.cell 0 0 rfl rfl : _ = some (.int .i64 2 : Value))
  have mg3_1 := pw_cell_below hB (HX.out.cell 0 1 rfl rfl : _ = some (.int .i64 n : Value))
  have mg3_2 := pw_cell_below hB (HX.out.cell 0 2 rfl rfl : _ = some (.string (⟨#[]⟩ : ByteArray) : Value))
  have mg2_1 := pw_cell_below hB (HX.out.cell 1 1 rfl rfl : _ = some (.int .i64 a.f0.f1 : Value))
  simp only [Reg.SV] at hE
  obtain ⟨e13, e14, e15, e16, e17, e4, _⟩ := hE
  rcases Reg.lt6 hiq with rfl | rfl | rfl | rfl | rfl | rfl
  all_goals (cases hoq; cases hpq)
  rotate_left 4
  ·refine Reg.D.cc (g := 46) (args := #[.agg #[.int .i64 2, .int .i64 n, .string (⟨#[]⟩ : ByteArray)], .int .i64 a.f0.f1, .int .i64 4000000000000000000]) hB (by go_simp; try rfl) ?_
   exact HC.out W
  rotate_right 4
  all_goals (first | exact Reg.D.mv hB | skip)
  all_goals (refine Reg.D.cv hB ?_; go_simp; try (first | done | rfl | (simp; done) | (intro h; omega)))
 intro ρ W2 S hB hft hap hΦ
 simp only [Reg.SV, Reg.SF, Nat.reduceAdd]
 have HX := Aside0.mk (HX.out.call hB)
 clear hΦ hft hap 
 go_wp2_with fail
 go_ret
 exact ⟨rfl, HX.out.below⟩
theorem fits_plain (a : S57) (v : S39) (n : Int) (w : World) (HC : Aside0 (∀ w', Calls Tryz.prog 25 #[.agg #[.int .i64 a.f0.f0, .int .i64 a.f0.f1, .bool a.f0.f2], .agg #[.int .i64 v.f0, .int .i64 v.f1, .string v.f2]] w' fun e w'' => e = .returned (.bool true) ∧ Below w'.heap.size w' w'')) :
  Calls Tryz.prog 44 #[.agg #[.int .i64 a.f0.f0, .int .i64 a.f0.f1, .bool a.f0.f2, .int .i64 0, .int .i64 a.f2.f0, .int .i64 a.f2.f1, .string a.f2.f2], .agg #[.int .i64 v.f0, .int .i64 v.f1, .string v.f2]] w fun e w' => e = .returned (.bool true) ∧ Below w.heap.size w w' := by
 have hu := Tryz.underlying57
 have hu2 := Tryz.underlying39
 have hu3 := Tryz.underlying49
 have HX := Aside0.mk (Bxs.start w)
 go_enter Tryz.func44, Tryz.ntmps44
 go_upto_region 0 with (fail)
 refine Reg.det [(some 2, Reg.Dv.box 2 57 (fun _ => #[.int .i64 a.f0.f0, .int .i64 a.f0.f1, .bool a.f0.f2, .int .i64 0, .int .i64 a.f2.f0, .int .i64 a.f2.f1, .string a.f2.f2]) [] true), (some 3, Reg.Dv.box 3 39 (fun _ => #[.int .i64 v.f0, .int .i64 v.f1, .string v.f2]) [] true), Reg.k 4 (.bool false)] [] 22 rfl (by kernel_rfl) (by kernel_rfl) ?s4 ?_
 case s4 =>
  intro iq oq pq hiq hoq hpq ρ ev W S hE hO ec ef hB hft hΦ
  have e0 : ev (.tmp 0) = .agg #[.int .i64 a.f0.f0, .int .i64 a.f0.f1, .bool a.f0.f2, .int .i64 0, .int .i64 a.f2.f0, .int .i64 a.f2.f1, .string a.f2.f2] := hO 0 rfl
  have e1 : ev (.tmp 1) = .agg #[.int .i64 v.f0, .int .i64 v.f1, .string v.f2] := hO 1 rfl
  simp only [Reg.SV] at hE
  obtain ⟨e2, e3, e4, _⟩ := hE
  rcases Reg.lt3 hiq with rfl | rfl | rfl
  all_goals (cases hoq; cases hpq)
  rotate_left 1
  ·refine Reg.D.box hB ?_
   go_simp
   try rfl
  rotate_right 1
  ·refine Reg.D.box hB ?_
   go_simp
   try rfl
  all_goals (first | exact Reg.D.mv hB | skip)
  all_goals (refine Reg.D.cv hB ?_; go_simp; try (first | done | rfl | (simp; done) | (intro h; omega)))
 intro ρ W0 S hB hft hap hΦ
 simp only [Reg.SV, Reg.SF, Nat.reduceAdd]
 obtain ⟨g2, e2, s2, hg2, _, b2⟩ := hΦ 0 _ rfl rfl
 replace e2 : ρ 2 = .pointer (some ⟨g2, 0, none⟩) := e2
 obtain ⟨g3, e3, s3, hg3, _, b3⟩ := hΦ 1 _ rfl rfl
 replace e3 : ρ 3 = .pointer (some ⟨g3, 0, none⟩) := e3
 try simp only [e2, e3]
 replace b2 : W0.heap[g2]? = some (.cells #[.int .i64 a.f0.f0, .int .i64 a.f0.f1, .bool a.f0.f2, .int .i64 0, .int .i64 a.f2.f0, .int .i64 a.f2.f1, .string a.f2.f2] 57 (0, 0)) := b2
 replace b3 : W0.heap[g3]? = some (.cells #[.int .i64 v.f0, .int .i64 v.f1, .string v.f2] 39 (0, 0)) := b3
 have HX := Aside0.mk (HX.out.join ((Bxs.one hB hg2 b2).more hg3 b3 (by intro p hp; simp only [List.mem_cons, List.mem_singleton, List.not_mem_nil, or_false] at hp; rcases hp with rfl <;> (intro e; dsimp only at e; subst e; first | exact absurd (hap _ _ _ s2 s3) (by decide)))))
 clear hΦ hft hap 
 go_upto_region 1 with (fail)
 try simp only [Reg.SF]
 refine Reg.det [Reg.k 5 (.pointer (some ⟨g2, 3, none⟩)), Reg.k 6 (.int .i64 0), Reg.k 7 (.bool false), Reg.k 8 (.bool false), Reg.k 9 (.pointer (some ⟨g2, 3, none⟩)), Reg.k 10 (.int .i64 0), Reg.k 11 (.bool false), Reg.k 12 (.bool false)] [] 22 rfl (by kernel_rfl) (by kernel_rfl) ?s5 ?_
 case s5 =>
  intro iq oq pq hiq hoq hpq ρ ev W S hE hO ec ef hB hft hΦ
  have e2 : ev (.tmp 2) = .pointer (some ⟨g2, 0, none⟩) := hO 2 rfl
  have mg2_3 := pw_cell_below hB (HX.out.cell 1 3 rfl rfl : _ = some (.int .i64 0 : Value))
  simp only [Reg.SV] at hE
  obtain ⟨e5, e6, e7, e8, e9, e10, e11, e12, _⟩ := hE
  rcases Reg.lt8 hiq with rfl | rfl | rfl | rfl | rfl | rfl | rfl | rfl
  all_goals (cases hoq; cases hpq)
  all_goals (first | exact Reg.D.mv hB | skip)
  all_goals (refine Reg.D.cv hB ?_; go_simp; try (first | done | rfl | (simp; done) | (intro h; omega)))
 intro ρ W1 S hB hft hap hΦ
 simp only [Reg.SV, Reg.SF, Nat.reduceAdd]
 have HX := Aside0.mk (HX.out.call hB)
 clear hΦ hft hap 
 go_upto_region 3 with (fail)
 try simp only [Reg.SF]
 refine Reg.det [Reg.k 18 (.pointer (some ⟨g2, 0, none⟩)), Reg.k 19 (.agg #[.int .i64 a.f0.f0, .int .i64 a.f0.f1, .bool a.f0.f2]), Reg.k 20 (.agg #[.int .i64 v.f0, .int .i64 v.f1, .string v.f2]), Reg.k 21 (.bool true), Reg.k 4 (.bool true)] [] 22 rfl (by kernel_rfl) (by kernel_rfl) ?s6 ?_
 case s6 =>
  intro iq oq pq hiq hoq hpq ρ ev W S hE hO ec ef hB hft hΦ
  have e2 : ev (.tmp 2) = .pointer (some ⟨g2, 0, none⟩) := hO 2 rfl
  have e3 : ev (.tmp 3) = .pointer (some ⟨g3, 0, none⟩) := hO 3 rfl
  have mg2_0 := pw_cell_below hB (HX.out.cell 1 0 rfl rfl : _ = some (.int .i64 a.f0.f0 : Value))
  have mg2_1 := pw_cell_below hB (HX.out.cell 1 1 rfl rfl : _ = some (.int .i64 a.f0.f1 : Value))
  have mg2_2 := pw_cell_below hB (HX.out.cell 1 2 rfl rfl : _ = some (.bool a.f0.f2 : Value))
  have mg3_0 := pw_cell_below hB (HX.out.cell 0 0 rfl rfl : _ = some (.int .i64 v.f0 : Value))
  have mg3_1 := pw_cell_below hB (HX.out.cell 0 1 rfl rfl : _ = some (.int .i64 v.f1 : Value))
  have mg3_2 := pw_cell_below hB (HX.out.cell 0 2 rfl rfl : _ = some (.string v.f2 : Value))
  simp only [Reg.SV] at hE
  obtain ⟨e18, e19, e20, e21, e4, _⟩ := hE
  rcases Reg.lt5 hiq with rfl | rfl | rfl | rfl | rfl
  all_goals (cases hoq; cases hpq)
  rotate_left 3
  ·refine Reg.D.cc (g := 25) (args := #[.agg #[.int .i64 a.f0.f0, .int .i64 a.f0.f1, .bool a.f0.f2], .agg #[.int .i64 v.f0, .int .i64 v.f1, .string v.f2]]) hB (by go_simp; try rfl) ?_
   exact HC.out W
  rotate_right 3
  all_goals (first | exact Reg.D.mv hB | skip)
  all_goals (refine Reg.D.cv hB ?_; go_simp; try (first | done | rfl | (simp; done) | (intro h; omega)))
 intro ρ W3 S hB hft hap hΦ
 simp only [Reg.SV, Reg.SF, Nat.reduceAdd]
 have HX := Aside0.mk (HX.out.call hB)
 clear hΦ hft hap 
 go_wp2_with fail
 go_ret
 exact ⟨rfl, HX.out.below⟩
theorem fits_true {a : S57} {v : S39} (ha : aOk a) (hr : rngV v) (h : fitB a v = true) (w : World) : Calls Tryz.prog 44 #[.agg #[.int .i64 a.f0.f0, .int .i64 a.f0.f1, .bool a.f0.f2, .int .i64 a.f1, .int .i64 a.f2.f0, .int .i64 a.f2.f1, .string a.f2.f2], .agg #[.int .i64 v.f0, .int .i64 v.f1, .string v.f2]] w fun e w' => e = .returned (.bool true) ∧ Below w.heap.size w w' := by
 rcases fit_ty ha hr h with ⟨h1, h0, h6, n, hn, ht, rfl⟩ | ⟨h1, h2, h3⟩
 ·rw [h1]
  exact fits_count a ⟨2, n, ⟨#[]⟩⟩ n w ⟨fun w' => number_true n a.f0.f1 4000000000000000000 (by omega) h0 h6 hn ht w'⟩
 ·rw [h1]
  exact fits_plain a v 0 w ⟨fun w' => Has_true h3 h2 w'⟩
theorem FitR_walk (l0 : List S57) (l : List S39) (A0 A1 : Option Addr) (n c0 c1 : Nat) (w : World) (HF : Aside0 (∀ i : Nat, i < n → ∀ w', Calls Tryz.prog 44 #[.agg #[.int .i64 (rd_T57 l0 (i : Int)).f0.f0, .int .i64 (rd_T57 l0 (i : Int)).f0.f1, .bool (rd_T57 l0 (i : Int)).f0.f2, .int .i64 (rd_T57 l0 (i : Int)).f1, .int .i64 (rd_T57 l0 (i : Int)).f2.f0, .int .i64 (rd_T57 l0 (i : Int)).f2.f1, .string (rd_T57 l0 (i : Int)).f2.f2], .agg #[.int .i64 (rd_T39 l (i : Int)).f0, .int .i64 (rd_T39 l (i : Int)).f1, .string (rd_T39 l (i : Int)).f2]] w' fun e w'' => e = .returned (.bool true) ∧ Below w'.heap.size w' w'')) (HMX : Aside0 (n ≤ 9223372036854775807)) (HR0 : Aside0 (Kd.C k57 w A0 n l0)) (HR1 : Aside0 (Kd.C k39 w A1 n l)) :
  Calls Tryz.prog 23 #[.slice A0 n c0, .slice A1 n c1] w fun e w' => e = .returned (.bool true) ∧ Below w.heap.size w w' := by
 have hu := Tryz.underlying57
 have hu2 := Tryz.underlying39
 have HX := Aside0.mk (Bxs.start w)
 go_enter Tryz.func23, Tryz.ntmps23
 go_wp2_with fail
 go_loopg [5] n (fun kq v5 w' => ∃ i : Nat, v5 = .int .i64 i ∧ Aside0 (kq + i = n) ∧ Aside0 (Bxs w w' []))
 case atStart => exact ⟨0, rfl, ⟨by omega⟩, HX⟩
 case round =>
  clear HX
  obtain ⟨i, rfl, HKQ, HX⟩ := hrel
  have hmx := HMX.out
  by_cases hi : i < n
  ·have w2 : IntKind.i64.wrap ((i : Int) + 1) = (i : Int) + 1 := by rw [IntKind.wrap_i64]; omega
   have dl : decide ((i : Int) < (n : Int)) = true := decide_eq_true (by omega)
   obtain ⟨ad0, e0, p0, p1, p2, p3, p4, p5, p6⟩ := at_T57 HR0.out (i : Int) (by omega) (by omega)
   obtain ⟨ad1, e1, s0, s1, s2⟩ := at_T39 HR1.out (i : Int) (by omega) (by omega)
   subst e0 e1
   rw [Int.toNat_natCast] at p0 p1 p2 p3 p4 p5 p6 s0 s1 s2
   have hF := HF.out i hi
   generalize rd_T57 l0 (i : Int) = a at *
   generalize rd_T39 l (i : Int) = v at *
   have HF1 := Aside0.mk hF
   clear hF
   obtain ⟨qa, hqa⟩ : ∃ q, ad0.add (i * 7) = q := ⟨_, rfl⟩
   obtain ⟨qv, hqv⟩ : ∃ q, ad1.add (i * 3) = q := ⟨_, rfl⟩
   rw [hqa] at p0 p1 p2 p3 p4 p5 p6
   rw [hqv] at s0 s1 s2
   go_upto_region 4 with (fail)
   try simp only [Reg.SF]
   refine Reg.det [Reg.k 11 (.int .i64 (i : Int)), Reg.k 12 (.slice (some ad0) n c0), Reg.k 13 (.int .i64 n), Reg.k 14 (.bool true)] [] 27 rfl (by kernel_rfl) (by kernel_rfl) ?s7 ?_
   case s7 =>
    intro iq oq pq hiq hoq hpq ρ ev W S hE hO ec ef hB hft hΦ
    have e0 : ev (.tmp 0) = .slice (some ad0) n c0 := hO 0 rfl
    have e5 : ev (.tmp 5) = .int .i64 (i : Int) := hO 5 rfl
    simp only [Reg.SV] at hE
    obtain ⟨e11, e12, e13, e14, _⟩ := hE
    rcases Reg.lt4 hiq with rfl | rfl | rfl | rfl
    all_goals (cases hoq; cases hpq)
    all_goals (first | exact Reg.D.mv hB | skip)
    all_goals (refine Reg.D.cv hB ?_; go_simp; try (first | done | rfl | (exact dl) | (simp [dl]; done)))
   intro ρ W4 S hB hft hap hΦ
   simp only [Reg.SV, Reg.SF, Nat.reduceAdd]
   have HX := Aside0.mk (HX.out.call hB)
   clear hΦ hft hap 
   have m0 := pw_cell_below HX.out.below p0
   have m1 := pw_cell_below HX.out.below p1
   have m2 := pw_cell_below HX.out.below p2
   have m3 := pw_cell_below HX.out.below p3
   have m4 := pw_cell_below HX.out.below p4
   have m5 := pw_cell_below HX.out.below p5
   have m6 := pw_cell_below HX.out.below p6
   have t0 := pw_cell_below HX.out.below s0
   have t1 := pw_cell_below HX.out.below s1
   have t2 := pw_cell_below HX.out.below s2
   go_upto_region 6 with (fail)
   try simp only [Reg.SF]
   refine Reg.det [Reg.k 17 (.slice (some ad0) n c0), Reg.k 18 (.int .i64 (i : Int)), Reg.k 19 (.pointer (some qa)), Reg.k 20 (.agg #[.int .i64 a.f0.f0, .int .i64 a.f0.f1, .bool a.f0.f2, .int .i64 a.f1, .int .i64 a.f2.f0, .int .i64 a.f2.f1, .string a.f2.f2]), Reg.k 21 (.slice (some ad1) n c1), Reg.k 22 (.int .i64 (i : Int)), Reg.k 23 (.pointer (some qv)), Reg.k 24 (.agg #[.int .i64 v.f0, .int .i64 v.f1, .string v.f2]), Reg.k 25 (.bool true), Reg.k 26 (.bool false)] [] 27 rfl (by kernel_rfl) (by kernel_rfl) ?s8 ?_
   case s8 =>
    intro iq oq pq hiq hoq hpq ρ ev W S hE hO ec ef hB hft hΦ
    have e0 : ev (.tmp 0) = .slice (some ad0) n c0 := hO 0 rfl
    have e1 : ev (.tmp 1) = .slice (some ad1) n c1 := hO 1 rfl
    have e5 : ev (.tmp 5) = .int .i64 (i : Int) := hO 5 rfl
    have m0' := pw_cell_below hB m0
    have m1' := pw_cell_below hB m1
    have m2' := pw_cell_below hB m2
    have m3' := pw_cell_below hB m3
    have m4' := pw_cell_below hB m4
    have m5' := pw_cell_below hB m5
    have m6' := pw_cell_below hB m6
    have t0' := pw_cell_below hB t0
    have t1' := pw_cell_below hB t1
    have t2' := pw_cell_below hB t2
    simp only [Reg.SV] at hE
    obtain ⟨e17, e18, e19, e20, e21, e22, e23, e24, e25, e26, _⟩ := hE
    rcases Reg.lt10 hiq with rfl | rfl | rfl | rfl | rfl | rfl | rfl | rfl | rfl | rfl
    all_goals (cases hoq; cases hpq)
    rotate_left 8
    ·refine Reg.D.cc (g := 44) (args := #[.agg #[.int .i64 a.f0.f0, .int .i64 a.f0.f1, .bool a.f0.f2, .int .i64 a.f1, .int .i64 a.f2.f0, .int .i64 a.f2.f1, .string a.f2.f2], .agg #[.int .i64 v.f0, .int .i64 v.f1, .string v.f2]]) hB (by go_simp; try rfl) ?_
     exact HF1.out W
    rotate_right 8
    all_goals (first | exact Reg.D.mv hB | skip)
    all_goals (refine Reg.D.cv hB ?_; go_simp; try (first | done | rfl | (rw [← hqa]; rfl) | (rw [← hqv]; rfl) | (rw [if_pos (show (i : Int) < n by omega)]; simp [hqa]; done) | (rw [if_pos (show (i : Int) < n by omega)]; simp [hqv]; done) | (simp [hqa, hi]; done) | (simp [hqv, hi]; done)))
   intro ρ W6 S hB hft hap hΦ
   simp only [Reg.SV, Reg.SF, Nat.reduceAdd]
   have HX := Aside0.mk (HX.out.call hB)
   clear hΦ hft hap 
   clear m0 m1 m2 m3 m4 m5 m6 t0 t1 t2 dl
   go_wp2_with fail
   cases gk with
   | zero => exact absurd HKQ.out (by omega)
   | succ gk1 =>
   go_roundg gk1
   case measure => omega
   case rel => exact ⟨i + 1, by simp, ⟨by have := HKQ.out; omega⟩, HX⟩
  ·have dl : decide ((i : Int) < (n : Int)) = false := decide_eq_false (by omega)
   go_wp2_with fail
   go_ret
   exact ⟨rfl, HX.out.below⟩
theorem FitR_calls {l0 : List S57} {l : List S39} (hat : atOk l0) (hr : ∀ y, y ∈ l → rngV y) (hf : fitL l0 l = true) (A0 A1 : Option Addr) (c0 c1 : Nat) (w : World) (hr0 : Kd.C k57 w A0 l0.length l0) (hr1 : Kd.C k39 w A1 l.length l) :
  Calls Tryz.prog 23 #[.slice A0 l0.length c0, .slice A1 l.length c1] w fun e w' => e = .returned (.bool true) ∧ Below w.heap.size w w' := by
 have hl := fit_len hf
 have h6 := hat.2.1
 rw [hl] at hr0 ⊢
 refine FitR_walk l0 l A0 A1 l.length c0 c1 w ⟨fun i hi w' => fits_true (hat.2.2.1 i (by omega)) (hr _ ?_) (fit_at hf (by omega) (by omega)) w'⟩ ⟨by omega⟩ ⟨hr0⟩ ⟨hr1⟩
 have : rd_T39 l (i : Int) = l[i] := by unfold rd_T39; rw [Int.toNat_natCast, List.getD_eq_getElem?_getD, List.getElem?_eq_getElem hi]; rfl
 rw [this]; exact List.getElem_mem hi
end
section
open Go.RowKit YtmebkjdknhknbaaGreatDoor.G YtmebkjdknhknbaaGreatDoorW.PrintWords YtmebkjdknhknbaaGreatDoorW.PrintLast YtmebkjdknhknbaaGreatDoorW.PrintMore
theorem same_fromP (l : List S39) (hz : l.length ≤ 1000) : ∀ (m i k : Nat), i + m = l.length → m < k → chapmanref16_Same.l0 k l l (i : Int) = some true := by
 intro m
 induction m with
 | zero =>
  intro i k hi hk
  obtain ⟨k, rfl⟩ : ∃ j, k = j + 1 := ⟨k - 1, by omega⟩
  rw [chapmanref16_Same.l0, if_neg (by omega)]
 | succ m ih =>
  intro i k hi hk
  obtain ⟨k, rfl⟩ : ∃ j, k = j + 1 := ⟨k - 1, by omega⟩
  have hw : wrap64 ((i : Int) + 1) = ((i + 1 : Nat) : Int) := by unfold wrap64; omega
  rw [chapmanref16_Same.l0, if_pos (by omega), if_pos (by omega), if_pos (by omega), if_neg (by simp), hw]
  exact ih (i + 1) k (by omega) (by omega)
theorem same_selfP (l : List S39) (hz : l.length ≤ 1000) : ∃ k, chapmanref16_Same.f k l l = some true := ⟨l.length + 1, by
 unfold chapmanref16_Same.f
 rw [if_pos rfl]
 exact same_fromP l hz l.length 0 (l.length + 1) (by omega) (by omega)⟩
theorem putget_law (B1 B2 B3 B4 : Option Addr) (d1 d2 d3 d4 : Nat) (l1 l2 l3 l4 : List Int) (w : World) (hgl : Gl w) (hb1 : ∀ x, x ∈ l1 → 0 ≤ x ∧ x ≤ 255) (hb2 : ∀ x, x ∈ l2 → 0 ≤ x ∧ x ≤ 255) (hb3 : ∀ x, x ∈ l3 → 0 ≤ x ∧ x ≤ 255) (hb4 : ∀ x, x ∈ l4 → 0 ≤ x ∧ x ≤ 255) (hd1 : l1.length ≤ d1) (hd2 : l2.length ≤ d2) (hd3 : l3.length ≤ d3) (hd4 : l4.length ≤ d4) (hr1 : Kd.C (Kd.int .u8) w B1 l1.length l1) (hr2 : Kd.C (Kd.int .u8) w B2 l2.length l2) (hr3 : Kd.C (Kd.int .u8) w B3 l3.length l3) (hr4 : Kd.C (Kd.int .u8) w B4 l4.length l4) :
  Calls Tryz.prog 6 #[.agg #[.slice B1 l1.length d1, .slice B2 l2.length d2, .slice B3 l3.length d3, .slice B4 l4.length d4]] w fun e w' => e = .returned (.bool true) ∧ Below w.heap.size w w' := by
 have hu := Tryz.underlying24
 have hu49 := Tryz.underlying49
 have hu39 := Tryz.underlying39
 have hu32 := Tryz.underlying32
 have hu29 := Tryz.underlying29
 have hu36 := Tryz.underlying36
 have hu42 := Tryz.underlying42
 have HX := Aside0.mk (Bxs.start w)
 have HG := Aside0.mk hgl
 have HMd : Aside0 (∀ w', Below w.heap.size w w' → Calls Tryz.prog 10 #[.agg #[.slice B1 l1.length d1, .slice B2 l2.length d2, .slice B3 l3.length d3, .slice B4 l4.length d4]] w' fun e w'' => (∃ v, e = .returned v ∧ mdP v w'.heap.size w'' (fun _ => True)) ∧ Below w'.heap.size w' w'') := ⟨fun w' hb => made_calls B1 B2 B3 B4 d1 d2 d3 l4.length d4 l1 l2 l3 hb1 hb2 hb3 hd1 hd2 hd3 w' (Kd.C_below hr1 hb) (Kd.C_below hr2 hb) (Kd.C_below hr3 hb)⟩
 go_enter Tryz.func6, Tryz.ntmps6
 go_upto_region 0 with (fail)
 refine Reg.det [(some 1, Reg.Dv.box 1 24 (fun _ => #[.slice B1 l1.length d1, .slice B2 l2.length d2, .slice B3 l3.length d3, .slice B4 l4.length d4]) [] true), Reg.k 2 (.bool false)] [] 107 rfl (by kernel_rfl) (by kernel_rfl) ?s1 ?_
 case s1 =>
  intro iq oq pq hiq hoq hpq ρ ev W S hE hO ec ef hB hft hΦ
  have e0 : ev (.tmp 0) = .agg #[.slice B1 l1.length d1, .slice B2 l2.length d2, .slice B3 l3.length d3, .slice B4 l4.length d4] := hO 0 rfl
  simp only [Reg.SV, val_md, val_got, val_vl] at hE
  obtain ⟨e1, e2, _⟩ := hE
  rcases Reg.lt2 hiq with rfl | rfl
  all_goals (cases hoq; cases hpq)
  ·refine Reg.D.box hB ?_
   go_simp
   try rfl
  all_goals (first | exact Reg.D.mv hB | skip)
  all_goals (refine Reg.D.cv hB ?_; go_simp; try (first | done | rfl | (simp; done) | (intro h; omega)))
 intro ρ W0 S hB hft hap hΦ
 simp only [Reg.SV, val_md, val_got, val_vl, Reg.SF, Nat.reduceAdd]
 obtain ⟨g1, e1, s1, hg1, _, b1⟩ := hΦ 0 _ rfl rfl
 replace e1 : ρ 1 = .pointer (some ⟨g1, 0, none⟩) := e1
 try simp only [e1]
 replace b1 : W0.heap[g1]? = some (.cells #[.slice B1 l1.length d1, .slice B2 l2.length d2, .slice B3 l3.length d3, .slice B4 l4.length d4] 24 (0, 0)) := b1
 have HX := Aside0.mk (HX.out.join (Bxs.one hB hg1 b1))
 clear hΦ hft hap 
 go_upto_region 1 with (fail)
 try simp only [Reg.SF]
 refine Reg.det [Reg.k 10 (.bool true), Reg.k 3 (.bool true)] [] 107 rfl (by kernel_rfl) (by kernel_rfl) ?s2 ?_
 case s2 =>
  intro iq oq pq hiq hoq hpq ρ ev W S hE hO ec ef hB hft hΦ
  simp only [Reg.SV, val_md, val_got, val_vl] at hE
  obtain ⟨e10, e3, _⟩ := hE
  rcases Reg.lt2 hiq with rfl | rfl
  all_goals (cases hoq; cases hpq)
  ·refine Reg.D.cc (g := 9) (args := #[]) hB (by go_simp; try rfl) ?_
   exact examples_calls W (HG.out.below (below_step HX.out.below hB))
  all_goals (first | exact Reg.D.mv hB | skip)
  all_goals (refine Reg.D.cv hB ?_; go_simp; try (first | done | rfl | (simp; done) | (intro h; omega)))
 intro ρ W1 S hB hft hap hΦ
 simp only [Reg.SV, val_md, val_got, val_vl, Reg.SF, Nat.reduceAdd]
 have HX := Aside0.mk (HX.out.call hB)
 clear hΦ hft hap 
 go_upto_region 2 with (fail)
 try simp only [Reg.SF]
 refine Reg.det [Reg.k 11 (.bool true), Reg.k 12 (.bool false)] [] 107 rfl (by kernel_rfl) (by kernel_rfl) ?s3 ?_
 case s3 =>
  intro iq oq pq hiq hoq hpq ρ ev W S hE hO ec ef hB hft hΦ
  have e3 : ev (.tmp 3) = .bool true := hO 3 rfl
  simp only [Reg.SV, val_md, val_got, val_vl] at hE
  obtain ⟨e11, e12, _⟩ := hE
  rcases Reg.lt2 hiq with rfl | rfl
  all_goals (cases hoq; cases hpq)
  all_goals (first | exact Reg.D.mv hB | skip)
  all_goals (refine Reg.D.cv hB ?_; go_simp; try (first | done | rfl | (simp; done) | (intro h; omega)))
 intro ρ W2 S hB hft hap hΦ
 simp only [Reg.SV, val_md, val_got, val_vl, Reg.SF, Nat.reduceAdd]
 have HX := Aside0.mk (HX.out.call hB)
 clear hΦ hft hap 
 go_upto_region 4 with (fail)
 try simp only [Reg.SF]
 refine Reg.det [Reg.k 13 (.agg #[.slice B1 l1.length d1, .slice B2 l2.length d2, .slice B3 l3.length d3, .slice B4 l4.length d4]), (some 14, mdDv 14), (some 4, Reg.Dv.box 4 32 (fun _ => #[.slice none 0 0, .int .i64 0, .int .i64 0, .int .i64 0, .string (⟨#[]⟩ : ByteArray), .slice none 0 0, .slice none 0 0]) [] true), (none, Reg.Dv.box 4 32 (fun l => (l.headD undef).cells) [14] false)] [(2, 3)] 107 rfl (by kernel_rfl) (by kernel_rfl) ?s4 ?_
 case s4 =>
  intro iq oq pq hiq hoq hpq ρ ev W S hE hO ec ef hB hft hΦ
  have e1 : ev (.tmp 1) = .pointer (some ⟨g1, 0, none⟩) := hO 1 rfl
  have mg1_0 := pw_cell_below hB (HX.out.cell 0 0 rfl rfl : _ = some (.slice B1 l1.length d1 : Value))
  have mg1_1 := pw_cell_below hB (HX.out.cell 0 1 rfl rfl : _ = some (.slice B2 l2.length d2 : Value))
  have mg1_2 := pw_cell_below hB (HX.out.cell 0 2 rfl rfl : _ = some (.slice B3 l3.length d3 : Value))
  have mg1_3 := pw_cell_below hB (HX.out.cell 0 3 rfl rfl : _ = some (.slice B4 l4.length d4 : Value))
  simp only [Reg.SV, val_md, val_got, val_vl] at hE
  obtain ⟨e13, e14, e4, _⟩ := hE
  rcases Reg.lt4 hiq with rfl | rfl | rfl | rfl
  all_goals (cases hoq; cases hpq)
  rotate_left 3
  ·obtain ⟨y0, y, y1, u0, u4, u2, h14, _, sA, sX, sL⟩ := hΦ 1 _ rfl rfl rfl
   obtain ⟨_, _, eu0⟩ := Kd.R_slice sA
   obtain ⟨_, _, eu4⟩ := Kd.R_slice sX
   obtain ⟨_, _, eu2⟩ := Kd.R_slice sL
   subst eu0 eu4 eu2
   replace h14 : ρ 14 = .agg _ := h14
   exact Reg.DStep.fill (us := [14]) (cs := fun l => (l.headD undef).cells) 2 (by decide) 32 (.tmp 4) (.tmp 14) rfl (by first | exact .inl rfl | exact .inr ⟨_, _, _, rfl, rfl, (by assumption)⟩) hB e4 (by rw [e14]; show ρ 14 = .agg (Value.cells (ρ 14)); rw [h14]; rfl) (hΦ 2 _ rfl rfl rfl) (by show _ = some (Value.cells (ρ 14)).size; rw [h14]; exact info32s) (by show _ = (Value.cells (ρ 14)).size; rw [h14]; rfl) (by show ((Value.cells (ρ 14)).toList.all _) = true; rw [h14]; rfl)
  rotate_right 3
  rotate_left 2
  ·refine Reg.D.box hB ?_
   go_simp
   try rfl
  rotate_right 2
  rotate_left 1
  ·refine Reg.D.call (g := 10) (args := #[.agg #[.slice B1 l1.length d1, .slice B2 l2.length d2, .slice B3 l3.length d3, .slice B4 l4.length d4]]) (by go_simp; try rfl) ?_
   exact md_step hB (HMd.out W (below_step HX.out.below hB))
  rotate_right 1
  all_goals (refine Reg.D.cv hB ?_; go_simp; try (first | done | rfl | (simp; done) | (intro h; omega)))
 intro ρ W4 S hB hft hap hΦ
 simp only [Reg.SV, val_md, val_got, val_vl, Reg.SF, Nat.reduceAdd]
 obtain ⟨l0, x, l, v0, v4, v2, e14, ⟨hat, hx, hll, hce⟩, rA, rX, rL⟩ := hΦ 1 _ rfl rfl
 obtain ⟨AA, cA, ev0⟩ := Kd.R_slice rA
 obtain ⟨AX, cX, ev4⟩ := Kd.R_slice rX
 obtain ⟨AL, cL, ev2⟩ := Kd.R_slice rL
 subst ev0 ev4 ev2
 replace e14 : ρ 14 = .agg #[.slice AA l0.length cA, .int .i64 x.f0, .int .i64 x.f1, .int .i64 x.f2, .string x.f3, .slice AX x.f4.length cX, .slice AL l.length cL] := e14
 have RA := Aside0.mk (Kd.R_mono (ok' := fun _ => True) rA (fun _ _ => trivial))
 have RX := Aside0.mk (Kd.R_mono (ok' := fun _ => True) rX (fun _ _ => trivial))
 have RL := Aside0.mk (Kd.R_mono (ok' := fun _ => True) rL (fun _ _ => trivial))
 clear rA rX rL
 obtain ⟨g4, e4, s4, hg4, _, b4⟩ := hΦ 3 _ rfl rfl
 replace e4 : ρ 4 = .pointer (some ⟨g4, 0, none⟩) := e4
 replace b4 : W4.heap[g4]? = some (.cells (Value.cells (ρ 14)) 32 (0, 0)) := b4
 rw [e14] at b4
 try simp only [e14, e4]
 replace b4 : W4.heap[g4]? = some (.cells #[.slice AA l0.length cA, .int .i64 x.f0, .int .i64 x.f1, .int .i64 x.f2, .string x.f3, .slice AX x.f4.length cX, .slice AL l.length cL] 32 (0, 0)) := b4
 have HX := Aside0.mk (HX.out.join (Bxs.one hB hg4 b4))
 clear hΦ hft hap 
 have hz6 : l0.length ≤ 6 := hat.2.1
 obtain ⟨hty, htp⟩ := show_ty hat hll hce 2 x (by decide) hx
 have hfit := cells_fit hat hll hce
 have hsh := show_ok hfit 3 x hx
 have hT3 : ofV 3 l0 x 3 = tailV 2 l0 x := vOk_at hx 3 (by decide)
 have hT8 : ofV 3 l0 x 8 = tailV 2 l0 x := vOk_at hx 8 (by decide)
 have hrl := cells_rng hat hll hce
 obtain ⟨T, hT⟩ : ∃ T, (ofV 3 l0 x 3).1 = T := ⟨_, rfl⟩
 rw [← hT3, hT] at hty htp
 rw [hT3, ← hT8] at hT
 obtain ⟨sv, hsv⟩ : ∃ s, shV 3 l x = s := ⟨_, rfl⟩
 rw [show (2 : Nat) + 1 = 3 from rfl, hsv] at hty
 have hrs := rng_of_ty hty
 have hs40 : sv.f2.size ≤ 40 := by rw [← hsv]; exact hsh.2
 have HT : Aside0 (∀ w', Below W4.heap.size W4 w' → Calls Tryz.prog 24 #[.slice AA l0.length cA, .agg #[.int .i64 x.f0, .int .i64 x.f1, .int .i64 x.f2, .string x.f3, .slice AX x.f4.length cX]] w' fun e w'' => e = .returned (.agg #[.int .i64 T.f0, .int .i64 T.f1, .bool T.f2]) ∧ Below w'.heap.size w' w'') := ⟨fun w' hb => by
  have h := Type_calls l0 x 3 hx.1 AA cA AX cX w' ((HG.out.below HX.out.below).below hb) (Kd.C_below (Kd.R_reads' RA.out).2.2 hb) (Kd.R_reads' RX.out).2.1 (Kd.C_below (Kd.R_reads' RX.out).2.2 hb)
  rw [hT3, ← hT8, hT] at h
  exact h⟩
 have HS : Aside0 (∀ w', Below W4.heap.size W4 w' → Calls Tryz.prog 12 #[.agg #[.int .i64 x.f0, .int .i64 x.f1, .int .i64 x.f2, .string x.f3, .slice AX x.f4.length cX], .slice AL l.length cL] w' fun e w'' => e = .returned (.agg #[.int .i64 sv.f0, .int .i64 sv.f1, .string sv.f2]) ∧ Below w'.heap.size w' w'') := ⟨fun w' hb => by
  have h := shows_all none 0 0 l 3 x hsh.1
  rw [hsv] at h
  exact Show_calls l x sv AL cL AX cX w' ((HG.out.below HX.out.below).below hb) (Kd.C_below (Kd.R_reads' RL.out).2.2 hb) (Kd.R_reads' RX.out).2.1 (Kd.C_below (Kd.R_reads' RX.out).2.2 hb) h⟩
 have HWi : Aside0 (∀ w', Below w.heap.size w w' → Calls Tryz.prog 15 #[.agg #[.int .i64 T.f0, .int .i64 T.f1, .bool T.f2], .agg #[.int .i64 sv.f0, .int .i64 sv.f1, .string sv.f2], .slice B4 l4.length d4] w' fun e w'' => (∃ v : S39, e = .returned (.agg (vC v)) ∧ v.f2.size ≤ 100 ∧ rngV v) ∧ Below w'.heap.size w' w'') := ⟨fun w' hb => Wish_calls htp (by omega) hrs B4 d4 l4 hb4 hd4 w' (Kd.C_below hr4 hb)⟩
 have HAL := Aside0.mk (And.intro hat (And.intro hx (And.intro hll (And.intro hfit (And.intro hrl (And.intro hT (And.intro hsv hz6)))))))
 clear hat hx hll hce hfit hrl hT hsv hz6 hty htp hsh hT3 hT8 hrs hs40
 go_upto_region 5 with (fail)
 try simp only [Reg.SF]
 refine Reg.det [Reg.k 15 (.pointer (some ⟨g4, 0, none⟩)), Reg.k 16 (.slice AA l0.length cA), Reg.k 17 (.pointer (some ⟨g4, 1, none⟩)), Reg.k 18 (.agg #[.int .i64 x.f0, .int .i64 x.f1, .int .i64 x.f2, .string x.f3, .slice AX x.f4.length cX]), Reg.k 19 (.agg #[.int .i64 T.f0, .int .i64 T.f1, .bool T.f2]), Reg.k 20 (.pointer (some ⟨g4, 1, none⟩)), Reg.k 21 (.agg #[.int .i64 x.f0, .int .i64 x.f1, .int .i64 x.f2, .string x.f3, .slice AX x.f4.length cX]), Reg.k 22 (.pointer (some ⟨g4, 6, none⟩)), Reg.k 23 (.slice AL l.length cL), Reg.k 24 (.agg #[.int .i64 sv.f0, .int .i64 sv.f1, .string sv.f2]), (some 5, Reg.Dv.box 5 49 (fun _ => #[.int .i64 0, .int .i64 0, .bool false]) [] true), (some 6, Reg.Dv.box 6 39 (fun _ => #[.int .i64 0, .int .i64 0, .string (⟨#[]⟩ : ByteArray)]) [] true), (none, Reg.Dv.box 5 49 (fun _ => #[.int .i64 T.f0, .int .i64 T.f1, .bool T.f2]) [] false), (none, Reg.Dv.box 6 39 (fun _ => #[.int .i64 sv.f0, .int .i64 sv.f1, .string sv.f2]) [] false)] [(10, 12), (11, 13)] 107 rfl (by kernel_rfl) (by kernel_rfl) ?s5 ?_
 case s5 =>
  intro iq oq pq hiq hoq hpq ρ ev W S hE hO ec ef hB hft hΦ
  have e4 : ev (.tmp 4) = .pointer (some ⟨g4, 0, none⟩) := hO 4 rfl
  have mg4_0 := pw_cell_below hB (HX.out.cell 0 0 rfl rfl : _ = some (.slice AA l0.length cA : Value))
  have mg4_1 := pw_cell_below hB (HX.out.cell 0 1 rfl rfl : _ = some (.int .i64 x.f0 : Value))
  have mg4_2 := pw_cell_below hB (HX.out.cell 0 2 rfl rfl : _ = some (.int .i64 x.f1 : Value))
  have mg4_3 := pw_cell_below hB (HX.out.cell 0 3 rfl rfl : _ = some (.int .i64 x.f2 : Value))
  have mg4_4 := pw_cell_below hB (HX.out.cell 0 4 rfl rfl : _ = some (.string x.f3 : Value))
  have mg4_5 := pw_cell_below hB (HX.out.cell 0 5 rfl rfl : _ = some (.slice AX x.f4.length cX : Value))
  have mg4_6 := pw_cell_below hB (HX.out.cell 0 6 rfl rfl : _ = some (.slice AL l.length cL : Value))
  simp only [Reg.SV, val_md, val_got, val_vl] at hE
  obtain ⟨e15, e16, e17, e18, e19, e20, e21, e22, e23, e24, e5, e6, _⟩ := hE
  rcases Reg.lt14 hiq with rfl | rfl | rfl | rfl | rfl | rfl | rfl | rfl | rfl | rfl | rfl | rfl | rfl | rfl
  all_goals (cases hoq; cases hpq)
  rotate_left 13
  ·exact Reg.D.fill 11 39 (.tmp 6) (.tmp 24) hB e6 (by first | assumption | rfl | (simp [*]; done)) (hΦ 11 _ rfl rfl rfl) info39s (by first | rfl | (simp only [Reg.SV]; rfl))
  rotate_right 13
  rotate_left 12
  ·exact Reg.D.fill 10 49 (.tmp 5) (.tmp 19) hB e5 (by first | assumption | rfl | (simp [*]; done)) (hΦ 10 _ rfl rfl rfl) info49s (by first | rfl | (simp only [Reg.SV]; rfl))
  rotate_right 12
  rotate_left 11
  ·refine Reg.D.box hB ?_
   go_simp
   try rfl
  rotate_right 11
  rotate_left 10
  ·refine Reg.D.box hB ?_
   go_simp
   try rfl
  rotate_right 10
  rotate_left 9
  ·refine Reg.D.cc (g := 12) (args := #[.agg #[.int .i64 x.f0, .int .i64 x.f1, .int .i64 x.f2, .string x.f3, .slice AX x.f4.length cX], .slice AL l.length cL]) hB (by go_simp; try rfl) ?_
   exact HS.out W hB
  rotate_right 9
  rotate_left 4
  ·refine Reg.D.cc (g := 24) (args := #[.slice AA l0.length cA, .agg #[.int .i64 x.f0, .int .i64 x.f1, .int .i64 x.f2, .string x.f3, .slice AX x.f4.length cX]]) hB (by go_simp; try rfl) ?_
   exact HT.out W hB
  rotate_right 4
  all_goals (refine Reg.D.cv hB ?_; go_simp; try (first | done | rfl | (simp; done) | (intro h; omega)))
 intro ρ W5 S hB hft hap hΦ
 simp only [Reg.SV, val_md, val_got, val_vl, Reg.SF, Nat.reduceAdd]
 obtain ⟨g5, e5, s5, hg5, _, b5⟩ := hΦ 12 _ rfl rfl
 replace e5 : ρ 5 = .pointer (some ⟨g5, 0, none⟩) := e5
 obtain ⟨g6, e6, s6, hg6, _, b6⟩ := hΦ 13 _ rfl rfl
 replace e6 : ρ 6 = .pointer (some ⟨g6, 0, none⟩) := e6
 try simp only [e5, e6]
 replace b5 : W5.heap[g5]? = some (.cells #[.int .i64 T.f0, .int .i64 T.f1, .bool T.f2] 49 (0, 0)) := b5
 replace b6 : W5.heap[g6]? = some (.cells #[.int .i64 sv.f0, .int .i64 sv.f1, .string sv.f2] 39 (0, 0)) := b6
 have HX := Aside0.mk (HX.out.join ((Bxs.one hB hg5 b5).more hg6 b6 (by intro p hp; simp only [List.mem_cons, List.mem_singleton, List.not_mem_nil, or_false] at hp; rcases hp with rfl <;> (intro e; dsimp only at e; subst e; first | exact absurd (hap _ _ _ s5 s6) (by decide)))))
 replace RA := Aside0.mk (Kd.R_below RA.out hB)
 replace RX := Aside0.mk (Kd.R_below RX.out hB)
 replace RL := Aside0.mk (Kd.R_below RL.out hB)
 clear hΦ hft hap 
 go_upto_region 6 with (fail)
 try simp only [Reg.SF]
 refine Reg.det [Reg.k 25 (.agg #[.int .i64 T.f0, .int .i64 T.f1, .bool T.f2]), Reg.k 26 (.agg #[.int .i64 sv.f0, .int .i64 sv.f1, .string sv.f2]), Reg.k 27 (.pointer (some ⟨g1, 3, none⟩)), Reg.k 28 (.slice B4 l4.length d4), (some 29, vlDv 29), (some 7, Reg.Dv.box 7 39 (fun _ => #[.int .i64 0, .int .i64 0, .string (⟨#[]⟩ : ByteArray)]) [] true), (none, Reg.Dv.box 7 39 (fun l => (l.headD undef).cells) [29] false)] [(5, 6)] 107 rfl (by kernel_rfl) (by kernel_rfl) ?s6 ?_
 case s6 =>
  intro iq oq pq hiq hoq hpq ρ ev W S hE hO ec ef hB hft hΦ
  have e1 : ev (.tmp 1) = .pointer (some ⟨g1, 0, none⟩) := hO 1 rfl
  have e5 : ev (.tmp 5) = .pointer (some ⟨g5, 0, none⟩) := hO 5 rfl
  have e6 : ev (.tmp 6) = .pointer (some ⟨g6, 0, none⟩) := hO 6 rfl
  have mg5_0 := pw_cell_below hB (HX.out.cell 1 0 rfl rfl : _ = some (.int .i64 T.f0 : Value))
  have mg5_1 := pw_cell_below hB (HX.out.cell 1 1 rfl rfl : _ = some (.int .i64 T.f1 : Value))
  have mg5_2 := pw_cell_below hB (HX.out.cell 1 2 rfl rfl : _ = some (.bool T.f2 : Value))
  have mg6_0 := pw_cell_below hB (HX.out.cell 0 0 rfl rfl : _ = some (.int .i64 sv.f0 : Value))
  have mg6_1 := pw_cell_below hB (HX.out.cell 0 1 rfl rfl : _ = some (.int .i64 sv.f1 : Value))
  have mg6_2 := pw_cell_below hB (HX.out.cell 0 2 rfl rfl : _ = some (.string sv.f2 : Value))
  have mg1_3 := pw_cell_below hB (HX.out.cell 3 3 rfl rfl : _ = some (.slice B4 l4.length d4 : Value))
  simp only [Reg.SV, val_md, val_got, val_vl] at hE
  obtain ⟨e25, e26, e27, e28, e29, e7, _⟩ := hE
  rcases Reg.lt7 hiq with rfl | rfl | rfl | rfl | rfl | rfl | rfl
  all_goals (cases hoq; cases hpq)
  rotate_left 6
  ·obtain ⟨v_, h29, _⟩ := hΦ 4 _ rfl rfl rfl
   replace h29 : ρ 29 = .agg (vC v_) := h29
   exact Reg.DStep.fill (us := [29]) (cs := fun l => (l.headD undef).cells) 5 (by decide) 39 (.tmp 7) (.tmp 29) rfl (by first | exact .inl rfl | exact .inr ⟨_, _, _, rfl, rfl, (by assumption)⟩) hB e7 (by rw [e29]; show ρ 29 = .agg (Value.cells (ρ 29)); rw [h29]; rfl) (hΦ 5 _ rfl rfl rfl) (by show _ = some (Value.cells (ρ 29)).size; rw [h29]; exact info39s) (by show _ = (Value.cells (ρ 29)).size; rw [h29]; rfl) (by show ((Value.cells (ρ 29)).toList.all _) = true; rw [h29]; rfl)
  rotate_right 6
  rotate_left 5
  ·refine Reg.D.box hB ?_
   go_simp
   try rfl
  rotate_right 5
  rotate_left 4
  ·refine Reg.D.call (g := 15) (args := #[.agg #[.int .i64 T.f0, .int .i64 T.f1, .bool T.f2], .agg #[.int .i64 sv.f0, .int .i64 sv.f1, .string sv.f2], .slice B4 l4.length d4]) (by go_simp; try rfl) ?_
   exact vl_step hB (HWi.out W (below_step HX.out.below hB))
  rotate_right 4
  all_goals (refine Reg.D.cv hB ?_; go_simp; try (first | done | rfl | (simp; done) | (intro h; omega)))
 intro ρ W6 S hB hft hap hΦ
 simp only [Reg.SV, val_md, val_got, val_vl, Reg.SF, Nat.reduceAdd]
 obtain ⟨v, e29, hv100, hrv⟩ := hΦ 4 _ rfl rfl
 replace e29 : ρ 29 = .agg #[.int .i64 v.f0, .int .i64 v.f1, .string v.f2] := e29
 obtain ⟨g7, e7, s7, hg7, _, b7⟩ := hΦ 6 _ rfl rfl
 replace e7 : ρ 7 = .pointer (some ⟨g7, 0, none⟩) := e7
 replace b7 : W6.heap[g7]? = some (.cells (Value.cells (ρ 29)) 39 (0, 0)) := b7
 rw [e29] at b7
 try simp only [e29, e7]
 replace b7 : W6.heap[g7]? = some (.cells #[.int .i64 v.f0, .int .i64 v.f1, .string v.f2] 39 (0, 0)) := b7
 have HX := Aside0.mk (HX.out.join (Bxs.one hB hg7 b7))
 replace RA := Aside0.mk (Kd.R_below RA.out hB)
 replace RX := Aside0.mk (Kd.R_below RX.out hB)
 replace RL := Aside0.mk (Kd.R_below RL.out hB)
 clear hΦ hft hap 
 obtain ⟨hat, hx, hll, hfit, hrl, hT, hsv, hz6⟩ := HAL.out
 have hpa := puts_all l0 (by omega) 3 x hx l v hfit
 obtain ⟨Rp, hRp⟩ : ∃ r, putsV 3 l0 l x v = r := ⟨_, rfl⟩
 rw [hRp] at hpa
 have HP : Aside0 (∀ w', Below W6.heap.size W6 w' → Calls Tryz.prog 11 #[.slice AA l0.length cA, .agg #[.int .i64 x.f0, .int .i64 x.f1, .int .i64 x.f2, .string x.f3, .slice AX x.f4.length cX], .agg #[.slice AL l.length cL, .int .i64 v.f0, .int .i64 v.f1, .string v.f2]] w' fun e w'' => gotOut AL cL l Rp w' w'' e) := ⟨fun w' hb =>
  put_calls l0 l x v _ hpa AA cA AL cL AX cX w' ((HG.out.below HX.out.below).below hb) (Kd.R_reads' RA.out).2.1 (Kd.C_below (Kd.R_reads' RA.out).2.2 hb) (Kd.R_reads' RL.out).2.1 (Kd.C_below (Kd.R_reads' RL.out).2.2 hb) (Kd.R_reads' RX.out).2.1 (Kd.C_below (Kd.R_reads' RX.out).2.2 hb)⟩
 clear hpa
 cases Rp with
 | none =>
  have hne : eqV v sv = false := by rw [eqV_sym, ← hsv]; exact puts_none hRp
  have hn2 := neV hne
  have HNE := Aside0.mk (And.intro hne hn2)
  clear hat hx hll hfit hrl hT hsv hz6 hRp hne hn2 hv100 hrv
  go_upto_region 7 with (fail)
  try simp only [Reg.SF]
  refine Reg.det [Reg.k 30 (.pointer (some ⟨g4, 0, none⟩)), Reg.k 31 (.slice AA l0.length cA), Reg.k 32 (.pointer (some ⟨g4, 1, none⟩)), Reg.k 33 (.agg #[.int .i64 x.f0, .int .i64 x.f1, .int .i64 x.f2, .string x.f3, .slice AX x.f4.length cX]), Reg.k 34 (.pointer (some ⟨g4, 6, none⟩)), Reg.k 35 (.slice AL l.length cL), Reg.k 36 (.agg #[.int .i64 v.f0, .int .i64 v.f1, .string v.f2]), Reg.k 37 (.agg #[.slice AL l.length cL, .int .i64 v.f0, .int .i64 v.f1, .string v.f2]), Reg.k 38 (.agg #[.slice none 0 0, .int .i64 160]), (some 8, Reg.Dv.box 8 36 (fun _ => #[.slice none 0 0, .int .i64 0]) [] true), (none, Reg.Dv.box 8 36 (fun _ => #[.slice none 0 0, .int .i64 160]) [] false)] [(9, 10)] 107 rfl (by kernel_rfl) (by kernel_rfl) ?s7 ?_
  case s7 =>
   intro iq oq pq hiq hoq hpq ρ ev W S hE hO ec ef hB hft hΦ
   have e4 : ev (.tmp 4) = .pointer (some ⟨g4, 0, none⟩) := hO 4 rfl
   have e7 : ev (.tmp 7) = .pointer (some ⟨g7, 0, none⟩) := hO 7 rfl
   have mg4_0 := pw_cell_below hB (HX.out.cell 3 0 rfl rfl : _ = some (.slice AA l0.length cA : Value))
   have mg4_1 := pw_cell_below hB (HX.out.cell 3 1 rfl rfl : _ = some (.int .i64 x.f0 : Value))
   have mg4_2 := pw_cell_below hB (HX.out.cell 3 2 rfl rfl : _ = some (.int .i64 x.f1 : Value))
   have mg4_3 := pw_cell_below hB (HX.out.cell 3 3 rfl rfl : _ = some (.int .i64 x.f2 : Value))
   have mg4_4 := pw_cell_below hB (HX.out.cell 3 4 rfl rfl : _ = some (.string x.f3 : Value))
   have mg4_5 := pw_cell_below hB (HX.out.cell 3 5 rfl rfl : _ = some (.slice AX x.f4.length cX : Value))
   have mg4_6 := pw_cell_below hB (HX.out.cell 3 6 rfl rfl : _ = some (.slice AL l.length cL : Value))
   have mg7_0 := pw_cell_below hB (HX.out.cell 0 0 rfl rfl : _ = some (.int .i64 v.f0 : Value))
   have mg7_1 := pw_cell_below hB (HX.out.cell 0 1 rfl rfl : _ = some (.int .i64 v.f1 : Value))
   have mg7_2 := pw_cell_below hB (HX.out.cell 0 2 rfl rfl : _ = some (.string v.f2 : Value))
   simp only [Reg.SV, val_md, val_got, val_vl] at hE
   obtain ⟨e30, e31, e32, e33, e34, e35, e36, e37, e38, e8, _⟩ := hE
   rcases Reg.lt11 hiq with rfl | rfl | rfl | rfl | rfl | rfl | rfl | rfl | rfl | rfl | rfl
   all_goals (cases hoq; cases hpq)
   rotate_left 10
   ·exact Reg.D.fill 9 36 (.tmp 8) (.tmp 38) hB e8 (by first | assumption | rfl | (simp [*]; done)) (hΦ 9 _ rfl rfl rfl) info36s (by first | rfl | (simp only [Reg.SV]; rfl))
   rotate_right 10
   rotate_left 9
   ·refine Reg.D.box hB ?_
    go_simp
    try rfl
   rotate_right 9
   rotate_left 8
   ·refine Reg.D.cc (g := 11) (args := #[.slice AA l0.length cA, .agg #[.int .i64 x.f0, .int .i64 x.f1, .int .i64 x.f2, .string x.f3, .slice AX x.f4.length cX], .agg #[.slice AL l.length cL, .int .i64 v.f0, .int .i64 v.f1, .string v.f2]]) hB (by go_simp; try rfl) ?_
    exact (HP.out W hB).mono (fun e w' h => ⟨h.2, h.1⟩)
   rotate_right 8
   all_goals (refine Reg.D.cv hB ?_; go_simp; try (first | done | rfl | (simp; done) | (intro h; omega)))
  intro ρ W7 S hB hft hap hΦ
  simp only [Reg.SV, val_md, val_got, val_vl, Reg.SF, Nat.reduceAdd]
  obtain ⟨g8, e8, s8, hg8, _, b8⟩ := hΦ 10 _ rfl rfl
  replace e8 : ρ 8 = .pointer (some ⟨g8, 0, none⟩) := e8
  try simp only [e8]
  replace b8 : W7.heap[g8]? = some (.cells #[.slice none 0 0, .int .i64 160] 36 (0, 0)) := b8
  have HX := Aside0.mk (HX.out.join (Bxs.one hB hg8 b8))
  replace RA := Aside0.mk (Kd.R_below RA.out hB)
  replace RX := Aside0.mk (Kd.R_below RX.out hB)
  replace RL := Aside0.mk (Kd.R_below RL.out hB)
  clear hΦ hft hap 
  go_upto_region 8 with (fail)
  try simp only [Reg.SF]
  refine Reg.det [Reg.k 39 (.pointer (some ⟨g8, 1, none⟩)), Reg.k 40 (.int .i64 160), Reg.k 41 (.bool true)] [] 107 rfl (by kernel_rfl) (by kernel_rfl) ?s8 ?_
  case s8 =>
   intro iq oq pq hiq hoq hpq ρ ev W S hE hO ec ef hB hft hΦ
   have e8 : ev (.tmp 8) = .pointer (some ⟨g8, 0, none⟩) := hO 8 rfl
   have mg8_1 := pw_cell_below hB (HX.out.cell 0 1 rfl rfl : _ = some (.int .i64 160 : Value))
   simp only [Reg.SV, val_md, val_got, val_vl] at hE
   obtain ⟨e39, e40, e41, _⟩ := hE
   rcases Reg.lt3 hiq with rfl | rfl | rfl
   all_goals (cases hoq; cases hpq)
   all_goals (refine Reg.D.cv hB ?_; go_simp; try (first | done | rfl | (exact neV_no HNE.out.1) | (exact neV_yes HNE.out.1) | (obtain ⟨h0, h1, h2⟩ := neV_yes HNE.out.1; rw [if_pos h0, if_pos h1, if_pos h2]) | (exact HNE.out.2.1) | (exact HNE.out.2.2.1) | (exact HNE.out.2.2.2) | (rw [HNE.out.2.1]; rfl) | (simp only [HNE.out.2.1]; rfl) | (simp only [HNE.out.2.2.2]; rfl)))
  intro ρ W8 S hB hft hap hΦ
  simp only [Reg.SV, val_md, val_got, val_vl, Reg.SF, Nat.reduceAdd]
  have HX := Aside0.mk (HX.out.call hB)
  replace RA := Aside0.mk (Kd.R_below RA.out hB)
  replace RX := Aside0.mk (Kd.R_below RX.out hB)
  replace RL := Aside0.mk (Kd.R_below RL.out hB)
  clear hΦ hft hap 
  go_upto_region 9 with (fail)
  try simp only [Reg.SF]
  refine Reg.det [Reg.k 42 (.pointer (some ⟨g8, 1, none⟩)), Reg.k 43 (.int .i64 160), Reg.k 44 (.bool true), Reg.k 45 (.bool true), Reg.k 46 (.agg #[.int .i64 v.f0, .int .i64 v.f1, .string v.f2]), Reg.k 47 (.agg #[.int .i64 sv.f0, .int .i64 sv.f1, .string sv.f2]), Reg.k 48 (.bool true), Reg.k 49 (.bool true), Reg.k 50 (.bool true), Reg.k 51 (.pointer (some ⟨g8, 0, none⟩)), Reg.k 52 (.slice none 0 0), Reg.k 53 (.int .i64 0), Reg.k 54 (.bool true), Reg.k 55 (.bool true), Reg.k 56 (.bool true), Reg.k 57 (.bool true), Reg.k 58 (.bool true), Reg.k 2 (.bool true)] [] 107 rfl (by kernel_rfl) (by kernel_rfl) ?s9 ?_
  case s9 =>
   intro iq oq pq hiq hoq hpq ρ ev W S hE hO ec ef hB hft hΦ
   have e3 : ev (.tmp 3) = .bool true := hO 3 rfl
   have e6 : ev (.tmp 6) = .pointer (some ⟨g6, 0, none⟩) := hO 6 rfl
   have e7 : ev (.tmp 7) = .pointer (some ⟨g7, 0, none⟩) := hO 7 rfl
   have e8 : ev (.tmp 8) = .pointer (some ⟨g8, 0, none⟩) := hO 8 rfl
   have mg8_1 := pw_cell_below hB (HX.out.cell 0 1 rfl rfl : _ = some (.int .i64 160 : Value))
   have mg7_0 := pw_cell_below hB (HX.out.cell 1 0 rfl rfl : _ = some (.int .i64 v.f0 : Value))
   have mg7_1 := pw_cell_below hB (HX.out.cell 1 1 rfl rfl : _ = some (.int .i64 v.f1 : Value))
   have mg7_2 := pw_cell_below hB (HX.out.cell 1 2 rfl rfl : _ = some (.string v.f2 : Value))
   have mg6_0 := pw_cell_below hB (HX.out.cell 2 0 rfl rfl : _ = some (.int .i64 sv.f0 : Value))
   have mg6_1 := pw_cell_below hB (HX.out.cell 2 1 rfl rfl : _ = some (.int .i64 sv.f1 : Value))
   have mg6_2 := pw_cell_below hB (HX.out.cell 2 2 rfl rfl : _ = some (.string sv.f2 : Value))
   have mg8_0 := pw_cell_below hB (HX.out.cell 0 0 rfl rfl : _ = some (.slice none 0 0 : Value))
   simp only [Reg.SV, val_md, val_got, val_vl] at hE
   obtain ⟨e42, e43, e44, e45, e46, e47, e48, e49, e50, e51, e52, e53, e54, e55, e56, e57, e58, e2, _⟩ := hE
   rcases Reg.lt18 hiq with rfl | rfl | rfl | rfl | rfl | rfl | rfl | rfl | rfl | rfl | rfl | rfl | rfl | rfl | rfl | rfl | rfl | rfl
   all_goals (cases hoq; cases hpq)
   all_goals (first | exact Reg.D.mv hB | skip)
   all_goals (refine Reg.D.cv hB ?_; go_simp; try (first | done | rfl | (exact neV_no HNE.out.1) | (exact neV_yes HNE.out.1) | (obtain ⟨h0, h1, h2⟩ := neV_yes HNE.out.1; rw [if_pos h0, if_pos h1, if_pos h2]) | (exact HNE.out.2.1) | (exact HNE.out.2.2.1) | (exact HNE.out.2.2.2) | (rw [HNE.out.2.1]; rfl) | (simp only [HNE.out.2.1]; rfl) | (simp only [HNE.out.2.2.2]; rfl)))
  intro ρ W9 S hB hft hap hΦ
  simp only [Reg.SV, val_md, val_got, val_vl, Reg.SF, Nat.reduceAdd]
  have HX := Aside0.mk (HX.out.call hB)
  replace RA := Aside0.mk (Kd.R_below RA.out hB)
  replace RX := Aside0.mk (Kd.R_below RX.out hB)
  replace RL := Aside0.mk (Kd.R_below RL.out hB)
  clear hΦ hft hap 
  go_wp2_with fail
  go_ret
  exact ⟨rfl, HX.out.below⟩
 | some lp =>
  have hf2 := putsV_fit hfit hRp
  have hr2 := puts_rng l0 3 x l lp v hrl hrv hRp
  obtain ⟨hsv2, hhas⟩ := puts_shows (k := 2) hRp
  rw [show (2 : Nat) + 1 = 3 from rfl] at hsv2 hhas
  rw [hsv, hT] at hhas
  have hsh2 := show_ok hf2 3 x hx
  have hpa2 := puts_all l0 (by omega) 3 x hx lp v hf2
  rw [puts_again (k := 2) hsv2] at hpa2
  have HH : Aside0 (eqV v sv = false → ∀ w', Calls Tryz.prog 25 #[.agg #[.int .i64 T.f0, .int .i64 T.f1, .bool T.f2], .agg #[.int .i64 v.f0, .int .i64 v.f1, .string v.f2]] w' fun e w'' => e = .returned (.bool true) ∧ Below w'.heap.size w' w'') := ⟨fun h w' => by
   obtain ⟨h1, h2⟩ := has_ty hrv (hhas (by rw [eqV_sym]; exact h))
   exact Has_true h2 h1 w'⟩
  obtain ⟨ks, hks⟩ := same_selfP lp (by have := fit_len hf2; omega)
  have HCx := Aside0.mk (And.intro hat (And.intro hr2 (And.intro hf2 (And.intro hpa2 (And.intro hsv2 hsh2)))))
  obtain ⟨cq, hcq⟩ : ∃ b, eqV v sv = b := ⟨_, rfl⟩
  rw [hcq] at HH
  have HCQ := Aside0.mk hcq
  clear hat hx hll hfit hrl hT hsv hz6 hRp hv100 hrv hf2 hr2 hsv2 hhas hsh2 hpa2 hcq
  go_upto_region 7 with (fail)
  try simp only [Reg.SF]
  refine Reg.det [Reg.k 30 (.pointer (some ⟨g4, 0, none⟩)), Reg.k 31 (.slice AA l0.length cA), Reg.k 32 (.pointer (some ⟨g4, 1, none⟩)), Reg.k 33 (.agg #[.int .i64 x.f0, .int .i64 x.f1, .int .i64 x.f2, .string x.f3, .slice AX x.f4.length cX]), Reg.k 34 (.pointer (some ⟨g4, 6, none⟩)), Reg.k 35 (.slice AL l.length cL), Reg.k 36 (.agg #[.int .i64 v.f0, .int .i64 v.f1, .string v.f2]), Reg.k 37 (.agg #[.slice AL l.length cL, .int .i64 v.f0, .int .i64 v.f1, .string v.f2]), (some 38, gotDv 38 AL cL l lp), (some 8, Reg.Dv.box 8 36 (fun _ => #[.slice none 0 0, .int .i64 0]) [] true), (none, Reg.Dv.box 8 36 (fun l => (l.headD undef).cells) [38] false)] [(9, 10)] 107 rfl (by kernel_rfl) (by kernel_rfl) ?s10 ?_
  case s10 =>
   intro iq oq pq hiq hoq hpq ρ ev W S hE hO ec ef hB hft hΦ
   have e4 : ev (.tmp 4) = .pointer (some ⟨g4, 0, none⟩) := hO 4 rfl
   have e7 : ev (.tmp 7) = .pointer (some ⟨g7, 0, none⟩) := hO 7 rfl
   have mg4_0 := pw_cell_below hB (HX.out.cell 3 0 rfl rfl : _ = some (.slice AA l0.length cA : Value))
   have mg4_1 := pw_cell_below hB (HX.out.cell 3 1 rfl rfl : _ = some (.int .i64 x.f0 : Value))
   have mg4_2 := pw_cell_below hB (HX.out.cell 3 2 rfl rfl : _ = some (.int .i64 x.f1 : Value))
   have mg4_3 := pw_cell_below hB (HX.out.cell 3 3 rfl rfl : _ = some (.int .i64 x.f2 : Value))
   have mg4_4 := pw_cell_below hB (HX.out.cell 3 4 rfl rfl : _ = some (.string x.f3 : Value))
   have mg4_5 := pw_cell_below hB (HX.out.cell 3 5 rfl rfl : _ = some (.slice AX x.f4.length cX : Value))
   have mg4_6 := pw_cell_below hB (HX.out.cell 3 6 rfl rfl : _ = some (.slice AL l.length cL : Value))
   have mg7_0 := pw_cell_below hB (HX.out.cell 0 0 rfl rfl : _ = some (.int .i64 v.f0 : Value))
   have mg7_1 := pw_cell_below hB (HX.out.cell 0 1 rfl rfl : _ = some (.int .i64 v.f1 : Value))
   have mg7_2 := pw_cell_below hB (HX.out.cell 0 2 rfl rfl : _ = some (.string v.f2 : Value))
   simp only [Reg.SV, val_md, val_got, val_vl] at hE
   obtain ⟨e30, e31, e32, e33, e34, e35, e36, e37, e38, e8, _⟩ := hE
   rcases Reg.lt11 hiq with rfl | rfl | rfl | rfl | rfl | rfl | rfl | rfl | rfl | rfl | rfl
   all_goals (cases hoq; cases hpq)
   rotate_left 10
   ·obtain ⟨A38, c38, h38, _⟩ := hΦ 8 _ rfl rfl rfl
    replace h38 : ρ 38 = .agg #[.slice A38 lp.length c38, .int .i64 0] := h38
    exact Reg.DStep.fill (us := [38]) (cs := fun l => (l.headD undef).cells) 9 (by decide) 36 (.tmp 8) (.tmp 38) rfl (by first | exact .inl rfl | exact .inr ⟨_, _, _, rfl, rfl, (by assumption)⟩) hB e8 (by rw [e38]; show ρ 38 = .agg (Value.cells (ρ 38)); rw [h38]; rfl) (hΦ 9 _ rfl rfl rfl) (by show _ = some (Value.cells (ρ 38)).size; rw [h38]; exact info36s) (by show _ = (Value.cells (ρ 38)).size; rw [h38]; rfl) (by show ((Value.cells (ρ 38)).toList.all _) = true; rw [h38]; rfl)
   rotate_right 10
   rotate_left 9
   ·refine Reg.D.box hB ?_
    go_simp
    try rfl
   rotate_right 9
   rotate_left 8
   ·refine Reg.D.call (g := 11) (args := #[.slice AA l0.length cA, .agg #[.int .i64 x.f0, .int .i64 x.f1, .int .i64 x.f2, .string x.f3, .slice AX x.f4.length cX], .agg #[.slice AL l.length cL, .int .i64 v.f0, .int .i64 v.f1, .string v.f2]]) (by go_simp; try rfl) ?_
    exact got_step hB (HP.out W hB)
   rotate_right 8
   all_goals (refine Reg.D.cv hB ?_; go_simp; try (first | done | rfl | (simp; done) | (intro h; omega)))
  intro ρ W7 S hB hft hap hΦ
  simp only [Reg.SV, val_md, val_got, val_vl, Reg.SF, Nat.reduceAdd]
  obtain ⟨A38, c38, e38, q38⟩ := hΦ 8 _ rfl rfl
  replace e38 : ρ 38 = .agg #[.slice A38 lp.length c38, .int .i64 0] := e38
  have hr38 : Row2 AL cL l W7 w.heap.size A38 c38 lp := q38.imp id (fun h => Kd.R_mono (Kd.R_lower h HX.out.below.size) (fun _ _ => trivial))
  obtain ⟨g8, e8, s8, hg8, _, b8⟩ := hΦ 10 _ rfl rfl
  replace e8 : ρ 8 = .pointer (some ⟨g8, 0, none⟩) := e8
  replace b8 : W7.heap[g8]? = some (.cells (Value.cells (ρ 38)) 36 (0, 0)) := b8
  rw [e38] at b8
  try simp only [e38, e8]
  replace b8 : W7.heap[g8]? = some (.cells #[.slice A38 lp.length c38, .int .i64 0] 36 (0, 0)) := b8
  have HX := Aside0.mk (HX.out.join (Bxs.one hB hg8 b8))
  replace RA := Aside0.mk (Kd.R_below RA.out hB)
  replace RX := Aside0.mk (Kd.R_below RX.out hB)
  replace RL := Aside0.mk (Kd.R_below RL.out hB)
  clear hΦ hft hap 
  have HR38 := Aside0.mk (hr38)
  clear hr38
  go_upto_region 8 with (fail)
  try simp only [Reg.SF]
  refine Reg.det [Reg.k 39 (.pointer (some ⟨g8, 1, none⟩)), Reg.k 40 (.int .i64 0), Reg.k 41 (.bool false)] [] 107 rfl (by kernel_rfl) (by kernel_rfl) ?s11 ?_
  case s11 =>
   intro iq oq pq hiq hoq hpq ρ ev W S hE hO ec ef hB hft hΦ
   have e8 : ev (.tmp 8) = .pointer (some ⟨g8, 0, none⟩) := hO 8 rfl
   have mg8_1 := pw_cell_below hB (HX.out.cell 0 1 rfl rfl : _ = some (.int .i64 0 : Value))
   simp only [Reg.SV, val_md, val_got, val_vl] at hE
   obtain ⟨e39, e40, e41, _⟩ := hE
   rcases Reg.lt3 hiq with rfl | rfl | rfl
   all_goals (cases hoq; cases hpq)
   all_goals (refine Reg.D.cv hB ?_; go_simp; try (first | done | rfl | (simp; done) | (intro h; omega)))
  intro ρ W8 S hB hft hap hΦ
  simp only [Reg.SV, val_md, val_got, val_vl, Reg.SF, Nat.reduceAdd]
  have HX := Aside0.mk (HX.out.call hB)
  replace RA := Aside0.mk (Kd.R_below RA.out hB)
  replace RX := Aside0.mk (Kd.R_below RX.out hB)
  replace RL := Aside0.mk (Kd.R_below RL.out hB)
  replace HR38 := Aside0.mk (Row2.below HR38.out hB)
  clear hΦ hft hap 
  have hC2 := HR38.out.has (Kd.R_reads' RL.out).2.1 (Kd.R_reads' RL.out).2.2
  go_upto_region 10 with (fail)
  go_cut [75] (fun v75 wd => v75 = .bool false ∧ Aside0 (Bxs w wd [(g8, 36, #[.slice A38 lp.length c38, .int .i64 0]), (g7, 39, #[.int .i64 v.f0, .int .i64 v.f1, .string v.f2]), (g6, 39, #[.int .i64 sv.f0, .int .i64 sv.f1, .string sv.f2]), (g5, 49, #[.int .i64 T.f0, .int .i64 T.f1, .bool T.f2]), (g4, 32, #[.slice AA l0.length cA, .int .i64 x.f0, .int .i64 x.f1, .int .i64 x.f2, .string x.f3, .slice AX x.f4.length cX, .slice AL l.length cL]), (g1, 24, #[.slice B1 l1.length d1, .slice B2 l2.length d2, .slice B3 l3.length d3, .slice B4 l4.length d4])]) ∧ Aside0 (Below W8.heap.size W8 wd))
  case first =>
   have HB8 := Aside0.mk (Below.refl W8.heap.size W8)
   cases cq with
   | true =>
    have hn2 := neV HCQ.out
    have HNE := Aside0.mk (And.intro HCQ.out hn2)
    clear hn2
    go_upto_region 10 with (fail)
    try simp only [Reg.SF]
    refine Reg.det [Reg.k 59 (.pointer (some ⟨g4, 0, none⟩)), Reg.k 60 (.slice AA l0.length cA), Reg.k 61 (.pointer (some ⟨g8, 0, none⟩)), Reg.k 62 (.slice A38 lp.length c38), Reg.k 63 (.bool true), Reg.k 64 (.bool false), Reg.k 65 (.bool false), Reg.k 66 (.agg #[.int .i64 v.f0, .int .i64 v.f1, .string v.f2]), Reg.k 67 (.agg #[.int .i64 sv.f0, .int .i64 sv.f1, .string sv.f2]), Reg.k 68 (.bool false), Reg.k 69 (.bool false), Reg.u 70, Reg.u 71, Reg.u 72, Reg.u 73, Reg.k 74 (.bool false), Reg.k 75 (.bool false)] [] 107 rfl (by kernel_rfl) (by kernel_rfl) ?s12 ?_
    case s12 =>
     intro iq oq pq hiq hoq hpq ρ ev W S hE hO ec ef hB hft hΦ
     have e4 : ev (.tmp 4) = .pointer (some ⟨g4, 0, none⟩) := hO 4 rfl
     have e5 : ev (.tmp 5) = .pointer (some ⟨g5, 0, none⟩) := hO 5 rfl
     have e6 : ev (.tmp 6) = .pointer (some ⟨g6, 0, none⟩) := hO 6 rfl
     have e7 : ev (.tmp 7) = .pointer (some ⟨g7, 0, none⟩) := hO 7 rfl
     have e8 : ev (.tmp 8) = .pointer (some ⟨g8, 0, none⟩) := hO 8 rfl
     have mg4_0 := pw_cell_below hB (HX.out.cell 4 0 rfl rfl : _ = some (.slice AA l0.length cA : Value))
     have mg8_0 := pw_cell_below hB (HX.out.cell 0 0 rfl rfl : _ = some (.slice A38 lp.length c38 : Value))
     have mg7_0 := pw_cell_below hB (HX.out.cell 1 0 rfl rfl : _ = some (.int .i64 v.f0 : Value))
     have mg7_1 := pw_cell_below hB (HX.out.cell 1 1 rfl rfl : _ = some (.int .i64 v.f1 : Value))
     have mg7_2 := pw_cell_below hB (HX.out.cell 1 2 rfl rfl : _ = some (.string v.f2 : Value))
     have mg6_0 := pw_cell_below hB (HX.out.cell 2 0 rfl rfl : _ = some (.int .i64 sv.f0 : Value))
     have mg6_1 := pw_cell_below hB (HX.out.cell 2 1 rfl rfl : _ = some (.int .i64 sv.f1 : Value))
     have mg6_2 := pw_cell_below hB (HX.out.cell 2 2 rfl rfl : _ = some (.string sv.f2 : Value))
     simp only [Reg.SV, val_md, val_got, val_vl] at hE
     obtain ⟨e59, e60, e61, e62, e63, e64, e65, e66, e67, e68, e69, e70, e71, e72, e73, e74, e75, _⟩ := hE
     rcases Reg.lt17 hiq with rfl | rfl | rfl | rfl | rfl | rfl | rfl | rfl | rfl | rfl | rfl | rfl | rfl | rfl | rfl | rfl | rfl
     all_goals (cases hoq; cases hpq)
     rotate_left 4
     ·refine Reg.D.cc (g := 23) (args := #[.slice AA l0.length cA, .slice A38 lp.length c38]) hB (by go_simp; try rfl) ?_
      exact FitR_calls HCx.out.1 HCx.out.2.1 HCx.out.2.2.1 AA A38 cA c38 W (Kd.C_below (Kd.R_reads' RA.out).2.2 hB) (Kd.C_below hC2.2 hB)
     rotate_right 4
     all_goals (first | exact Reg.D.sk hB | skip)
     all_goals (first | exact Reg.D.mv hB | skip)
     all_goals (refine Reg.D.cv hB ?_; go_simp; try (first | done | rfl | (exact neV_no HNE.out.1) | (exact neV_yes HNE.out.1) | (obtain ⟨h0, h1, h2⟩ := neV_yes HNE.out.1; rw [if_pos h0, if_pos h1, if_pos h2]) | (exact HNE.out.2.1) | (exact HNE.out.2.2.1) | (exact HNE.out.2.2.2) | (rw [HNE.out.2.1]; rfl) | (simp only [HNE.out.2.1]; rfl) | (simp only [HNE.out.2.2.2]; rfl)))
    intro ρ W10 S hB hft hap hΦ
    simp only [Reg.SV, val_md, val_got, val_vl, Reg.SF, Nat.reduceAdd]
    have HX := Aside0.mk (HX.out.call hB)
    replace HB8 := Aside0.mk (below_step HB8.out hB)
    clear hΦ hft hap 
    go_wp2_with fail
    go_meet
    case rel => exact ⟨rfl, HX, HB8⟩
   | false =>
    have hn2 := neV HCQ.out
    have HNE := Aside0.mk (And.intro HCQ.out hn2)
    clear hn2
    go_upto_region 10 with (fail)
    try simp only [Reg.SF]
    refine Reg.det [Reg.k 59 (.pointer (some ⟨g4, 0, none⟩)), Reg.k 60 (.slice AA l0.length cA), Reg.k 61 (.pointer (some ⟨g8, 0, none⟩)), Reg.k 62 (.slice A38 lp.length c38), Reg.k 63 (.bool true), Reg.k 64 (.bool false), Reg.k 65 (.bool false), Reg.k 66 (.agg #[.int .i64 v.f0, .int .i64 v.f1, .string v.f2]), Reg.k 67 (.agg #[.int .i64 sv.f0, .int .i64 sv.f1, .string sv.f2]), Reg.k 68 (.bool true), Reg.k 69 (.bool true), Reg.k 70 (.agg #[.int .i64 T.f0, .int .i64 T.f1, .bool T.f2]), Reg.k 71 (.agg #[.int .i64 v.f0, .int .i64 v.f1, .string v.f2]), Reg.k 72 (.bool true), Reg.k 73 (.bool false), Reg.k 74 (.bool false), Reg.k 75 (.bool false)] [] 107 rfl (by kernel_rfl) (by kernel_rfl) ?s13 ?_
    case s13 =>
     intro iq oq pq hiq hoq hpq ρ ev W S hE hO ec ef hB hft hΦ
     have e4 : ev (.tmp 4) = .pointer (some ⟨g4, 0, none⟩) := hO 4 rfl
     have e5 : ev (.tmp 5) = .pointer (some ⟨g5, 0, none⟩) := hO 5 rfl
     have e6 : ev (.tmp 6) = .pointer (some ⟨g6, 0, none⟩) := hO 6 rfl
     have e7 : ev (.tmp 7) = .pointer (some ⟨g7, 0, none⟩) := hO 7 rfl
     have e8 : ev (.tmp 8) = .pointer (some ⟨g8, 0, none⟩) := hO 8 rfl
     have mg4_0 := pw_cell_below hB (HX.out.cell 4 0 rfl rfl : _ = some (.slice AA l0.length cA : Value))
     have mg8_0 := pw_cell_below hB (HX.out.cell 0 0 rfl rfl : _ = some (.slice A38 lp.length c38 : Value))
     have mg7_0 := pw_cell_below hB (HX.out.cell 1 0 rfl rfl : _ = some (.int .i64 v.f0 : Value))
     have mg7_1 := pw_cell_below hB (HX.out.cell 1 1 rfl rfl : _ = some (.int .i64 v.f1 : Value))
     have mg7_2 := pw_cell_below hB (HX.out.cell 1 2 rfl rfl : _ = some (.string v.f2 : Value))
     have mg6_0 := pw_cell_below hB (HX.out.cell 2 0 rfl rfl : _ = some (.int .i64 sv.f0 : Value))
     have mg6_1 := pw_cell_below hB (HX.out.cell 2 1 rfl rfl : _ = some (.int .i64 sv.f1 : Value))
     have mg6_2 := pw_cell_below hB (HX.out.cell 2 2 rfl rfl : _ = some (.string sv.f2 : Value))
     have mg5_0 := pw_cell_below hB (HX.out.cell 3 0 rfl rfl : _ = some (.int .i64 T.f0 : Value))
     have mg5_1 := pw_cell_below hB (HX.out.cell 3 1 rfl rfl : _ = some (.int .i64 T.f1 : Value))
     have mg5_2 := pw_cell_below hB (HX.out.cell 3 2 rfl rfl : _ = some (.bool T.f2 : Value))
     simp only [Reg.SV, val_md, val_got, val_vl] at hE
     obtain ⟨e59, e60, e61, e62, e63, e64, e65, e66, e67, e68, e69, e70, e71, e72, e73, e74, e75, _⟩ := hE
     rcases Reg.lt17 hiq with rfl | rfl | rfl | rfl | rfl | rfl | rfl | rfl | rfl | rfl | rfl | rfl | rfl | rfl | rfl | rfl | rfl
     all_goals (cases hoq; cases hpq)
     rotate_left 13
     ·refine Reg.D.cc (g := 25) (args := #[.agg #[.int .i64 T.f0, .int .i64 T.f1, .bool T.f2], .agg #[.int .i64 v.f0, .int .i64 v.f1, .string v.f2]]) hB (by go_simp; try rfl) ?_
      exact HH.out rfl W
     rotate_right 13
     rotate_left 4
     ·refine Reg.D.cc (g := 23) (args := #[.slice AA l0.length cA, .slice A38 lp.length c38]) hB (by go_simp; try rfl) ?_
      exact FitR_calls HCx.out.1 HCx.out.2.1 HCx.out.2.2.1 AA A38 cA c38 W (Kd.C_below (Kd.R_reads' RA.out).2.2 hB) (Kd.C_below hC2.2 hB)
     rotate_right 4
     all_goals (first | exact Reg.D.mv hB | skip)
     all_goals (refine Reg.D.cv hB ?_; go_simp; try (first | done | rfl | (exact neV_no HNE.out.1) | (exact neV_yes HNE.out.1) | (obtain ⟨h0, h1, h2⟩ := neV_yes HNE.out.1; rw [if_pos h0, if_pos h1, if_pos h2]) | (exact HNE.out.2.1) | (exact HNE.out.2.2.1) | (exact HNE.out.2.2.2) | (rw [HNE.out.2.1]; rfl) | (simp only [HNE.out.2.1]; rfl) | (simp only [HNE.out.2.2.2]; rfl)))
    intro ρ W10 S hB hft hap hΦ
    simp only [Reg.SV, val_md, val_got, val_vl, Reg.SF, Nat.reduceAdd]
    have HX := Aside0.mk (HX.out.call hB)
    replace HB8 := Aside0.mk (below_step HB8.out hB)
    clear hΦ hft hap 
    go_wp2_with fail
    go_meet
    case rel => exact ⟨rfl, HX, HB8⟩
  clear HX 
  obtain ⟨hv75, HX, HB8⟩ := hcut
  generalize wc = W10c at *
  subst hv75
  have RA2 := Aside0.mk (Kd.R_below RA.out HB8.out)
  have RX2 := Aside0.mk (Kd.R_below RX.out HB8.out)
  have RL2 := Aside0.mk (Kd.R_below RL.out HB8.out)
  have HR2 := Aside0.mk (HR38.out.below HB8.out)
  clear RA RX RL HR38 HB8 hC2
  have RA := RA2
  have RX := RX2
  have RL := RL2
  have HR38 := HR2
  clear RA2 RX2 RL2 HR2
  have hC2 := HR38.out.has (Kd.R_reads' RL.out).2.1 (Kd.R_reads' RL.out).2.2
  go_upto_region 12 with (fail)
  try simp only [Reg.SF]
  refine Reg.det [Reg.k 76 (.pointer (some ⟨g4, 0, none⟩)), Reg.k 77 (.slice AA l0.length cA), Reg.k 78 (.pointer (some ⟨g4, 1, none⟩)), Reg.k 79 (.agg #[.int .i64 x.f0, .int .i64 x.f1, .int .i64 x.f2, .string x.f3, .slice AX x.f4.length cX]), Reg.k 80 (.pointer (some ⟨g8, 0, none⟩)), Reg.k 81 (.slice A38 lp.length c38), Reg.k 82 (.agg #[.int .i64 v.f0, .int .i64 v.f1, .string v.f2]), Reg.k 83 (.agg #[.slice A38 lp.length c38, .int .i64 v.f0, .int .i64 v.f1, .string v.f2]), (some 84, gotDv 84 A38 c38 lp lp), (some 9, Reg.Dv.box 9 36 (fun _ => #[.slice none 0 0, .int .i64 0]) [] true), (none, Reg.Dv.box 9 36 (fun l => (l.headD undef).cells) [84] false)] [(9, 10)] 107 rfl (by kernel_rfl) (by kernel_rfl) ?s14 ?_
  case s14 =>
   intro iq oq pq hiq hoq hpq ρ ev W S hE hO ec ef hB hft hΦ
   have e4 : ev (.tmp 4) = .pointer (some ⟨g4, 0, none⟩) := hO 4 rfl
   have e7 : ev (.tmp 7) = .pointer (some ⟨g7, 0, none⟩) := hO 7 rfl
   have e8 : ev (.tmp 8) = .pointer (some ⟨g8, 0, none⟩) := hO 8 rfl
   have mg4_0 := pw_cell_below hB (HX.out.cell 4 0 rfl rfl : _ = some (.slice AA l0.length cA : Value))
   have mg4_1 := pw_cell_below hB (HX.out.cell 4 1 rfl rfl : _ = some (.int .i64 x.f0 : Value))
   have mg4_2 := pw_cell_below hB (HX.out.cell 4 2 rfl rfl : _ = some (.int .i64 x.f1 : Value))
   have mg4_3 := pw_cell_below hB (HX.out.cell 4 3 rfl rfl : _ = some (.int .i64 x.f2 : Value))
   have mg4_4 := pw_cell_below hB (HX.out.cell 4 4 rfl rfl : _ = some (.string x.f3 : Value))
   have mg4_5 := pw_cell_below hB (HX.out.cell 4 5 rfl rfl : _ = some (.slice AX x.f4.length cX : Value))
   have mg8_0 := pw_cell_below hB (HX.out.cell 0 0 rfl rfl : _ = some (.slice A38 lp.length c38 : Value))
   have mg7_0 := pw_cell_below hB (HX.out.cell 1 0 rfl rfl : _ = some (.int .i64 v.f0 : Value))
   have mg7_1 := pw_cell_below hB (HX.out.cell 1 1 rfl rfl : _ = some (.int .i64 v.f1 : Value))
   have mg7_2 := pw_cell_below hB (HX.out.cell 1 2 rfl rfl : _ = some (.string v.f2 : Value))
   simp only [Reg.SV, val_md, val_got, val_vl] at hE
   obtain ⟨e76, e77, e78, e79, e80, e81, e82, e83, e84, e9, _⟩ := hE
   rcases Reg.lt11 hiq with rfl | rfl | rfl | rfl | rfl | rfl | rfl | rfl | rfl | rfl | rfl
   all_goals (cases hoq; cases hpq)
   rotate_left 10
   ·obtain ⟨A84, c84, h84, _⟩ := hΦ 8 _ rfl rfl rfl
    replace h84 : ρ 84 = .agg #[.slice A84 lp.length c84, .int .i64 0] := h84
    exact Reg.DStep.fill (us := [84]) (cs := fun l => (l.headD undef).cells) 9 (by decide) 36 (.tmp 9) (.tmp 84) rfl (by first | exact .inl rfl | exact .inr ⟨_, _, _, rfl, rfl, (by assumption)⟩) hB e9 (by rw [e84]; show ρ 84 = .agg (Value.cells (ρ 84)); rw [h84]; rfl) (hΦ 9 _ rfl rfl rfl) (by show _ = some (Value.cells (ρ 84)).size; rw [h84]; exact info36s) (by show _ = (Value.cells (ρ 84)).size; rw [h84]; rfl) (by show ((Value.cells (ρ 84)).toList.all _) = true; rw [h84]; rfl)
   rotate_right 10
   rotate_left 9
   ·refine Reg.D.box hB ?_
    go_simp
    try rfl
   rotate_right 9
   rotate_left 8
   ·refine Reg.D.call (g := 11) (args := #[.slice AA l0.length cA, .agg #[.int .i64 x.f0, .int .i64 x.f1, .int .i64 x.f2, .string x.f3, .slice AX x.f4.length cX], .agg #[.slice A38 lp.length c38, .int .i64 v.f0, .int .i64 v.f1, .string v.f2]]) (by go_simp; try rfl) ?_
    exact got_step hB (put_calls l0 lp x v _ HCx.out.2.2.2.1 AA cA A38 c38 AX cX W ((HG.out.below HX.out.below).below hB) (Kd.R_reads' RA.out).2.1 (Kd.C_below (Kd.R_reads' RA.out).2.2 hB) hC2.1 (Kd.C_below hC2.2 hB) (Kd.R_reads' RX.out).2.1 (Kd.C_below (Kd.R_reads' RX.out).2.2 hB))
   rotate_right 8
   all_goals (refine Reg.D.cv hB ?_; go_simp; try (first | done | rfl | (simp; done) | (intro h; omega)))
  intro ρ W12 S hB hft hap hΦ
  simp only [Reg.SV, val_md, val_got, val_vl, Reg.SF, Nat.reduceAdd]
  obtain ⟨A84, c84, e84, q84⟩ := hΦ 8 _ rfl rfl
  replace e84 : ρ 84 = .agg #[.slice A84 lp.length c84, .int .i64 0] := e84
  have hr84 : Row2 A38 c38 lp W12 w.heap.size A84 c84 lp := q84.imp id (fun h => Kd.R_mono (Kd.R_lower h HX.out.below.size) (fun _ _ => trivial))
  obtain ⟨g9, e9, s9, hg9, _, b9⟩ := hΦ 10 _ rfl rfl
  replace e9 : ρ 9 = .pointer (some ⟨g9, 0, none⟩) := e9
  replace b9 : W12.heap[g9]? = some (.cells (Value.cells (ρ 84)) 36 (0, 0)) := b9
  rw [e84] at b9
  try simp only [e84, e9]
  replace b9 : W12.heap[g9]? = some (.cells #[.slice A84 lp.length c84, .int .i64 0] 36 (0, 0)) := b9
  have HX := Aside0.mk (HX.out.join (Bxs.one hB hg9 b9))
  replace RA := Aside0.mk (Kd.R_below RA.out hB)
  replace RX := Aside0.mk (Kd.R_below RX.out hB)
  replace RL := Aside0.mk (Kd.R_below RL.out hB)
  replace HR38 := Aside0.mk (Row2.below HR38.out hB)
  clear hΦ hft hap 
  have HR84 := Aside0.mk (hr84)
  clear hr84 hC2
  have hC2 := HR38.out.has (Kd.R_reads' RL.out).2.1 (Kd.R_reads' RL.out).2.2
  have hC4 := HR84.out.has hC2.1 hC2.2
  have HS2 : Aside0 (∀ w', Below W12.heap.size W12 w' → Calls Tryz.prog 12 #[.agg #[.int .i64 x.f0, .int .i64 x.f1, .int .i64 x.f2, .string x.f3, .slice AX x.f4.length cX], .slice A38 lp.length c38] w' fun e w'' => e = .returned (.agg #[.int .i64 v.f0, .int .i64 v.f1, .string v.f2]) ∧ Below w'.heap.size w' w'') := ⟨fun w' hb => by
   have h := shows_all none 0 0 lp 3 x HCx.out.2.2.2.2.2.1
   rw [HCx.out.2.2.2.2.1] at h
   exact Show_calls lp x v A38 c38 AX cX w' ((HG.out.below HX.out.below).below hb) (Kd.C_below hC2.2 hb) (Kd.R_reads' RX.out).2.1 (Kd.C_below (Kd.R_reads' RX.out).2.2 hb) h⟩
  go_upto_region 13 with (fail)
  try simp only [Reg.SF]
  refine Reg.det [Reg.k 85 (.pointer (some ⟨g4, 1, none⟩)), Reg.k 86 (.agg #[.int .i64 x.f0, .int .i64 x.f1, .int .i64 x.f2, .string x.f3, .slice AX x.f4.length cX]), Reg.k 87 (.pointer (some ⟨g8, 0, none⟩)), Reg.k 88 (.slice A38 lp.length c38), Reg.k 89 (.agg #[.int .i64 v.f0, .int .i64 v.f1, .string v.f2]), Reg.k 90 (.agg #[.int .i64 v.f0, .int .i64 v.f1, .string v.f2]), Reg.k 91 (.bool true), Reg.k 92 (.bool true), Reg.k 93 (.pointer (some ⟨g9, 1, none⟩)), Reg.k 94 (.int .i64 0), Reg.k 95 (.bool true), Reg.k 96 (.bool true), Reg.k 97 (.bool true), Reg.k 98 (.pointer (some ⟨g9, 0, none⟩)), Reg.k 99 (.slice A84 lp.length c84), Reg.k 100 (.pointer (some ⟨g8, 0, none⟩)), Reg.k 101 (.slice A38 lp.length c38), Reg.k 102 (.bool true), Reg.k 103 (.bool true), Reg.k 104 (.bool true), Reg.k 105 (.bool true), Reg.k 106 (.bool true), Reg.k 2 (.bool true)] [] 107 rfl (by kernel_rfl) (by kernel_rfl) ?s15 ?_
  case s15 =>
   intro iq oq pq hiq hoq hpq ρ ev W S hE hO ec ef hB hft hΦ
   have e3 : ev (.tmp 3) = .bool true := hO 3 rfl
   have e4 : ev (.tmp 4) = .pointer (some ⟨g4, 0, none⟩) := hO 4 rfl
   have e7 : ev (.tmp 7) = .pointer (some ⟨g7, 0, none⟩) := hO 7 rfl
   have e8 : ev (.tmp 8) = .pointer (some ⟨g8, 0, none⟩) := hO 8 rfl
   have e9 : ev (.tmp 9) = .pointer (some ⟨g9, 0, none⟩) := hO 9 rfl
   have mg4_1 := pw_cell_below hB (HX.out.cell 5 1 rfl rfl : _ = some (.int .i64 x.f0 : Value))
   have mg4_2 := pw_cell_below hB (HX.out.cell 5 2 rfl rfl : _ = some (.int .i64 x.f1 : Value))
   have mg4_3 := pw_cell_below hB (HX.out.cell 5 3 rfl rfl : _ = some (.int .i64 x.f2 : Value))
   have mg4_4 := pw_cell_below hB (HX.out.cell 5 4 rfl rfl : _ = some (.string x.f3 : Value))
   have mg4_5 := pw_cell_below hB (HX.out.cell 5 5 rfl rfl : _ = some (.slice AX x.f4.length cX : Value))
   have mg8_0 := pw_cell_below hB (HX.out.cell 1 0 rfl rfl : _ = some (.slice A38 lp.length c38 : Value))
   have mg7_0 := pw_cell_below hB (HX.out.cell 2 0 rfl rfl : _ = some (.int .i64 v.f0 : Value))
   have mg7_1 := pw_cell_below hB (HX.out.cell 2 1 rfl rfl : _ = some (.int .i64 v.f1 : Value))
   have mg7_2 := pw_cell_below hB (HX.out.cell 2 2 rfl rfl : _ = some (.string v.f2 : Value))
   have mg9_1 := pw_cell_below hB (HX.out.cell 0 1 rfl rfl : _ = some (.int .i64 0 : Value))
   have mg9_0 := pw_cell_below hB (HX.out.cell 0 0 rfl rfl : _ = some (.slice A84 lp.length c84 : Value))
   simp only [Reg.SV, val_md, val_got, val_vl] at hE
   obtain ⟨e85, e86, e87, e88, e89, e90, e91, e92, e93, e94, e95, e96, e97, e98, e99, e100, e101, e102, e103, e104, e105, e106, e2, _⟩ := hE
   rcases Reg.lt23 hiq with rfl | rfl | rfl | rfl | rfl | rfl | rfl | rfl | rfl | rfl | rfl | rfl | rfl | rfl | rfl | rfl | rfl | rfl | rfl | rfl | rfl | rfl | rfl
   all_goals (cases hoq; cases hpq)
   rotate_left 17
   ·refine Reg.D.cc (g := 13) (args := #[.slice A84 lp.length c84, .slice A38 lp.length c38]) hB (by go_simp; try rfl) ?_
    exact (chapmanref16_Same.calls ks A84 c84 lp A38 c38 lp true W (Kd.C_below hC4.2 hB) hC4.1 (Kd.C_below hC2.2 hB) hC2.1 hks).mono (fun e w' h => ⟨h.1, below_drawn h.2⟩)
   rotate_right 17
   rotate_left 4
   ·refine Reg.D.cc (g := 12) (args := #[.agg #[.int .i64 x.f0, .int .i64 x.f1, .int .i64 x.f2, .string x.f3, .slice AX x.f4.length cX], .slice A38 lp.length c38]) hB (by go_simp; try rfl) ?_
    exact HS2.out W hB
   rotate_right 4
   all_goals (first | exact Reg.D.mv hB | skip)
   all_goals (refine Reg.D.cv hB ?_; go_simp; try (first | done | rfl | (simp; done) | (intro h; omega)))
  intro ρ W13 S hB hft hap hΦ
  simp only [Reg.SV, val_md, val_got, val_vl, Reg.SF, Nat.reduceAdd]
  have HX := Aside0.mk (HX.out.call hB)
  replace RA := Aside0.mk (Kd.R_below RA.out hB)
  replace RX := Aside0.mk (Kd.R_below RX.out hB)
  replace RL := Aside0.mk (Kd.R_below RL.out hB)
  replace HR38 := Aside0.mk (Row2.below HR38.out hB)
  replace HR84 := Aside0.mk (Row2.below HR84.out hB)
  clear hΦ hft hap 
  go_wp2_with fail
  go_ret
  exact ⟨rfl, HX.out.below⟩
def U8Row (w : World) (A : Option Addr) (len cap : Nat) (zs : List Int) : Prop := (A = none ∧ len = 0 ∧ cap = 0 ∧ zs = []) ∨ ∃ x, A = some x ∧ len ≤ cap ∧ cap ≤ maxLen ∧ zs.length = cap ∧ (∀ i, i < zs.length → w.cell? (x.add i) = some (.int .u8 (zs.getD i 0))) ∧ ∀ n ∈ zs, (Lit.int .u8 n).wf = true
theorem u8_in {l : List Int} (h : ∀ x ∈ l, (Lit.int .u8 x).wf = true) (x : Int) (hx : x ∈ l) : 0 ≤ x ∧ x ≤ 255 := by simpa [Lit.wf, IntKind.min, IntKind.max, IntKind.signed, IntKind.bits] using h x hx
theorem putget_law2 (A1 : Option Addr) (n1 c1 : Nat) (z1 : List Int) (A2 : Option Addr) (n2 c2 : Nat) (z2 : List Int) (A3 : Option Addr) (n3 c3 : Nat) (z3 : List Int) (A4 : Option Addr) (n4 c4 : Nat) (z4 : List Int) (w : World) (hgl : Gl w) (h1 : U8Row w A1 n1 c1 z1) (h2 : U8Row w A2 n2 c2 z2) (h3 : U8Row w A3 n3 c3 z3) (h4 : U8Row w A4 n4 c4 z4) :
  Calls Tryz.prog 6 #[.agg #[.slice A1 n1 c1, .slice A2 n2 c2, .slice A3 n3 c3, .slice A4 n4 c4]] w fun e w' => e = .returned (.bool true) ∧ Below w.heap.size w w' := by
 obtain ⟨l1, rfl, hr1, hm1, hw1, hc1⟩ := ReadsInt.ofRowC h1
 obtain ⟨l2, rfl, hr2, hm2, hw2, hc2⟩ := ReadsInt.ofRowC h2
 obtain ⟨l3, rfl, hr3, hm3, hw3, hc3⟩ := ReadsInt.ofRowC h3
 obtain ⟨l4, rfl, hr4, hm4, hw4, hc4⟩ := ReadsInt.ofRowC h4
 exact putget_law A1 A2 A3 A4 c1 c2 c3 c4 l1 l2 l3 l4 w hgl (u8_in hw1) (u8_in hw2) (u8_in hw3) (u8_in hw4) hc1 hc2 hc3 hc4 (Kd.C_of_reads (d := (0 : Int)) (h1 := fun _ => rfl) hr1) (Kd.C_of_reads (d := (0 : Int)) (h1 := fun _ => rfl) hr2) (Kd.C_of_reads (d := (0 : Int)) (h1 := fun _ => rfl) hr3) (Kd.C_of_reads (d := (0 : Int)) (h1 := fun _ => rfl) hr4)
end
end Go.Proofs.YtmebkjdknhknbaaGreatDoor.H
