/- Texts of this claim, bound together: what the functions that it reaches compute, with the contracts of their calls (HFrm). -/
import Derived.Test.YtmebkjdknhknbaaGreatDoorJ6
set_option linter.unusedVariables false
set_option linter.unusedSimpArgs false
set_option linter.unusedSectionVars false
set_option maxHeartbeats 16000000
set_option maxRecDepth 100000
open Go.Proofs.YtmebkjdknhknbaaGreatDoorW.PrintWords Go.Proofs.YtmebkjdknhknbaaGreatDoorW.PrintLast Go.Proofs.YtmebkjdknhknbaaGreatDoorW.PrintMore
namespace Go.Proofs.YtmebkjdknhknbaaGreatDoor.H
section
open Go.RowKit YtmebkjdknhknbaaGreatDoor.G
theorem _root_.Go.Proofs.YtmebkjdknhknbaaGreatDoor.Reg.lt43 {i : Nat} (h : i < 43) : i = 0 ∨ i = 1 ∨ i = 2 ∨ i = 3 ∨ i = 4 ∨ i = 5 ∨ i = 6 ∨ i = 7 ∨ i = 8 ∨ i = 9 ∨ i = 10 ∨ i = 11 ∨ i = 12 ∨ i = 13 ∨ i = 14 ∨ i = 15 ∨ i = 16 ∨ i = 17 ∨ i = 18 ∨ i = 19 ∨ i = 20 ∨ i = 21 ∨ i = 22 ∨ i = 23 ∨ i = 24 ∨ i = 25 ∨ i = 26 ∨ i = 27 ∨ i = 28 ∨ i = 29 ∨ i = 30 ∨ i = 31 ∨ i = 32 ∨ i = 33 ∨ i = 34 ∨ i = 35 ∨ i = 36 ∨ i = 37 ∨ i = 38 ∨ i = 39 ∨ i = 40 ∨ i = 41 ∨ i = 42 := by omega
theorem in_from (L : List Int) (hz : L.length ≤ 1000) (a : Int) : ∀ (m i k : Nat), i + m = L.length → m < k → chapmanref16_In.l0 k L a (i : Int) = some (decide (a ∈ L.drop i)) := by
 intro m
 induction m with
 | zero =>
  intro i k hi hk
  obtain ⟨k, rfl⟩ : ∃ j, k = j + 1 := ⟨k - 1, by omega⟩
  rw [chapmanref16_In.l0, if_neg (by omega), List.drop_of_length_le (by omega)]; simp
 | succ m ih =>
  intro i k hi hk
  obtain ⟨k, rfl⟩ : ∃ j, k = j + 1 := ⟨k - 1, by omega⟩
  have hw : wrap64 ((i : Int) + 1) = ((i + 1 : Nat) : Int) := by unfold wrap64; omega
  have hr : rd L (i : Int) = L[i]'(by omega) := by unfold rd; rw [Int.toNat_natCast, List.getD_eq_getElem?_getD, List.getElem?_eq_getElem (by omega)]; rfl
  rw [chapmanref16_In.l0, if_pos (by omega), if_pos (by omega), hw, ih (i + 1) k (by omega) (by omega), hr, List.drop_eq_getElem_cons (by omega : i < L.length)]
  by_cases h : L[i]'(by omega) = a
  ·rw [if_pos h]; simp [h]
  ·rw [if_neg h]; exact congrArg some (decide_eq_decide.2 ⟨fun hh => List.mem_cons.2 (.inr hh), fun hh => (List.mem_cons.1 hh).resolve_left (Ne.symm h)⟩)
theorem in_val (L : List Int) (hz : L.length ≤ 1000) (a : Int) : ∃ k, chapmanref16_In.f k L a = some (decide (a ∈ L)) :=
 ⟨L.length + 1, by have := in_from L hz a L.length 0 (L.length + 1) (by omega) (by omega); rwa [List.drop_zero] at this⟩
def tookP (l lo : List S39) (L : List Int) (n i : Nat) (lo2 : List S39) : Prop := lo2.length = n ∧ (∀ j : Nat, j < i → (j : Int) ∈ L → yP lo2 (j : Int) = yP l (j : Int)) ∧ ∀ j : Nat, ¬ (j < i ∧ (j : Int) ∈ L) → yP lo2 (j : Int) = yP lo (j : Int)
theorem take_in {l lo lo2 : List S39} {L : List Int} {n i : Nat} {u : S39} (h : tookP l lo L n i lo2) (hu : yP l (i : Int) = u) (hi : i < n) (hm : (i : Int) ∈ L) : tookP l lo L n (i + 1) (lo2.set i u) := by
 obtain ⟨h1, h2, h3⟩ := h
 refine ⟨by rw [List.length_set]; exact h1, fun j hj hjm => ?_, fun j hj => ?_⟩
 ·rw [rd_set _ _ _ _ (by omega)]
  split
  ·rename_i e; subst e; exact hu.symm
  ·exact h2 j (by omega) hjm
 ·rw [rd_set _ _ _ _ (by omega), if_neg (by rintro rfl; exact hj ⟨by omega, hm⟩)]
  exact h3 j fun hh => hj ⟨by omega, hh.2⟩
theorem take_out {l lo lo2 : List S39} {L : List Int} {n i : Nat} (h : tookP l lo L n i lo2) (hm : (i : Int) ∉ L) : tookP l lo L n (i + 1) lo2 := by
 obtain ⟨h1, h2, h3⟩ := h
 refine ⟨h1, fun j hj hjm => h2 j ?_ hjm, fun j hj => h3 j fun hh => hj ⟨by omega, hh.2⟩⟩
 by_cases e : j = i
 ·subst e; exact absurd hjm hm
 ·omega
theorem took_ok {l0 : List S57} {l lo lo2 : List S39} {L : List Int} {n : Nat} (hL : ∀ a, a ∈ L → 0 ≤ a ∧ a < l0.length) (h : tookP l lo L n n lo2) (hl : l.length = l0.length) (hlo : lo.length = l0.length) (h0 : l0.length = n) (hc : cellsOk l0 l) (hco : cellsOk l0 lo) : agr L l lo2 ∧ cellsOk l0 lo2 ∧ lo2.length = l0.length := by
 obtain ⟨h1, h2, h3⟩ := h
 refine ⟨fun a ha => ?_, fun j hj => ?_, by omega⟩
 ·obtain ⟨j, rfl⟩ := Int.eq_ofNat_of_zero_le (hL a ha).1
  exact (h2 j (by have := (hL _ ha).2; omega) ha).symm
 ·by_cases hm : (j : Int) ∈ L
  ·rw [h2 j (by omega) hm]; exact hc j (by omega)
  ·rw [h3 j fun hh => hm hh.2]; exact hco j (by omega)
theorem frame_law (B1 B2 B3 B4 : Option Addr) (d1 d2 d3 d4 : Nat) (l1 l2 l3 l4 : List Int) (B5 : Option Addr) (d5 : Nat) (l5 : List Int) (w : World) (hgl : Gl w) (hb1 : ∀ x, x ∈ l1 → 0 ≤ x ∧ x ≤ 255) (hb2 : ∀ x, x ∈ l2 → 0 ≤ x ∧ x ≤ 255) (hb3 : ∀ x, x ∈ l3 → 0 ≤ x ∧ x ≤ 255) (hb4 : ∀ x, x ∈ l4 → 0 ≤ x ∧ x ≤ 255) (hd1 : l1.length ≤ d1) (hd2 : l2.length ≤ d2) (hd3 : l3.length ≤ d3) (hd4 : l4.length ≤ d4) (hr1 : Kd.C (Kd.int .u8) w B1 l1.length l1) (hr2 : Kd.C (Kd.int .u8) w B2 l2.length l2) (hr3 : Kd.C (Kd.int .u8) w B3 l3.length l3) (hr4 : Kd.C (Kd.int .u8) w B4 l4.length l4) (hb5 : ∀ x, x ∈ l5 → 0 ≤ x ∧ x ≤ 255) (hd5 : l5.length ≤ d5) (hr5 : Kd.C (Kd.int .u8) w B5 l5.length l5) :
  Calls Tryz.prog 4 #[.agg #[.slice B1 l1.length d1, .slice B2 l2.length d2, .slice B3 l3.length d3, .slice B4 l4.length d4], .slice B5 l5.length d5] w fun e w' => e = .returned (.bool true) ∧ Below w.heap.size w w' := by
 have hu := Tryz.underlying24
 have hu49 := Tryz.underlying49
 have hu39 := Tryz.underlying39
 have hu32 := Tryz.underlying32
 have hu29 := Tryz.underlying29
 have hu36 := Tryz.underlying36
 have hu42 := Tryz.underlying42
 have HX := yC.mk (Bxs.start w)
 have HG := yC.mk hgl
 have HMd : yC (∀ w', Below w.heap.size w w' → Calls Tryz.prog 10 #[.agg #[.slice B1 l1.length d1, .slice B2 l2.length d2, .slice B3 l3.length d3, .slice B4 l4.length d4]] w' fun e w'' => (∃ v, e = .returned v ∧ mdP v w'.heap.size w'' (fun _ => True)) ∧ Below w'.heap.size w' w'') := ⟨fun w' hb => made_calls B1 B2 B3 B4 d1 d2 d3 l4.length d4 l1 l2 l3 hb1 hb2 hb3 hd1 hd2 hd3 w' (Kd.yI hr1 hb) (Kd.yI hr2 hb) (Kd.yI hr3 hb)⟩
 go_enter Tryz.func4, Tryz.ntmps4
 go_upto_region 0 with (fail)
 refine Reg.det [(some 2, Reg.Dv.box 2 24 (fun _ => #[.slice B1 l1.length d1, .slice B2 l2.length d2, .slice B3 l3.length d3, .slice B4 l4.length d4]) [] true), Reg.k 4 (.bool false)] [] 170 rfl (by kernel_rfl) (by kernel_rfl) ?s1 ?_
 case s1 =>
  intro iq oq pq hiq hoq hpq ρ ev W S hE hO ec ef hB hft hΦ
  have e0 : ev (.tmp 0) = .agg #[.slice B1 l1.length d1, .slice B2 l2.length d2, .slice B3 l3.length d3, .slice B4 l4.length d4] := hO 0 rfl
  simp only [Reg.SV, val_md, yX, val_vl, yV] at hE
  obtain ⟨e2, e4, _⟩ := hE
  rcases Reg.lt2 hiq with rfl | rfl
  all_goals (cases hoq; cases hpq)
  ·refine Reg.D.box hB ?_
   go_simp
   try rfl
  all_goals try exact Reg.D.mv hB
  all_goals exact Reg.D.cx hB
 intro ρ W0 S hB hft hap hΦ
 simp only [Reg.SV, val_md, yX, val_vl, yV, Reg.SF, Nat.reduceAdd]
 obtain ⟨g2, e2, s2, hg2, _, b2⟩ := hΦ 0 _ rfl rfl
 replace e2 : ρ 2 = .pointer (some ⟨g2, 0, none⟩) := e2
 try simp only [e2]
 replace b2 : W0.heap[g2]? = some (.cells #[.slice B1 l1.length d1, .slice B2 l2.length d2, .slice B3 l3.length d3, .slice B4 l4.length d4] 24 (0, 0)) := b2
 have HX := yC.mk (HX.out.join (Bxs.one hB hg2 b2))
 clear hΦ hft hap 
 go_upto_region 1 with (fail)
 try simp only [Reg.SF]
 refine Reg.det [Reg.k 15 (.bool true), Reg.k 5 (.bool true)] [] 170 rfl (by kernel_rfl) (by kernel_rfl) ?s2 ?_
 case s2 =>
  intro iq oq pq hiq hoq hpq ρ ev W S hE hO ec ef hB hft hΦ
  simp only [Reg.SV, val_md, yX, val_vl, yV] at hE
  obtain ⟨e15, e5, _⟩ := hE
  rcases Reg.lt2 hiq with rfl | rfl
  all_goals (cases hoq; cases hpq)
  ·refine Reg.D.cc (g := 9) (args := #[]) hB (by go_simp; try rfl) ?_
   exact examples_calls W (HG.out.below (yD HX.out.below hB))
  all_goals try exact Reg.D.mv hB
  all_goals exact Reg.D.cx hB
 intro ρ W1 S hB hft hap hΦ
 simp only [Reg.SV, val_md, yX, val_vl, yV, Reg.SF, Nat.reduceAdd]
 have HX := HX.cl hB
 clear hΦ hft hap 
 go_upto_region 2 with (fail)
 try simp only [Reg.SF]
 refine Reg.det [Reg.k 16 (.bool true), Reg.k 17 (.bool false)] [] 170 rfl (by kernel_rfl) (by kernel_rfl) ?s3 ?_
 case s3 =>
  intro iq oq pq hiq hoq hpq ρ ev W S hE hO ec ef hB hft hΦ
  have e5 : ev (.tmp 5) = .bool true := hO 5 rfl
  simp only [Reg.SV, val_md, yX, val_vl, yV] at hE
  obtain ⟨e16, e17, _⟩ := hE
  rcases Reg.lt2 hiq with rfl | rfl
  all_goals (cases hoq; cases hpq)
  all_goals try exact Reg.D.mv hB
  all_goals exact Reg.D.cx hB
 intro ρ W2 S hB hft hap hΦ
 simp only [Reg.SV, val_md, yX, val_vl, yV, Reg.SF, Nat.reduceAdd]
 have HX := HX.cl hB
 clear hΦ hft hap 
 go_upto_region 4 with (fail)
 try simp only [Reg.SF]
 refine Reg.det [Reg.k 18 (.agg #[.slice B1 l1.length d1, .slice B2 l2.length d2, .slice B3 l3.length d3, .slice B4 l4.length d4]), (some 19, mdDv 19), (some 6, Reg.Dv.box 6 32 (fun _ => #[.slice none 0 0, .int .i64 0, .int .i64 0, .int .i64 0, .string (⟨#[]⟩ : ByteArray), .slice none 0 0, .slice none 0 0]) [] true), (none, Reg.Dv.box 6 32 (fun l => (l.headD undef).cells) [19] false)] [(2, 3)] 170 rfl (by kernel_rfl) (by kernel_rfl) ?s4 ?_
 case s4 =>
  intro iq oq pq hiq hoq hpq ρ ev W S hE hO ec ef hB hft hΦ
  have e2 : ev (.tmp 2) = .pointer (some ⟨g2, 0, none⟩) := hO 2 rfl
  have mg2_0 := HX.pc hB 0 0 (.slice B1 l1.length d1) rfl rfl
  have mg2_1 := HX.pc hB 0 1 (.slice B2 l2.length d2) rfl rfl
  have mg2_2 := HX.pc hB 0 2 (.slice B3 l3.length d3) rfl rfl
  have mg2_3 := HX.pc hB 0 3 (.slice B4 l4.length d4) rfl rfl
  simp only [Reg.SV, val_md, yX, val_vl, yV] at hE
  obtain ⟨e18, e19, e6, _⟩ := hE
  rcases Reg.lt4 hiq with rfl | rfl | rfl | rfl
  all_goals (cases hoq; cases hpq)
  rotate_left 3
  ·obtain ⟨y0, y, y1, u0, u4, u2, h19, _, sA, sX, sL⟩ := hΦ 1 _ rfl rfl rfl
   obtain ⟨_, _, eu0⟩ := Kd.R_slice sA
   obtain ⟨_, _, eu4⟩ := Kd.R_slice sX
   obtain ⟨_, _, eu2⟩ := Kd.R_slice sL
   subst eu0 eu4 eu2
   replace h19 : ρ 19 = .agg _ := h19
   exact Reg.DStep.fill (us := [19]) (cs := fun l => (l.headD undef).cells) 2 (by decide) 32 (.tmp 6) (.tmp 19) rfl (by first | exact .inl rfl | exact .inr ⟨_, _, _, rfl, rfl, (by assumption)⟩) hB e6 (by rw [e19]; show ρ 19 = .agg (Value.cells (ρ 19)); rw [h19]; rfl) (hΦ 2 _ rfl rfl rfl) (by show _ = some (Value.cells (ρ 19)).size; rw [h19]; exact info32s) (by show _ = (Value.cells (ρ 19)).size; rw [h19]; rfl) (by show ((Value.cells (ρ 19)).toList.all _) = true; rw [h19]; rfl)
  rotate_right 3
  rotate_left 2
  ·refine Reg.D.box hB ?_
   go_simp
   try rfl
  rotate_right 2
  rotate_left 1
  ·refine Reg.D.call (g := 10) (args := #[.agg #[.slice B1 l1.length d1, .slice B2 l2.length d2, .slice B3 l3.length d3, .slice B4 l4.length d4]]) (by go_simp; try rfl) ?_
   exact md_step hB (HMd.out W (yD HX.out.below hB))
  rotate_right 1
  all_goals exact Reg.D.cx hB
 intro ρ W4 S hB hft hap hΦ
 simp only [Reg.SV, val_md, yX, val_vl, yV, Reg.SF, Nat.reduceAdd]
 obtain ⟨l0, x, l, v0, v4, v2, e19, ⟨hat, hx, hll, hce⟩, rA, rX, rL⟩ := hΦ 1 _ rfl rfl
 obtain ⟨AA, cA, ev0⟩ := Kd.R_slice rA
 obtain ⟨AX, cX, ev4⟩ := Kd.R_slice rX
 obtain ⟨AL, cL, ev2⟩ := Kd.R_slice rL
 subst ev0 ev4 ev2
 replace e19 : ρ 19 = .agg #[.slice AA l0.length cA, .int .i64 x.f0, .int .i64 x.f1, .int .i64 x.f2, .string x.f3, .slice AX x.f4.length cX, .slice AL l.length cL] := e19
 have RA := yC.mk (Kd.xE (ok' := fun _ => True) rA (fun _ _ => trivial))
 have RX := yC.mk (Kd.xE (ok' := fun _ => True) rX (fun _ _ => trivial))
 have RL := yC.mk (Kd.xE (ok' := fun _ => True) rL (fun _ _ => trivial))
 clear rA rX rL
 obtain ⟨g6, e6, s6, hg6, _, b6⟩ := hΦ 3 _ rfl rfl
 replace e6 : ρ 6 = .pointer (some ⟨g6, 0, none⟩) := e6
 replace b6 : W4.heap[g6]? = some (.cells (Value.cells (ρ 19)) 32 (0, 0)) := b6
 rw [e19] at b6
 try simp only [e19, e6]
 replace b6 : W4.heap[g6]? = some (.cells #[.slice AA l0.length cA, .int .i64 x.f0, .int .i64 x.f1, .int .i64 x.f2, .string x.f3, .slice AX x.f4.length cX, .slice AL l.length cL] 32 (0, 0)) := b6
 have HX := yC.mk (HX.out.join (Bxs.one hB hg6 b6))
 clear hΦ hft hap 
 have hz6 : l0.length ≤ 6 := hat.2.1
 have hz3 : 3 ≤ l0.length := hat.1
 obtain ⟨hty, htp⟩ := show_ty hat hll hce 2 x (by decide) hx
 obtain ⟨s2, hs2z, hs2r, hs2⟩ := ShowR_all hll hce 3 x hx
 have hwo := wOk_of 3 x hx
 have hAt := Attrs_all 3 x (by decide) hwo
 have halen := (attrs_len 3 x hwo).1
 have hTT := fun (w' : World) (hb : Below W4.heap.size W4 w') => TypeR_calls l0 x (tailV 2 l0 x).1 (OfR_all l0 3 x (by decide) hx) AA cA AX cX w' (Kd.R_reads' RA.out).2.1 (Kd.yI (Kd.R_reads' RA.out).2.2 hb) (Kd.R_reads' RX.out).2.1 (Kd.yI (Kd.R_reads' RX.out).2.2 hb)
 obtain ⟨T, hT⟩ : ∃ T, (tailV 2 l0 x).1 = T := ⟨_, rfl⟩
 rw [hT] at htp hTT
 obtain ⟨L, hL⟩ : ∃ L, attrsV 3 x = L := ⟨_, rfl⟩
 rw [hL] at hAt halen
 have HAT : yC (∀ w', Below W4.heap.size W4 w' → Calls Tryz.prog 14 #[.agg #[.int .i64 x.f0, .int .i64 x.f1, .int .i64 x.f2, .string x.f3, .slice AX x.f4.length cX]] w' fun e w'' => ∃ v, e = .returned v ∧ Kd.R (Kd.int .i64) 3 w'' w'.heap.size (fun _ => True) v L ∧ Below w'.heap.size w' w'') := ⟨fun w' hb => hAt AX cX w' (Kd.R_reads' RX.out).2.1 (Kd.yI (Kd.R_reads' RX.out).2.2 hb)⟩
 have HTT : yC (∀ w', Below W4.heap.size W4 w' → Calls Tryz.prog 16 #[.slice AA l0.length cA, .agg #[.int .i64 x.f0, .int .i64 x.f1, .int .i64 x.f2, .string x.f3, .slice AX x.f4.length cX]] w' fun e w'' => e = .returned (.agg #[.int .i64 T.f0, .int .i64 T.f1, .bool T.f2]) ∧ Below w'.heap.size w' w'') := ⟨hTT⟩
 have HSR : yC (∀ w', Below W4.heap.size W4 w' → Calls Tryz.prog 17 #[.agg #[.int .i64 x.f0, .int .i64 x.f1, .int .i64 x.f2, .string x.f3, .slice AX x.f4.length cX], .slice AL l.length cL] w' fun e w'' => e = .returned (.agg #[.int .i64 s2.f0, .int .i64 s2.f1, .string s2.f2]) ∧ Below w'.heap.size w' w'') := ⟨fun w' hb => hs2 AX cX AL cL w' (Kd.R_reads' RX.out).2.1 (Kd.yI (Kd.R_reads' RX.out).2.2 hb) (Kd.R_reads' RL.out).2.1 (Kd.yI (Kd.R_reads' RL.out).2.2 hb)⟩
 have HWi : yC (∀ w', Below w.heap.size w w' → Calls Tryz.prog 15 #[.agg #[.int .i64 T.f0, .int .i64 T.f1, .bool T.f2], .agg #[.int .i64 s2.f0, .int .i64 s2.f1, .string s2.f2], .slice B4 l4.length d4] w' fun e w'' => (∃ v : S39, e = .returned (.agg (vC v)) ∧ v.f2.size ≤ 100 ∧ rngV v) ∧ Below w'.heap.size w' w'') := ⟨fun w' hb => Wish_calls htp (by omega) hs2r B4 d4 l4 hb4 hd4 w' (Kd.yI hr4 hb)⟩
 have HCl : yC (∀ w', Below W4.heap.size W4 w' → Calls Tryz.prog 18 #[.slice AA l0.length cA, .slice B5 l5.length d5] w' fun e w'' => ∃ v, e = .returned v ∧ rowE k39 39 (fun l => l.length = l0.length ∧ cellsOk l0 l) v w'.heap.size w'' (fun _ => True) ∧ Below w'.heap.size w' w'') := ⟨fun w' hb => (Cells_calls l0 hat AA cA B5 l5.length d5 (byteV l5) (byteV_in hb5) w' (Kd.yI (Kd.R_reads' RA.out).2.2 hb) (byte_calls (Kd.yI hr5 (yD HX.out.below hb)) hd5) power_calls word_calls).mono fun e w'' h => by
  obtain ⟨v, l, he, hR, hP, hb⟩ := h
  exact ⟨v, he, ⟨l, hR, hP⟩, hb⟩⟩
 have HIn : yC (∀ (A : Option Addr) (c : Nat) (i : Nat) (w' : World), i ≤ 100 → L.length ≤ c → Kd.C (Kd.int .i64) w' A L.length L → Calls Tryz.prog 19 #[.slice A L.length c, .int .i64 (i : Int)] w' fun e w'' => e = .returned (.bool (decide ((i : Int) ∈ L))) ∧ Below w'.heap.size w' w'') := ⟨fun A c i w' hi hc hC => by
  obtain ⟨k, hk⟩ := in_val L (by omega) (i : Int)
  exact (chapmanref16_In.calls k A c L (i : Int) _ w' hC hc hk).mono fun e w'' h => ⟨h.1, xS h.2⟩⟩
 have HAL := yC.mk (And.intro hat (And.intro hx (And.intro hll (And.intro hce (And.intro hL (And.intro hz3 hz6))))))
 have HB4 := yC.mk (Below.refl W4.heap.size W4)
 clear hat hx hll hce hty htp hs2z hs2r hs2 hwo hAt halen hTT hT hL
 go_upto_region 5 with (fail)
 try simp only [Reg.SF]
 refine Reg.det [Reg.k 20 (.pointer (some ⟨g6, 1, none⟩)), Reg.k 21 (.agg #[.int .i64 x.f0, .int .i64 x.f1, .int .i64 x.f2, .string x.f3, .slice AX x.f4.length cX]), (some 22, Reg.Dv.row 22 (Kd.int .i64) 3 (L)), (some 7, Reg.Dv.u [22] (fun l => (l.headD undef)))] [] 170 rfl (by kernel_rfl) (by kernel_rfl) ?s5 ?_
 case s5 =>
  intro iq oq pq hiq hoq hpq ρ ev W S hE hO ec ef hB hft hΦ
  have e6 : ev (.tmp 6) = .pointer (some ⟨g6, 0, none⟩) := hO 6 rfl
  have mg6_1 := HX.pc hB 0 1 (.int .i64 x.f0) rfl rfl
  have mg6_2 := HX.pc hB 0 2 (.int .i64 x.f1) rfl rfl
  have mg6_3 := HX.pc hB 0 3 (.int .i64 x.f2) rfl rfl
  have mg6_4 := HX.pc hB 0 4 (.string x.f3) rfl rfl
  have mg6_5 := HX.pc hB 0 5 (.slice AX x.f4.length cX) rfl rfl
  simp only [Reg.SV, val_md, yX, val_vl, yV] at hE
  obtain ⟨e20, e21, e22, e7, _⟩ := hE
  rcases Reg.lt4 hiq with rfl | rfl | rfl | rfl
  all_goals (cases hoq; cases hpq)
  rotate_left 3
  ·obtain ⟨_, _, h22⟩ := Kd.R_slice (hΦ 2 _ rfl rfl rfl)
   replace h22 : ρ 22 = _ := h22
   refine Reg.D.uv hB ?_
   go_simp
   try (first | done | rfl | (simp; done) | (intro h; omega))
  rotate_right 3
  rotate_left 2
  ·refine Reg.D.crow (g := 14) (args := #[.agg #[.int .i64 x.f0, .int .i64 x.f1, .int .i64 x.f2, .string x.f3, .slice AX x.f4.length cX]]) hB (by go_simp; try rfl) ?_
   exact HAT.out W (yD HB4.out hB)
  rotate_right 2
  all_goals exact Reg.D.cx hB
 intro ρ W5 S hB hft hap hΦ
 simp only [Reg.SV, val_md, yX, val_vl, yV, Reg.SF, Nat.reduceAdd]
 have r22 : Kd.R (Kd.int .i64) 3 W5 _ _ (ρ 22) (L) := hΦ 2 _ rfl rfl
 obtain ⟨A22, c22, e22⟩ := Kd.R_slice r22
 replace e22 : ρ 22 = .slice A22 (L).length c22 := e22
 rw [e22] at r22
 replace r22 := Kd.xE (ok' := fun _ => True) (Kd.xJ r22 HX.out.below.size) (fun _ _ => trivial)
 try simp only [e22]
 have HX := HX.cl hB
 replace RA := yC.mk (Kd.yJ RA.out hB)
 replace RX := yC.mk (Kd.yJ RX.out hB)
 replace RL := yC.mk (Kd.yJ RL.out hB)
 replace HB4 := yC.mk (yD HB4.out hB)
 clear hΦ hft hap 
 have RT := yC.mk r22
 clear r22
 go_upto_region 6 with (fail)
 try simp only [Reg.SF]
 refine Reg.det [Reg.k 23 (.pointer (some ⟨g6, 0, none⟩)), Reg.k 24 (.slice AA l0.length cA), Reg.k 25 (.pointer (some ⟨g6, 1, none⟩)), Reg.k 26 (.agg #[.int .i64 x.f0, .int .i64 x.f1, .int .i64 x.f2, .string x.f3, .slice AX x.f4.length cX]), Reg.k 27 (.agg #[.int .i64 T.f0, .int .i64 T.f1, .bool T.f2]), Reg.k 28 (.pointer (some ⟨g6, 1, none⟩)), Reg.k 29 (.agg #[.int .i64 x.f0, .int .i64 x.f1, .int .i64 x.f2, .string x.f3, .slice AX x.f4.length cX]), Reg.k 30 (.pointer (some ⟨g6, 6, none⟩)), Reg.k 31 (.slice AL l.length cL), Reg.k 32 (.agg #[.int .i64 s2.f0, .int .i64 s2.f1, .string s2.f2]), Reg.k 33 (.pointer (some ⟨g2, 3, none⟩)), Reg.k 34 (.slice B4 l4.length d4), (some 35, vlDv 35), (some 8, Reg.Dv.box 8 39 (fun _ => #[.int .i64 0, .int .i64 0, .string (⟨#[]⟩ : ByteArray)]) [] true), (none, Reg.Dv.box 8 39 (fun l => (l.headD undef).cells) [35] false)] [(13, 14)] 170 rfl (by kernel_rfl) (by kernel_rfl) ?s6 ?_
 case s6 =>
  intro iq oq pq hiq hoq hpq ρ ev W S hE hO ec ef hB hft hΦ
  have e2 : ev (.tmp 2) = .pointer (some ⟨g2, 0, none⟩) := hO 2 rfl
  have e6 : ev (.tmp 6) = .pointer (some ⟨g6, 0, none⟩) := hO 6 rfl
  have mg6_0 := HX.pc hB 0 0 (.slice AA l0.length cA) rfl rfl
  have mg6_1 := HX.pc hB 0 1 (.int .i64 x.f0) rfl rfl
  have mg6_2 := HX.pc hB 0 2 (.int .i64 x.f1) rfl rfl
  have mg6_3 := HX.pc hB 0 3 (.int .i64 x.f2) rfl rfl
  have mg6_4 := HX.pc hB 0 4 (.string x.f3) rfl rfl
  have mg6_5 := HX.pc hB 0 5 (.slice AX x.f4.length cX) rfl rfl
  have mg6_6 := HX.pc hB 0 6 (.slice AL l.length cL) rfl rfl
  have mg2_3 := HX.pc hB 1 3 (.slice B4 l4.length d4) rfl rfl
  simp only [Reg.SV, val_md, yX, val_vl, yV] at hE
  obtain ⟨e23, e24, e25, e26, e27, e28, e29, e30, e31, e32, e33, e34, e35, e8, _⟩ := hE
  rcases Reg.lt15 hiq with rfl | rfl | rfl | rfl | rfl | rfl | rfl | rfl | rfl | rfl | rfl | rfl | rfl | rfl | rfl
  all_goals (cases hoq; cases hpq)
  rotate_left 14
  ·obtain ⟨v_, h35, _⟩ := hΦ 12 _ rfl rfl rfl
   replace h35 : ρ 35 = .agg (vC v_) := h35
   exact Reg.DStep.fill (us := [35]) (cs := fun l => (l.headD undef).cells) 13 (by decide) 39 (.tmp 8) (.tmp 35) rfl (by first | exact .inl rfl | exact .inr ⟨_, _, _, rfl, rfl, (by assumption)⟩) hB e8 (by rw [e35]; show ρ 35 = .agg (Value.cells (ρ 35)); rw [h35]; rfl) (hΦ 13 _ rfl rfl rfl) (by show _ = some (Value.cells (ρ 35)).size; rw [h35]; exact info39s) (by show _ = (Value.cells (ρ 35)).size; rw [h35]; rfl) (by show ((Value.cells (ρ 35)).toList.all _) = true; rw [h35]; rfl)
  rotate_right 14
  rotate_left 13
  ·refine Reg.D.box hB ?_
   go_simp
   try rfl
  rotate_right 13
  rotate_left 12
  ·refine Reg.D.call (g := 15) (args := #[.agg #[.int .i64 T.f0, .int .i64 T.f1, .bool T.f2], .agg #[.int .i64 s2.f0, .int .i64 s2.f1, .string s2.f2], .slice B4 l4.length d4]) (by go_simp; try rfl) ?_
   exact vl_step hB (HWi.out W (yD HX.out.below hB))
  rotate_right 12
  rotate_left 9
  ·refine Reg.D.cc (g := 17) (args := #[.agg #[.int .i64 x.f0, .int .i64 x.f1, .int .i64 x.f2, .string x.f3, .slice AX x.f4.length cX], .slice AL l.length cL]) hB (by go_simp; try rfl) ?_
   exact HSR.out W (yD HB4.out hB)
  rotate_right 9
  rotate_left 4
  ·refine Reg.D.cc (g := 16) (args := #[.slice AA l0.length cA, .agg #[.int .i64 x.f0, .int .i64 x.f1, .int .i64 x.f2, .string x.f3, .slice AX x.f4.length cX]]) hB (by go_simp; try rfl) ?_
   exact HTT.out W (yD HB4.out hB)
  rotate_right 4
  all_goals exact Reg.D.cx hB
 intro ρ W6 S hB hft hap hΦ
 simp only [Reg.SV, val_md, yX, val_vl, yV, Reg.SF, Nat.reduceAdd]
 obtain ⟨v, e35, hv100, hrv⟩ := hΦ 12 _ rfl rfl
 replace e35 : ρ 35 = .agg #[.int .i64 v.f0, .int .i64 v.f1, .string v.f2] := e35
 obtain ⟨g8, e8, s8, hg8, _, b8⟩ := hΦ 14 _ rfl rfl
 replace e8 : ρ 8 = .pointer (some ⟨g8, 0, none⟩) := e8
 replace b8 : W6.heap[g8]? = some (.cells (Value.cells (ρ 35)) 39 (0, 0)) := b8
 rw [e35] at b8
 try simp only [e35, e8]
 replace b8 : W6.heap[g8]? = some (.cells #[.int .i64 v.f0, .int .i64 v.f1, .string v.f2] 39 (0, 0)) := b8
 have HX := yC.mk (HX.out.join (Bxs.one hB hg8 b8))
 replace RA := yC.mk (Kd.yJ RA.out hB)
 replace RX := yC.mk (Kd.yJ RX.out hB)
 replace RL := yC.mk (Kd.yJ RL.out hB)
 replace HB4 := yC.mk (yD HB4.out hB)
 replace RT := yC.mk (Kd.yJ RT.out hB)
 clear hΦ hft hap 
 have HB6 := yC.mk (Below.refl W6.heap.size W6)
 have HX6 := HX
 have RA6 := RA
 have RX6 := RX
 have RL6 := RL
 have RT6 := RT
 have HB46 := HB4
 go_upto_region 7 with (fail)
 try simp only [Reg.SF]
 refine Reg.det [Reg.k 36 (.pointer (some ⟨g6, 0, none⟩)), Reg.k 37 (.slice AA l0.length cA), Reg.k 38 (.slice B5 l5.length d5), (some 39, rowEDv 39 k39 39 (fun l => l.length = l0.length ∧ cellsOk l0 l)), (some 9, Reg.Dv.u [39] (fun l => (l.headD undef)))] [] 170 rfl (by kernel_rfl) (by kernel_rfl) ?s7 ?_
 case s7 =>
  intro iq oq pq hiq hoq hpq ρ ev W S hE hO ec ef hB hft hΦ
  have e1 : ev (.tmp 1) = .slice B5 l5.length d5 := hO 1 rfl
  have e6 : ev (.tmp 6) = .pointer (some ⟨g6, 0, none⟩) := hO 6 rfl
  have mg6_0 := HX.pc hB 1 0 (.slice AA l0.length cA) rfl rfl
  simp only [Reg.SV, val_md, yX, val_vl, yV] at hE
  obtain ⟨e36, e37, e38, e39, e9, _⟩ := hE
  rcases Reg.lt5 hiq with rfl | rfl | rfl | rfl | rfl
  all_goals (cases hoq; cases hpq)
  rotate_left 4
  ·refine Reg.D.uv hB ?_
   go_simp
   try (first | done | rfl | (simp; done) | (intro h; omega))
  rotate_right 4
  rotate_left 3
  ·refine Reg.D.call (g := 18) (args := #[.slice AA l0.length cA, .slice B5 l5.length d5]) (by go_simp; try rfl) ?_
   exact rowE_step hB (HCl.out W (yD HB4.out hB))
  rotate_right 3
  all_goals try exact Reg.D.mv hB
  all_goals exact Reg.D.cx hB
 intro ρ W7 S hB hft hap hΦ
 simp only [Reg.SV, val_md, yX, val_vl, yV, Reg.SF, Nat.reduceAdd]
 obtain ⟨lo, rO, hlo⟩ := hΦ 3 _ rfl rfl
 have rO2 : Kd.R k39 39 W7 W6.heap.size _ (ρ 39) lo := rO
 obtain ⟨go, cO, e39, hgo, _⟩ := Kd.R_form rO2 (by rw [hlo.1]; have := HAL.out.2.2.2.2.2.1; omega)
 replace e39 : ρ 39 = .slice (some ⟨go, 0, none⟩) lo.length cO := e39
 rw [e39] at rO2
 have RO := yC.mk (Kd.xE (ok' := fun _ => True) rO2 (fun _ _ => trivial))
 clear rO rO2
 try simp only [e39]
 have HX := HX.cl hB
 replace RA := yC.mk (Kd.yJ RA.out hB)
 replace RX := yC.mk (Kd.yJ RX.out hB)
 replace RL := yC.mk (Kd.yJ RL.out hB)
 replace HB4 := yC.mk (yD HB4.out hB)
 replace RT := yC.mk (Kd.yJ RT.out hB)
 replace HB6 := yC.mk (yD HB6.out hB)
 clear hΦ hft hap 
 have HGO := yC.mk hgo
 have HOK := yC.mk (And.intro hlo (And.intro hv100 hrv))
 obtain ⟨n, hn⟩ : ∃ n, lo.length = n := ⟨_, rfl⟩
 have HN8 : yC (3 ≤ n ∧ n ≤ 6 ∧ l.length = n ∧ lo.length = n ∧ l0.length = n) := ⟨by have h1 := HAL.out.2.2.1; have h2 := HAL.out.2.2.2.2.2; omega⟩
 rw [hn] at RO ⊢
 clear hn hgo hlo hv100 hrv HCl HWi HSR HTT HAT
 clear HX RA RX RL RT HB4
 go_wp2_with fail
 go_loopg [10] n (fun kq v10 w' => ∃ (i : Nat) (lo2 : List S39), v10 = .int .i64 (i : Int) ∧ yC (kq + i = n) ∧ yC (Below W6.heap.size W6 w') ∧ yC (Kd.R k39 39 w' W6.heap.size (fun _ => True) (.slice (some ⟨go, 0, none⟩) n cO) lo2) ∧ yC (lo2.length = n ∧ (∀ j : Nat, j < i → (j : Int) ∈ L → yP lo2 (j : Int) = yP l (j : Int)) ∧ ∀ j : Nat, ¬ (j < i ∧ (j : Int) ∈ L) → yP lo2 (j : Int) = yP lo (j : Int)))
 case atStart => exact ⟨0, lo, rfl, ⟨rfl⟩, HB6, RO, ⟨HN8.out.2.2.2.1, fun j h _ => absurd h (Nat.not_lt_zero _), fun j _ => rfl⟩⟩
 case round =>
  clear HB6 RO
  obtain ⟨i, lo2, rfl, HKQ, HB6, RO, HPR⟩ := hrel
  have HX := yC.mk (HX6.out.call HB6.out)
  have RA := yC.mk (Kd.yJ RA6.out HB6.out)
  have RX := yC.mk (Kd.yJ RX6.out HB6.out)
  have RL := yC.mk (Kd.yJ RL6.out HB6.out)
  have RT := yC.mk (Kd.yJ RT6.out HB6.out)
  have HB4 := yC.mk (yD HB46.out HB6.out)
  clear HX6 RA6 RX6 RL6 RT6 HB46
  have hn8 := HN8.out.2.1
  have w2 : IntKind.i64.wrap ((i : Int) + 1) = (i : Int) + 1 := by have := HKQ.out; rw [IntKind.wrap_i64]; omega
  by_cases hi : i < n
  ·have dl : decide ((i : Int) < (n : Int)) = true := decide_eq_true (by omega)
   go_upto_region 9 with (fail)
   try simp only [Reg.SF]
   refine Reg.det [Reg.k 40 (.int .i64 (i : Int)), Reg.k 41 (.slice (some ⟨go, 0, none⟩) n cO), Reg.k 42 (.int .i64 n), Reg.k 43 (.bool true)] [] 170 rfl (by kernel_rfl) (by kernel_rfl) ?s8 ?_
   case s8 =>
    intro iq oq pq hiq hoq hpq ρ ev W S hE hO ec ef hB hft hΦ
    have e9 : ev (.tmp 9) = .slice (some ⟨go, 0, none⟩) n cO := hO 9 rfl
    have e10 : ev (.tmp 10) = .int .i64 (i : Int) := hO 10 rfl
    simp only [Reg.SV, val_md, yX, val_vl, yV] at hE
    obtain ⟨e40, e41, e42, e43, _⟩ := hE
    rcases Reg.lt4 hiq with rfl | rfl | rfl | rfl
    all_goals (cases hoq; cases hpq)
    all_goals try exact Reg.D.mv hB
    all_goals (refine Reg.D.cv hB ?_; go_simp; try (first | done | rfl | (exact dl) | (simp [dl]; done) | (simp; omega)))
   intro ρ W9 S hB hft hap hΦ
   simp only [Reg.SV, val_md, yX, val_vl, yV, Reg.SF, Nat.reduceAdd]
   have HX := HX.cl hB
   replace RA := yC.mk (Kd.yJ RA.out hB)
   replace RX := yC.mk (Kd.yJ RX.out hB)
   replace RL := yC.mk (Kd.yJ RL.out hB)
   replace RT := yC.mk (Kd.yJ RT.out hB)
   replace RO := yC.mk (Kd.yJ RO.out hB)
   replace HB6 := yC.mk (yD HB6.out hB)
   replace HB4 := yC.mk (yD HB4.out hB)
   clear hΦ hft hap 
   obtain ⟨cb, hcb⟩ : ∃ b, decide ((i : Int) ∈ L) = b := ⟨_, rfl⟩
   have HCB := yC.mk hcb
   clear hcb
   go_upto_region 11 with (fail)
   try simp only [Reg.SF]
   refine Reg.det [Reg.k 46 (.slice A22 (L).length c22), Reg.k 47 (.int .i64 (i : Int)), Reg.k 48 (.bool cb)] [] 170 rfl (by kernel_rfl) (by kernel_rfl) ?s9 ?_
   case s9 =>
    intro iq oq pq hiq hoq hpq ρ ev W S hE hO ec ef hB hft hΦ
    have e7 : ev (.tmp 7) = .slice A22 (L).length c22 := hO 7 rfl
    have e10 : ev (.tmp 10) = .int .i64 (i : Int) := hO 10 rfl
    simp only [Reg.SV, val_md, yX, val_vl, yV] at hE
    obtain ⟨e46, e47, e48, _⟩ := hE
    rcases Reg.lt3 hiq with rfl | rfl | rfl
    all_goals (cases hoq; cases hpq)
    rotate_left 2
    ·refine Reg.D.cc (g := 19) (args := #[.slice A22 (L).length c22, .int .i64 (i : Int)]) hB (by go_simp; try rfl) ?_
     exact by have h := HIn.out _ _ i W (by omega) (Kd.R_reads' RT.out).2.1 (Kd.yI (Kd.R_reads' RT.out).2.2 hB); rw [HCB.out] at h; exact h
    rotate_right 2
    all_goals try exact Reg.D.mv hB
    all_goals exact Reg.D.cx hB
   intro ρ W11 S hB hft hap hΦ
   simp only [Reg.SV, val_md, yX, val_vl, yV, Reg.SF, Nat.reduceAdd]
   have HX := HX.cl hB
   replace RA := yC.mk (Kd.yJ RA.out hB)
   replace RX := yC.mk (Kd.yJ RX.out hB)
   replace RL := yC.mk (Kd.yJ RL.out hB)
   replace RT := yC.mk (Kd.yJ RT.out hB)
   replace RO := yC.mk (Kd.yJ RO.out hB)
   replace HB6 := yC.mk (yD HB6.out hB)
   replace HB4 := yC.mk (yD HB4.out hB)
   clear hΦ hft hap 
   cases cb with
   | true =>
    obtain ⟨a1, ea1, q0, q1, q2⟩ := at_T39 (Kd.R_reads' RL.out).2.2 (i : Int) (by omega) (by have := HN8.out.2.2.1; omega)
    obtain ⟨u, hu_⟩ : ∃ u, yP l (i : Int) = u := ⟨_, rfl⟩
    rw [hu_] at q0 q1 q2
    rw [Int.toNat_natCast] at q0 q1 q2
    obtain ⟨qi, hqi⟩ : ∃ q, a1.add (i * 3) = q := ⟨_, rfl⟩
    rw [hqi] at q0 q1 q2
    have HU := yC.mk hu_
    have hil : (i : Int) < (l.length : Int) := by have := HN8.out.2.2.1; omega
    subst ea1
    clear hu_ dl
    go_upto_region 12 with (fail)
    try simp only [Reg.SF]
    refine Reg.det [Reg.k 49 (.slice (some ⟨go, 0, none⟩) n cO), Reg.k 50 (.int .i64 (i : Int)), Reg.k 51 (.pointer (some ⟨g6, 6, none⟩)), Reg.k 52 (.slice (some a1) l.length cL), Reg.k 53 (.int .i64 (i : Int)), Reg.k 54 (.pointer (some qi)), Reg.k 55 (.agg #[.int .i64 u.f0, .int .i64 u.f1, .string u.f2]), Reg.k 56 (.pointer (some ⟨go, i * 3, none⟩))] [] 170 rfl (by kernel_rfl) (by kernel_rfl) ?s10 ?_
    case s10 =>
     intro iq oq pq hiq hoq hpq ρ ev W S hE hO ec ef hB hft hΦ
     have e6 : ev (.tmp 6) = .pointer (some ⟨g6, 0, none⟩) := hO 6 rfl
     have e9 : ev (.tmp 9) = .slice (some ⟨go, 0, none⟩) n cO := hO 9 rfl
     have e10 : ev (.tmp 10) = .int .i64 (i : Int) := hO 10 rfl
     have mg6_6 := HX.pc hB 1 6 (.slice (some a1) l.length cL) rfl rfl
     have q0' := yB hB q0
     have q1' := yB hB q1
     have q2' := yB hB q2
     simp only [Reg.SV, val_md, yX, val_vl, yV] at hE
     obtain ⟨e49, e50, e51, e52, e53, e54, e55, e56, _⟩ := hE
     rcases Reg.lt8 hiq with rfl | rfl | rfl | rfl | rfl | rfl | rfl | rfl
     all_goals (cases hoq; cases hpq)
     all_goals try exact Reg.D.mv hB
     all_goals (refine Reg.D.cv hB ?_; go_simp; try (first | done | rfl | (rw [← hqi]; rfl) | (rw [if_pos (by omega)]; simp [hqi]; done) | (simp [hqi, hil]; done) | (simp [hi]; done) | (intro h; omega) | (simp; omega)))
    intro ρ W12 S hB hft hap hΦ
    simp only [Reg.SV, val_md, yX, val_vl, yV, Reg.SF, Nat.reduceAdd]
    have HX := HX.cl hB
    replace RA := yC.mk (Kd.yJ RA.out hB)
    replace RX := yC.mk (Kd.yJ RX.out hB)
    replace RL := yC.mk (Kd.yJ RL.out hB)
    replace RT := yC.mk (Kd.yJ RT.out hB)
    replace RO := yC.mk (Kd.yJ RO.out hB)
    replace HB6 := yC.mk (yD HB6.out hB)
    replace HB4 := yC.mk (yD HB4.out hB)
    clear hΦ hft hap 
    obtain ⟨f0, f1, f2, fz⟩ := getv RO.out i hi
    have y0 := fz (i * 3)
    have y1 := fz (i * 3 + 1)
    have y2 := fz (i * 3 + 2)
    clear fz q0 q1 q2
    go_upto_region 10 with (fail)
    have HV3 := yC.mk (setv RO.out i hi u)
    have HB2 : yC (Below W6.heap.size W6 (((W12.setCell ⟨go, i * 3, none⟩ (.int .i64 u.f0)).setCell ⟨go, i * 3 + 1, none⟩ (.int .i64 u.f1)).setCell ⟨go, i * 3 + 2, none⟩ (.string u.f2))) := ⟨xA (xA (xA HB6.out HGO.out) HGO.out) HGO.out⟩
    clear HX RA RX RL RT HB4 HB6 RO f0 f1 f2 y0 y1 y2
    generalize ((W12.setCell ⟨go, i * 3, none⟩ (.int .i64 u.f0)).setCell ⟨go, i * 3 + 1, none⟩ (.int .i64 u.f1)).setCell ⟨go, i * 3 + 2, none⟩ (.string u.f2) = W13 at *
    go_wp2_with fail
    cases gk with
    | zero => exact absurd HKQ.out (by omega)
    | succ gk1 =>
    go_roundg gk1
    case measure => omega
    case rel => exact ⟨i + 1, lo2.set i u, by simp, ⟨by have := HKQ.out; omega⟩, HB2, HV3, ⟨take_in HPR.out HU.out hi (of_decide_eq_true HCB.out)⟩⟩
   | false =>
    go_wp2_with fail
    cases gk with
    | zero => exact absurd HKQ.out (by omega)
    | succ gk1 =>
    go_roundg gk1
    case measure => omega
    case rel => exact ⟨i + 1, lo2, by simp, ⟨by have := HKQ.out; omega⟩, HB6, RO, ⟨take_out HPR.out (of_decide_eq_false HCB.out)⟩⟩
  ·have dl : decide ((i : Int) < (n : Int)) = false := decide_eq_false (by omega)
   go_upto_region 9 with (fail)
   try simp only [Reg.SF]
   refine Reg.det [Reg.k 40 (.int .i64 (i : Int)), Reg.k 41 (.slice (some ⟨go, 0, none⟩) n cO), Reg.k 42 (.int .i64 n), Reg.k 43 (.bool false)] [] 170 rfl (by kernel_rfl) (by kernel_rfl) ?s11 ?_
   case s11 =>
    intro iq oq pq hiq hoq hpq ρ ev W S hE hO ec ef hB hft hΦ
    have e9 : ev (.tmp 9) = .slice (some ⟨go, 0, none⟩) n cO := hO 9 rfl
    have e10 : ev (.tmp 10) = .int .i64 (i : Int) := hO 10 rfl
    simp only [Reg.SV, val_md, yX, val_vl, yV] at hE
    obtain ⟨e40, e41, e42, e43, _⟩ := hE
    rcases Reg.lt4 hiq with rfl | rfl | rfl | rfl
    all_goals (cases hoq; cases hpq)
    all_goals try exact Reg.D.mv hB
    all_goals (refine Reg.D.cv hB ?_; go_simp; try (first | done | rfl | (exact dl) | (simp [dl]; done) | (simp; omega)))
   intro ρ W9 S hB hft hap hΦ
   simp only [Reg.SV, val_md, yX, val_vl, yV, Reg.SF, Nat.reduceAdd]
   have HX := HX.cl hB
   replace RA := yC.mk (Kd.yJ RA.out hB)
   replace RX := yC.mk (Kd.yJ RX.out hB)
   replace RL := yC.mk (Kd.yJ RL.out hB)
   replace RT := yC.mk (Kd.yJ RT.out hB)
   replace RO := yC.mk (Kd.yJ RO.out hB)
   replace HB6 := yC.mk (yD HB6.out hB)
   replace HB4 := yC.mk (yD HB4.out hB)
   clear hΦ hft hap 
   obtain ⟨hat, hx, hll, hce, hL, hz3, hz6⟩ := HAL.out
   obtain rfl : n = i := by have := HKQ.out; omega
   obtain ⟨hlo, hv100, hrv⟩ := HOK.out
   obtain ⟨hag, hce2, hl2⟩ := took_ok (fun a ha => attrs_in 3 x hx a (hL ▸ ha)) HPR.out hll hlo.1 HN8.out.2.2.2.2 hce hlo.2
   have hn2 := HPR.out.1
   clear HPR dl hi w2 HKQ
   have hfit := cells_fit hat hll hce
   have hfit2 := cells_fit hat hl2 hce2
   rw [← hL] at hag
   have hpf := puts_frame 3 x hx l lo2 v hfit hfit2 hag
   have hsf := sh_frame 3 x hx hag
   have hsh := show_ok hfit 3 x hx
   have hsh2 := show_ok hfit2 3 x hx
   have hpa := puts_all l0 (by omega) 3 x hx l v hfit
   have hpa2 := puts_all l0 (by omega) 3 x hx lo2 v hfit2
   obtain ⟨R1, hR1⟩ : ∃ r, putsV 3 l0 l x v = r := ⟨_, rfl⟩
   obtain ⟨R2, hR2⟩ : ∃ r, putsV 3 l0 lo2 x v = r := ⟨_, rfl⟩
   obtain ⟨sv, hsv⟩ : ∃ r, shV 3 l x = r := ⟨_, rfl⟩
   rw [hR1, hR2, hL] at hpf
   rw [hR1] at hpa
   rw [hR2] at hpa2
   rw [hsv] at hsf
   have HNE := yC.mk (neV (show eqV sv sv = true from (eqV_iff sv sv).2 rfl))
   have HP1 : yC (∀ w', Below W9.heap.size W9 w' → Calls Tryz.prog 11 #[.slice AA l0.length cA, .agg #[.int .i64 x.f0, .int .i64 x.f1, .int .i64 x.f2, .string x.f3, .slice AX x.f4.length cX], .agg #[.slice AL l.length cL, .int .i64 v.f0, .int .i64 v.f1, .string v.f2]] w' fun e w'' => gotOut AL cL l R1 w' w'' e) := ⟨fun w' hb =>
    put_calls l0 l x v _ hpa AA cA AL cL AX cX w' ((HG.out.below HX.out.below).below hb) (Kd.R_reads' RA.out).2.1 (Kd.yI (Kd.R_reads' RA.out).2.2 hb) (Kd.R_reads' RL.out).2.1 (Kd.yI (Kd.R_reads' RL.out).2.2 hb) (Kd.R_reads' RX.out).2.1 (Kd.yI (Kd.R_reads' RX.out).2.2 hb)⟩
   have HP2 : yC (∀ w', Below W9.heap.size W9 w' → Calls Tryz.prog 11 #[.slice AA l0.length cA, .agg #[.int .i64 x.f0, .int .i64 x.f1, .int .i64 x.f2, .string x.f3, .slice AX x.f4.length cX], .agg #[.slice (some ⟨go, 0, none⟩) n cO, .int .i64 v.f0, .int .i64 v.f1, .string v.f2]] w' fun e w'' => gotOut (some ⟨go, 0, none⟩) cO lo2 R2 w' w'' e) := ⟨fun w' hb => by
    have hRO : Kd.R k39 39 W9 W6.heap.size (fun _ => True) (.slice (some ⟨go, 0, none⟩) lo2.length cO) lo2 := by rw [hn2]; exact RO.out
    have h := put_calls l0 lo2 x v _ hpa2 AA cA (some ⟨go, 0, none⟩) cO AX cX w' ((HG.out.below HX.out.below).below hb) (Kd.R_reads' RA.out).2.1 (Kd.yI (Kd.R_reads' RA.out).2.2 hb) (Kd.R_reads' hRO).2.1 (Kd.yI (Kd.R_reads' hRO).2.2 hb) (Kd.R_reads' RX.out).2.1 (Kd.yI (Kd.R_reads' RX.out).2.2 hb)
    rw [hn2] at h
    exact h⟩
   have HS1 : yC (∀ w', Below W9.heap.size W9 w' → Calls Tryz.prog 12 #[.agg #[.int .i64 x.f0, .int .i64 x.f1, .int .i64 x.f2, .string x.f3, .slice AX x.f4.length cX], .slice AL l.length cL] w' fun e w'' => e = .returned (.agg #[.int .i64 sv.f0, .int .i64 sv.f1, .string sv.f2]) ∧ Below w'.heap.size w' w'') := ⟨fun w' hb => by
    have h := xR none 0 0 l 3 x hsh.1
    rw [hsv] at h
    exact Show_calls l x sv AL cL AX cX w' ((HG.out.below HX.out.below).below hb) (Kd.yI (Kd.R_reads' RL.out).2.2 hb) (Kd.R_reads' RX.out).2.1 (Kd.yI (Kd.R_reads' RX.out).2.2 hb) h⟩
   have HS2 : yC (∀ w', Below W9.heap.size W9 w' → Calls Tryz.prog 12 #[.agg #[.int .i64 x.f0, .int .i64 x.f1, .int .i64 x.f2, .string x.f3, .slice AX x.f4.length cX], .slice (some ⟨go, 0, none⟩) n cO] w' fun e w'' => e = .returned (.agg #[.int .i64 sv.f0, .int .i64 sv.f1, .string sv.f2]) ∧ Below w'.heap.size w' w'') := ⟨fun w' hb => by
    have h := xR none 0 0 lo2 3 x hsh2.1
    rw [← hsf] at h
    have hRO : Kd.R k39 39 W9 W6.heap.size (fun _ => True) (.slice (some ⟨go, 0, none⟩) lo2.length cO) lo2 := by rw [hn2]; exact RO.out
    have h2 := Show_calls lo2 x sv (some ⟨go, 0, none⟩) cO AX cX w' ((HG.out.below HX.out.below).below hb) (Kd.yI (Kd.R_reads' hRO).2.2 hb) (Kd.R_reads' RX.out).2.1 (Kd.yI (Kd.R_reads' RX.out).2.2 hb) h
    rw [hn2] at h2
    exact h2⟩
   have HN2 := yC.mk hn2
   have HB9 := yC.mk (Below.refl W9.heap.size W9)
   clear hat hx hll hce hL hz3 hz6 hlo hv100 hrv hag hce2 hl2 hn2 hfit hfit2 hsf hsh hsh2 hpa hpa2 hR1 hR2 hsv
   rcases hpf with ⟨rfl, rfl⟩ | ⟨r, r', rfl, rfl, hfr⟩
   ·skip
    go_upto_region 13 with (fail)
    try simp only [Reg.SF]
    refine Reg.det [Reg.k 57 (.pointer (some ⟨g6, 0, none⟩)), Reg.k 58 (.slice AA l0.length cA), Reg.k 59 (.pointer (some ⟨g6, 1, none⟩)), Reg.k 60 (.agg #[.int .i64 x.f0, .int .i64 x.f1, .int .i64 x.f2, .string x.f3, .slice AX x.f4.length cX]), Reg.k 61 (.pointer (some ⟨g6, 6, none⟩)), Reg.k 62 (.slice AL l.length cL), Reg.k 63 (.agg #[.int .i64 v.f0, .int .i64 v.f1, .string v.f2]), Reg.k 64 (.agg #[.slice AL l.length cL, .int .i64 v.f0, .int .i64 v.f1, .string v.f2]), Reg.k 65 (.agg #[.slice none 0 0, .int .i64 160]), Reg.k 66 (.pointer (some ⟨g6, 0, none⟩)), Reg.k 67 (.slice AA l0.length cA), Reg.k 68 (.pointer (some ⟨g6, 1, none⟩)), Reg.k 69 (.agg #[.int .i64 x.f0, .int .i64 x.f1, .int .i64 x.f2, .string x.f3, .slice AX x.f4.length cX]), Reg.k 70 (.slice (some ⟨go, 0, none⟩) n cO), Reg.k 71 (.agg #[.int .i64 v.f0, .int .i64 v.f1, .string v.f2]), Reg.k 72 (.agg #[.slice (some ⟨go, 0, none⟩) n cO, .int .i64 v.f0, .int .i64 v.f1, .string v.f2]), Reg.k 73 (.agg #[.slice none 0 0, .int .i64 160]), (some 11, Reg.Dv.box 11 36 (fun _ => #[.slice none 0 0, .int .i64 0]) [] true), (some 12, Reg.Dv.box 12 36 (fun _ => #[.slice none 0 0, .int .i64 0]) [] true), (none, Reg.Dv.box 11 36 (fun _ => #[.slice none 0 0, .int .i64 160]) [] false), (none, Reg.Dv.box 12 36 (fun _ => #[.slice none 0 0, .int .i64 160]) [] false)] [(17, 19), (18, 20)] 170 rfl (by kernel_rfl) (by kernel_rfl) ?s12 ?_
    case s12 =>
     intro iq oq pq hiq hoq hpq ρ ev W S hE hO ec ef hB hft hΦ
     have e6 : ev (.tmp 6) = .pointer (some ⟨g6, 0, none⟩) := hO 6 rfl
     have e8 : ev (.tmp 8) = .pointer (some ⟨g8, 0, none⟩) := hO 8 rfl
     have e9 : ev (.tmp 9) = .slice (some ⟨go, 0, none⟩) n cO := hO 9 rfl
     have mg6_0 := HX.pc hB 1 0 (.slice AA l0.length cA) rfl rfl
     have mg6_1 := HX.pc hB 1 1 (.int .i64 x.f0) rfl rfl
     have mg6_2 := HX.pc hB 1 2 (.int .i64 x.f1) rfl rfl
     have mg6_3 := HX.pc hB 1 3 (.int .i64 x.f2) rfl rfl
     have mg6_4 := HX.pc hB 1 4 (.string x.f3) rfl rfl
     have mg6_5 := HX.pc hB 1 5 (.slice AX x.f4.length cX) rfl rfl
     have mg6_6 := HX.pc hB 1 6 (.slice AL l.length cL) rfl rfl
     have mg8_0 := HX.pc hB 0 0 (.int .i64 v.f0) rfl rfl
     have mg8_1 := HX.pc hB 0 1 (.int .i64 v.f1) rfl rfl
     have mg8_2 := HX.pc hB 0 2 (.string v.f2) rfl rfl
     simp only [Reg.SV, val_md, yX, val_vl, yV] at hE
     obtain ⟨e57, e58, e59, e60, e61, e62, e63, e64, e65, e66, e67, e68, e69, e70, e71, e72, e73, e11, e12, _⟩ := hE
     rcases Reg.lt21 hiq with rfl | rfl | rfl | rfl | rfl | rfl | rfl | rfl | rfl | rfl | rfl | rfl | rfl | rfl | rfl | rfl | rfl | rfl | rfl | rfl | rfl
     all_goals (cases hoq; cases hpq)
     rotate_left 20
     ·exact Reg.D.fill 18 36 (.tmp 12) (.tmp 73) hB e12 (by first | assumption | rfl | (simp [*]; done)) (hΦ 18 _ rfl rfl rfl) info36s (by first | rfl | (simp only [Reg.SV]; rfl))
     rotate_right 20
     rotate_left 19
     ·exact Reg.D.fill 17 36 (.tmp 11) (.tmp 65) hB e11 (by first | assumption | rfl | (simp [*]; done)) (hΦ 17 _ rfl rfl rfl) info36s (by first | rfl | (simp only [Reg.SV]; rfl))
     rotate_right 19
     rotate_left 18
     ·refine Reg.D.box hB ?_
      go_simp
      try rfl
     rotate_right 18
     rotate_left 17
     ·refine Reg.D.box hB ?_
      go_simp
      try rfl
     rotate_right 17
     rotate_left 16
     ·refine Reg.D.cc (g := 11) (args := #[.slice AA l0.length cA, .agg #[.int .i64 x.f0, .int .i64 x.f1, .int .i64 x.f2, .string x.f3, .slice AX x.f4.length cX], .agg #[.slice (some ⟨go, 0, none⟩) n cO, .int .i64 v.f0, .int .i64 v.f1, .string v.f2]]) hB (by go_simp; try rfl) ?_
      exact (HP2.out W (yD HB9.out hB)).mono (fun e w' h => ⟨h.2, h.1⟩)
     rotate_right 16
     rotate_left 8
     ·refine Reg.D.cc (g := 11) (args := #[.slice AA l0.length cA, .agg #[.int .i64 x.f0, .int .i64 x.f1, .int .i64 x.f2, .string x.f3, .slice AX x.f4.length cX], .agg #[.slice AL l.length cL, .int .i64 v.f0, .int .i64 v.f1, .string v.f2]]) hB (by go_simp; try rfl) ?_
      exact (HP1.out W (yD HB9.out hB)).mono (fun e w' h => ⟨h.2, h.1⟩)
     rotate_right 8
     all_goals try exact Reg.D.mv hB
     all_goals (refine Reg.D.cv hB ?_; go_simp; try (first | done | rfl | (exact dl) | (simp [dl]; done) | (simp; omega)))
    intro ρ W13 S hB hft hap hΦ
    simp only [Reg.SV, val_md, yX, val_vl, yV, Reg.SF, Nat.reduceAdd]
    obtain ⟨g11, e11, s11, hg11, _, b11⟩ := hΦ 19 _ rfl rfl
    replace e11 : ρ 11 = .pointer (some ⟨g11, 0, none⟩) := e11
    obtain ⟨g12, e12, s12, hg12, _, b12⟩ := hΦ 20 _ rfl rfl
    replace e12 : ρ 12 = .pointer (some ⟨g12, 0, none⟩) := e12
    try simp only [e11, e12]
    replace b11 : W13.heap[g11]? = some (.cells #[.slice none 0 0, .int .i64 160] 36 (0, 0)) := b11
    replace b12 : W13.heap[g12]? = some (.cells #[.slice none 0 0, .int .i64 160] 36 (0, 0)) := b12
    have HX := yC.mk (HX.out.join ((Bxs.one hB hg11 b11).more hg12 b12 (by intro p hp; simp only [List.mem_cons, List.mem_singleton, List.not_mem_nil, or_false] at hp; rcases hp with rfl <;> (intro e; dsimp only at e; subst e; first | exact absurd (hap _ _ _ s11 s12) (by decide)))))
    replace RA := yC.mk (Kd.yJ RA.out hB)
    replace RX := yC.mk (Kd.yJ RX.out hB)
    replace RL := yC.mk (Kd.yJ RL.out hB)
    replace RT := yC.mk (Kd.yJ RT.out hB)
    replace RO := yC.mk (Kd.yJ RO.out hB)
    replace HB6 := yC.mk (yD HB6.out hB)
    replace HB4 := yC.mk (yD HB4.out hB)
    replace HB9 := yC.mk (yD HB9.out hB)
    clear hΦ hft hap 
    go_upto_region 14 with (fail)
    try simp only [Reg.SF]
    refine Reg.det [Reg.k 74 (.pointer (some ⟨g11, 1, none⟩)), Reg.k 75 (.int .i64 160), Reg.k 76 (.pointer (some ⟨g12, 1, none⟩)), Reg.k 77 (.int .i64 160), Reg.k 78 (.bool false), Reg.k 79 (.bool false), Reg.k 80 (.pointer (some ⟨g6, 1, none⟩)), Reg.k 81 (.agg #[.int .i64 x.f0, .int .i64 x.f1, .int .i64 x.f2, .string x.f3, .slice AX x.f4.length cX]), Reg.k 82 (.pointer (some ⟨g6, 6, none⟩)), Reg.k 83 (.slice AL l.length cL), Reg.k 84 (.agg #[.int .i64 sv.f0, .int .i64 sv.f1, .string sv.f2]), Reg.k 85 (.pointer (some ⟨g6, 1, none⟩)), Reg.k 86 (.agg #[.int .i64 x.f0, .int .i64 x.f1, .int .i64 x.f2, .string x.f3, .slice AX x.f4.length cX]), Reg.k 87 (.slice (some ⟨go, 0, none⟩) n cO), Reg.k 88 (.agg #[.int .i64 sv.f0, .int .i64 sv.f1, .string sv.f2]), Reg.k 89 (.bool false), Reg.k 90 (.bool false)] [] 170 rfl (by kernel_rfl) (by kernel_rfl) ?s13 ?_
    case s13 =>
     intro iq oq pq hiq hoq hpq ρ ev W S hE hO ec ef hB hft hΦ
     have e6 : ev (.tmp 6) = .pointer (some ⟨g6, 0, none⟩) := hO 6 rfl
     have e9 : ev (.tmp 9) = .slice (some ⟨go, 0, none⟩) n cO := hO 9 rfl
     have e11 : ev (.tmp 11) = .pointer (some ⟨g11, 0, none⟩) := hO 11 rfl
     have e12 : ev (.tmp 12) = .pointer (some ⟨g12, 0, none⟩) := hO 12 rfl
     have mg11_1 := HX.pc hB 1 1 (.int .i64 160) rfl rfl
     have mg12_1 := HX.pc hB 0 1 (.int .i64 160) rfl rfl
     have mg6_1 := HX.pc hB 3 1 (.int .i64 x.f0) rfl rfl
     have mg6_2 := HX.pc hB 3 2 (.int .i64 x.f1) rfl rfl
     have mg6_3 := HX.pc hB 3 3 (.int .i64 x.f2) rfl rfl
     have mg6_4 := HX.pc hB 3 4 (.string x.f3) rfl rfl
     have mg6_5 := HX.pc hB 3 5 (.slice AX x.f4.length cX) rfl rfl
     have mg6_6 := HX.pc hB 3 6 (.slice AL l.length cL) rfl rfl
     simp only [Reg.SV, val_md, yX, val_vl, yV] at hE
     obtain ⟨e74, e75, e76, e77, e78, e79, e80, e81, e82, e83, e84, e85, e86, e87, e88, e89, e90, _⟩ := hE
     rcases Reg.lt17 hiq with rfl | rfl | rfl | rfl | rfl | rfl | rfl | rfl | rfl | rfl | rfl | rfl | rfl | rfl | rfl | rfl | rfl
     all_goals (cases hoq; cases hpq)
     rotate_left 14
     ·refine Reg.D.cc (g := 12) (args := #[.agg #[.int .i64 x.f0, .int .i64 x.f1, .int .i64 x.f2, .string x.f3, .slice AX x.f4.length cX], .slice (some ⟨go, 0, none⟩) n cO]) hB (by go_simp; try rfl) ?_
      exact HS2.out W (yD HB9.out hB)
     rotate_right 14
     rotate_left 10
     ·refine Reg.D.cc (g := 12) (args := #[.agg #[.int .i64 x.f0, .int .i64 x.f1, .int .i64 x.f2, .string x.f3, .slice AX x.f4.length cX], .slice AL l.length cL]) hB (by go_simp; try rfl) ?_
      exact HS1.out W (yD HB9.out hB)
     rotate_right 10
     all_goals try exact Reg.D.mv hB
     all_goals (refine Reg.D.cv hB ?_; go_simp; try (first | done | rfl | (exact HNE.out.1) | (exact HNE.out.2.1) | (exact HNE.out.2.2) | (rw [HNE.out.2.2]; rfl) | (simp only [HNE.out.2.2]; rfl) | (simp; done)))
    intro ρ W14 S hB hft hap hΦ
    simp only [Reg.SV, val_md, yX, val_vl, yV, Reg.SF, Nat.reduceAdd]
    have HX := HX.cl hB
    replace RA := yC.mk (Kd.yJ RA.out hB)
    replace RX := yC.mk (Kd.yJ RX.out hB)
    replace RL := yC.mk (Kd.yJ RL.out hB)
    replace RT := yC.mk (Kd.yJ RT.out hB)
    replace RO := yC.mk (Kd.yJ RO.out hB)
    replace HB6 := yC.mk (yD HB6.out hB)
    replace HB4 := yC.mk (yD HB4.out hB)
    replace HB9 := yC.mk (yD HB9.out hB)
    clear hΦ hft hap 
    go_upto_region 16 with (fail)
    try simp only [Reg.SF]
    refine Reg.det [Reg.k 91 (.pointer (some ⟨g11, 1, none⟩)), Reg.k 92 (.int .i64 160), Reg.k 93 (.bool true)] [] 170 rfl (by kernel_rfl) (by kernel_rfl) ?s14 ?_
    case s14 =>
     intro iq oq pq hiq hoq hpq ρ ev W S hE hO ec ef hB hft hΦ
     have e11 : ev (.tmp 11) = .pointer (some ⟨g11, 0, none⟩) := hO 11 rfl
     have mg11_1 := HX.pc hB 1 1 (.int .i64 160) rfl rfl
     simp only [Reg.SV, val_md, yX, val_vl, yV] at hE
     obtain ⟨e91, e92, e93, _⟩ := hE
     rcases Reg.lt3 hiq with rfl | rfl | rfl
     all_goals (cases hoq; cases hpq)
     all_goals exact Reg.D.cx hB
    intro ρ W16 S hB hft hap hΦ
    simp only [Reg.SV, val_md, yX, val_vl, yV, Reg.SF, Nat.reduceAdd]
    have HX := HX.cl hB
    replace RA := yC.mk (Kd.yJ RA.out hB)
    replace RX := yC.mk (Kd.yJ RX.out hB)
    replace RL := yC.mk (Kd.yJ RL.out hB)
    replace RT := yC.mk (Kd.yJ RT.out hB)
    replace RO := yC.mk (Kd.yJ RO.out hB)
    replace HB6 := yC.mk (yD HB6.out hB)
    replace HB4 := yC.mk (yD HB4.out hB)
    replace HB9 := yC.mk (yD HB9.out hB)
    clear hΦ hft hap 
    go_upto_region 17 with (fail)
    try simp only [Reg.SF]
    refine Reg.det [Reg.k 94 (.pointer (some ⟨g11, 1, none⟩)), Reg.k 95 (.int .i64 160), Reg.k 96 (.bool true), Reg.k 97 (.bool true), Reg.k 98 (.bool true), Reg.k 99 (.bool true), Reg.k 4 (.bool true)] [] 170 rfl (by kernel_rfl) (by kernel_rfl) ?s15 ?_
    case s15 =>
     intro iq oq pq hiq hoq hpq ρ ev W S hE hO ec ef hB hft hΦ
     have e5 : ev (.tmp 5) = .bool true := hO 5 rfl
     have e11 : ev (.tmp 11) = .pointer (some ⟨g11, 0, none⟩) := hO 11 rfl
     have mg11_1 := HX.pc hB 1 1 (.int .i64 160) rfl rfl
     simp only [Reg.SV, val_md, yX, val_vl, yV] at hE
     obtain ⟨e94, e95, e96, e97, e98, e99, e4, _⟩ := hE
     rcases Reg.lt7 hiq with rfl | rfl | rfl | rfl | rfl | rfl | rfl
     all_goals (cases hoq; cases hpq)
     all_goals try exact Reg.D.mv hB
     all_goals exact Reg.D.cx hB
    intro ρ W17 S hB hft hap hΦ
    simp only [Reg.SV, val_md, yX, val_vl, yV, Reg.SF, Nat.reduceAdd]
    have HX := HX.cl hB
    replace RA := yC.mk (Kd.yJ RA.out hB)
    replace RX := yC.mk (Kd.yJ RX.out hB)
    replace RL := yC.mk (Kd.yJ RL.out hB)
    replace RT := yC.mk (Kd.yJ RT.out hB)
    replace RO := yC.mk (Kd.yJ RO.out hB)
    replace HB6 := yC.mk (yD HB6.out hB)
    replace HB4 := yC.mk (yD HB4.out hB)
    replace HB9 := yC.mk (yD HB9.out hB)
    clear hΦ hft hap 
    go_wp2_with fail
    go_ret
    exact ⟨rfl, HX.out.below⟩
   ·skip
    go_upto_region 13 with (fail)
    try simp only [Reg.SF]
    refine Reg.det [Reg.k 57 (.pointer (some ⟨g6, 0, none⟩)), Reg.k 58 (.slice AA l0.length cA), Reg.k 59 (.pointer (some ⟨g6, 1, none⟩)), Reg.k 60 (.agg #[.int .i64 x.f0, .int .i64 x.f1, .int .i64 x.f2, .string x.f3, .slice AX x.f4.length cX]), Reg.k 61 (.pointer (some ⟨g6, 6, none⟩)), Reg.k 62 (.slice AL l.length cL), Reg.k 63 (.agg #[.int .i64 v.f0, .int .i64 v.f1, .string v.f2]), Reg.k 64 (.agg #[.slice AL l.length cL, .int .i64 v.f0, .int .i64 v.f1, .string v.f2]), (some 65, gotDv 65 AL cL l r), Reg.k 66 (.pointer (some ⟨g6, 0, none⟩)), Reg.k 67 (.slice AA l0.length cA), Reg.k 68 (.pointer (some ⟨g6, 1, none⟩)), Reg.k 69 (.agg #[.int .i64 x.f0, .int .i64 x.f1, .int .i64 x.f2, .string x.f3, .slice AX x.f4.length cX]), Reg.k 70 (.slice (some ⟨go, 0, none⟩) n cO), Reg.k 71 (.agg #[.int .i64 v.f0, .int .i64 v.f1, .string v.f2]), Reg.k 72 (.agg #[.slice (some ⟨go, 0, none⟩) n cO, .int .i64 v.f0, .int .i64 v.f1, .string v.f2]), (some 73, gotDv 73 (some ⟨go, 0, none⟩) cO lo2 r'), (some 11, Reg.Dv.box 11 36 (fun _ => #[.slice none 0 0, .int .i64 0]) [] true), (some 12, Reg.Dv.box 12 36 (fun _ => #[.slice none 0 0, .int .i64 0]) [] true), (none, Reg.Dv.box 11 36 (fun l => (l.headD undef).cells) [65] false), (none, Reg.Dv.box 12 36 (fun l => (l.headD undef).cells) [73] false)] [(17, 19), (18, 20)] 170 rfl (by kernel_rfl) (by kernel_rfl) ?s16 ?_
    case s16 =>
     intro iq oq pq hiq hoq hpq ρ ev W S hE hO ec ef hB hft hΦ
     have e6 : ev (.tmp 6) = .pointer (some ⟨g6, 0, none⟩) := hO 6 rfl
     have e8 : ev (.tmp 8) = .pointer (some ⟨g8, 0, none⟩) := hO 8 rfl
     have e9 : ev (.tmp 9) = .slice (some ⟨go, 0, none⟩) n cO := hO 9 rfl
     have mg6_0 := HX.pc hB 1 0 (.slice AA l0.length cA) rfl rfl
     have mg6_1 := HX.pc hB 1 1 (.int .i64 x.f0) rfl rfl
     have mg6_2 := HX.pc hB 1 2 (.int .i64 x.f1) rfl rfl
     have mg6_3 := HX.pc hB 1 3 (.int .i64 x.f2) rfl rfl
     have mg6_4 := HX.pc hB 1 4 (.string x.f3) rfl rfl
     have mg6_5 := HX.pc hB 1 5 (.slice AX x.f4.length cX) rfl rfl
     have mg6_6 := HX.pc hB 1 6 (.slice AL l.length cL) rfl rfl
     have mg8_0 := HX.pc hB 0 0 (.int .i64 v.f0) rfl rfl
     have mg8_1 := HX.pc hB 0 1 (.int .i64 v.f1) rfl rfl
     have mg8_2 := HX.pc hB 0 2 (.string v.f2) rfl rfl
     simp only [Reg.SV, val_md, yX, val_vl, yV] at hE
     obtain ⟨e57, e58, e59, e60, e61, e62, e63, e64, e65, e66, e67, e68, e69, e70, e71, e72, e73, e11, e12, _⟩ := hE
     rcases Reg.lt21 hiq with rfl | rfl | rfl | rfl | rfl | rfl | rfl | rfl | rfl | rfl | rfl | rfl | rfl | rfl | rfl | rfl | rfl | rfl | rfl | rfl | rfl
     all_goals (cases hoq; cases hpq)
     rotate_left 20
     ·obtain ⟨A73, c73, h73, _⟩ := hΦ 16 _ rfl rfl rfl
      replace h73 : ρ 73 = .agg #[.slice A73 r'.length c73, .int .i64 0] := h73
      exact Reg.DStep.fill (us := [73]) (cs := fun l => (l.headD undef).cells) 18 (by decide) 36 (.tmp 12) (.tmp 73) rfl (by first | exact .inl rfl | exact .inr ⟨_, _, _, rfl, rfl, (by assumption)⟩) hB e12 (by rw [e73]; show ρ 73 = .agg (Value.cells (ρ 73)); rw [h73]; rfl) (hΦ 18 _ rfl rfl rfl) (by show _ = some (Value.cells (ρ 73)).size; rw [h73]; exact info36s) (by show _ = (Value.cells (ρ 73)).size; rw [h73]; rfl) (by show ((Value.cells (ρ 73)).toList.all _) = true; rw [h73]; rfl)
     rotate_right 20
     rotate_left 19
     ·obtain ⟨A65, c65, h65, _⟩ := hΦ 8 _ rfl rfl rfl
      replace h65 : ρ 65 = .agg #[.slice A65 r.length c65, .int .i64 0] := h65
      exact Reg.DStep.fill (us := [65]) (cs := fun l => (l.headD undef).cells) 17 (by decide) 36 (.tmp 11) (.tmp 65) rfl (by first | exact .inl rfl | exact .inr ⟨_, _, _, rfl, rfl, (by assumption)⟩) hB e11 (by rw [e65]; show ρ 65 = .agg (Value.cells (ρ 65)); rw [h65]; rfl) (hΦ 17 _ rfl rfl rfl) (by show _ = some (Value.cells (ρ 65)).size; rw [h65]; exact info36s) (by show _ = (Value.cells (ρ 65)).size; rw [h65]; rfl) (by show ((Value.cells (ρ 65)).toList.all _) = true; rw [h65]; rfl)
     rotate_right 19
     rotate_left 18
     ·refine Reg.D.box hB ?_
      go_simp
      try rfl
     rotate_right 18
     rotate_left 17
     ·refine Reg.D.box hB ?_
      go_simp
      try rfl
     rotate_right 17
     rotate_left 16
     ·refine Reg.D.call (g := 11) (args := #[.slice AA l0.length cA, .agg #[.int .i64 x.f0, .int .i64 x.f1, .int .i64 x.f2, .string x.f3, .slice AX x.f4.length cX], .agg #[.slice (some ⟨go, 0, none⟩) n cO, .int .i64 v.f0, .int .i64 v.f1, .string v.f2]]) (by go_simp; try rfl) ?_
      exact got_step hB (HP2.out W (yD HB9.out hB))
     rotate_right 16
     rotate_left 8
     ·refine Reg.D.call (g := 11) (args := #[.slice AA l0.length cA, .agg #[.int .i64 x.f0, .int .i64 x.f1, .int .i64 x.f2, .string x.f3, .slice AX x.f4.length cX], .agg #[.slice AL l.length cL, .int .i64 v.f0, .int .i64 v.f1, .string v.f2]]) (by go_simp; try rfl) ?_
      exact got_step hB (HP1.out W (yD HB9.out hB))
     rotate_right 8
     all_goals try exact Reg.D.mv hB
     all_goals (refine Reg.D.cv hB ?_; go_simp; try (first | done | rfl | (exact dl) | (simp [dl]; done) | (simp; omega)))
    intro ρ W13 S hB hft hap hΦ
    simp only [Reg.SV, val_md, yX, val_vl, yV, Reg.SF, Nat.reduceAdd]
    obtain ⟨A65, c65, e65, q65⟩ := hΦ 8 _ rfl rfl
    replace e65 : ρ 65 = .agg #[.slice A65 r.length c65, .int .i64 0] := e65
    have HR65 : yC (Row2 AL cL l W13 w.heap.size A65 c65 r) := ⟨q65.imp id (fun h => Kd.xE (Kd.xJ h HX.out.below.size) (fun _ _ => trivial))⟩
    obtain ⟨A73, c73, e73, q73⟩ := hΦ 16 _ rfl rfl
    replace e73 : ρ 73 = .agg #[.slice A73 r'.length c73, .int .i64 0] := e73
    have HR73 : yC (Row2 (some ⟨go, 0, none⟩) cO lo2 W13 w.heap.size A73 c73 r') := ⟨q73.imp id (fun h => Kd.xE (Kd.xJ h HX.out.below.size) (fun _ _ => trivial))⟩
    obtain ⟨g11, e11, s11, hg11, _, b11⟩ := hΦ 19 _ rfl rfl
    replace e11 : ρ 11 = .pointer (some ⟨g11, 0, none⟩) := e11
    obtain ⟨g12, e12, s12, hg12, _, b12⟩ := hΦ 20 _ rfl rfl
    replace e12 : ρ 12 = .pointer (some ⟨g12, 0, none⟩) := e12
    replace b11 : W13.heap[g11]? = some (.cells (Value.cells (ρ 65)) 36 (0, 0)) := b11
    rw [e65] at b11
    replace b12 : W13.heap[g12]? = some (.cells (Value.cells (ρ 73)) 36 (0, 0)) := b12
    rw [e73] at b12
    try simp only [e65, e73, e11, e12]
    replace b11 : W13.heap[g11]? = some (.cells #[.slice A65 r.length c65, .int .i64 0] 36 (0, 0)) := b11
    replace b12 : W13.heap[g12]? = some (.cells #[.slice A73 r'.length c73, .int .i64 0] 36 (0, 0)) := b12
    have HX := yC.mk (HX.out.join ((Bxs.one hB hg11 b11).more hg12 b12 (by intro p hp; simp only [List.mem_cons, List.mem_singleton, List.not_mem_nil, or_false] at hp; rcases hp with rfl <;> (intro e; dsimp only at e; subst e; first | exact absurd (hap _ _ _ s11 s12) (by decide)))))
    replace RA := yC.mk (Kd.yJ RA.out hB)
    replace RX := yC.mk (Kd.yJ RX.out hB)
    replace RL := yC.mk (Kd.yJ RL.out hB)
    replace RT := yC.mk (Kd.yJ RT.out hB)
    replace RO := yC.mk (Kd.yJ RO.out hB)
    replace HB6 := yC.mk (yD HB6.out hB)
    replace HB4 := yC.mk (yD HB4.out hB)
    replace HB9 := yC.mk (yD HB9.out hB)
    clear hΦ hft hap 
    have HLN : yC (r.length = n ∧ r'.length = n ∧ l.length = n ∧ lo2.length = n) := ⟨hfr.1.trans HN8.out.2.2.1, hfr.2.1.trans HN2.out, HN8.out.2.2.1, HN2.out⟩
    have HFR := yC.mk hfr
    clear hfr
    go_upto_region 14 with (fail)
    try simp only [Reg.SF]
    refine Reg.det [Reg.k 74 (.pointer (some ⟨g11, 1, none⟩)), Reg.k 75 (.int .i64 0), Reg.k 76 (.pointer (some ⟨g12, 1, none⟩)), Reg.k 77 (.int .i64 0), Reg.k 78 (.bool false), Reg.k 79 (.bool false), Reg.k 80 (.pointer (some ⟨g6, 1, none⟩)), Reg.k 81 (.agg #[.int .i64 x.f0, .int .i64 x.f1, .int .i64 x.f2, .string x.f3, .slice AX x.f4.length cX]), Reg.k 82 (.pointer (some ⟨g6, 6, none⟩)), Reg.k 83 (.slice AL l.length cL), Reg.k 84 (.agg #[.int .i64 sv.f0, .int .i64 sv.f1, .string sv.f2]), Reg.k 85 (.pointer (some ⟨g6, 1, none⟩)), Reg.k 86 (.agg #[.int .i64 x.f0, .int .i64 x.f1, .int .i64 x.f2, .string x.f3, .slice AX x.f4.length cX]), Reg.k 87 (.slice (some ⟨go, 0, none⟩) n cO), Reg.k 88 (.agg #[.int .i64 sv.f0, .int .i64 sv.f1, .string sv.f2]), Reg.k 89 (.bool false), Reg.k 90 (.bool false)] [] 170 rfl (by kernel_rfl) (by kernel_rfl) ?s17 ?_
    case s17 =>
     intro iq oq pq hiq hoq hpq ρ ev W S hE hO ec ef hB hft hΦ
     have e6 : ev (.tmp 6) = .pointer (some ⟨g6, 0, none⟩) := hO 6 rfl
     have e9 : ev (.tmp 9) = .slice (some ⟨go, 0, none⟩) n cO := hO 9 rfl
     have e11 : ev (.tmp 11) = .pointer (some ⟨g11, 0, none⟩) := hO 11 rfl
     have e12 : ev (.tmp 12) = .pointer (some ⟨g12, 0, none⟩) := hO 12 rfl
     have mg11_1 := HX.pc hB 1 1 (.int .i64 0) rfl rfl
     have mg12_1 := HX.pc hB 0 1 (.int .i64 0) rfl rfl
     have mg6_1 := HX.pc hB 3 1 (.int .i64 x.f0) rfl rfl
     have mg6_2 := HX.pc hB 3 2 (.int .i64 x.f1) rfl rfl
     have mg6_3 := HX.pc hB 3 3 (.int .i64 x.f2) rfl rfl
     have mg6_4 := HX.pc hB 3 4 (.string x.f3) rfl rfl
     have mg6_5 := HX.pc hB 3 5 (.slice AX x.f4.length cX) rfl rfl
     have mg6_6 := HX.pc hB 3 6 (.slice AL l.length cL) rfl rfl
     simp only [Reg.SV, val_md, yX, val_vl, yV] at hE
     obtain ⟨e74, e75, e76, e77, e78, e79, e80, e81, e82, e83, e84, e85, e86, e87, e88, e89, e90, _⟩ := hE
     rcases Reg.lt17 hiq with rfl | rfl | rfl | rfl | rfl | rfl | rfl | rfl | rfl | rfl | rfl | rfl | rfl | rfl | rfl | rfl | rfl
     all_goals (cases hoq; cases hpq)
     rotate_left 14
     ·refine Reg.D.cc (g := 12) (args := #[.agg #[.int .i64 x.f0, .int .i64 x.f1, .int .i64 x.f2, .string x.f3, .slice AX x.f4.length cX], .slice (some ⟨go, 0, none⟩) n cO]) hB (by go_simp; try rfl) ?_
      exact HS2.out W (yD HB9.out hB)
     rotate_right 14
     rotate_left 10
     ·refine Reg.D.cc (g := 12) (args := #[.agg #[.int .i64 x.f0, .int .i64 x.f1, .int .i64 x.f2, .string x.f3, .slice AX x.f4.length cX], .slice AL l.length cL]) hB (by go_simp; try rfl) ?_
      exact HS1.out W (yD HB9.out hB)
     rotate_right 10
     all_goals try exact Reg.D.mv hB
     all_goals (refine Reg.D.cv hB ?_; go_simp; try (first | done | rfl | (exact HNE.out.1) | (exact HNE.out.2.1) | (exact HNE.out.2.2) | (rw [HNE.out.2.2]; rfl) | (simp only [HNE.out.2.2]; rfl) | (simp; done)))
    intro ρ W14 S hB hft hap hΦ
    simp only [Reg.SV, val_md, yX, val_vl, yV, Reg.SF, Nat.reduceAdd]
    have HX := HX.cl hB
    replace RA := yC.mk (Kd.yJ RA.out hB)
    replace RX := yC.mk (Kd.yJ RX.out hB)
    replace RL := yC.mk (Kd.yJ RL.out hB)
    replace RT := yC.mk (Kd.yJ RT.out hB)
    replace RO := yC.mk (Kd.yJ RO.out hB)
    replace HB6 := yC.mk (yD HB6.out hB)
    replace HB4 := yC.mk (yD HB4.out hB)
    replace HB9 := yC.mk (yD HB9.out hB)
    replace HR65 := yC.mk (Row2.below HR65.out hB)
    replace HR73 := yC.mk (Row2.below HR73.out hB)
    clear hΦ hft hap 
    go_upto_region 16 with (fail)
    try simp only [Reg.SF]
    refine Reg.det [Reg.k 91 (.pointer (some ⟨g11, 1, none⟩)), Reg.k 92 (.int .i64 0), Reg.k 93 (.bool false)] [] 170 rfl (by kernel_rfl) (by kernel_rfl) ?s18 ?_
    case s18 =>
     intro iq oq pq hiq hoq hpq ρ ev W S hE hO ec ef hB hft hΦ
     have e11 : ev (.tmp 11) = .pointer (some ⟨g11, 0, none⟩) := hO 11 rfl
     have mg11_1 := HX.pc hB 1 1 (.int .i64 0) rfl rfl
     simp only [Reg.SV, val_md, yX, val_vl, yV] at hE
     obtain ⟨e91, e92, e93, _⟩ := hE
     rcases Reg.lt3 hiq with rfl | rfl | rfl
     all_goals (cases hoq; cases hpq)
     all_goals exact Reg.D.cx hB
    intro ρ W16 S hB hft hap hΦ
    simp only [Reg.SV, val_md, yX, val_vl, yV, Reg.SF, Nat.reduceAdd]
    have HX := HX.cl hB
    replace RA := yC.mk (Kd.yJ RA.out hB)
    replace RX := yC.mk (Kd.yJ RX.out hB)
    replace RL := yC.mk (Kd.yJ RL.out hB)
    replace RT := yC.mk (Kd.yJ RT.out hB)
    replace RO := yC.mk (Kd.yJ RO.out hB)
    replace HB6 := yC.mk (yD HB6.out hB)
    replace HB4 := yC.mk (yD HB4.out hB)
    replace HB9 := yC.mk (yD HB9.out hB)
    replace HR65 := yC.mk (Row2.below HR65.out hB)
    replace HR73 := yC.mk (Row2.below HR73.out hB)
    clear hΦ hft hap 
    go_upto_region 18 with (fail)
    try simp only [Reg.SF]
    refine Reg.det [Reg.k 100 (.pointer (some ⟨g11, 0, none⟩)), Reg.k 101 (.slice A65 r.length c65), Reg.k 102 (.int .i64 r.length), Reg.k 103 (.pointer (some ⟨g6, 6, none⟩)), Reg.k 104 (.slice AL l.length cL), Reg.k 105 (.int .i64 l.length), Reg.k 106 (.bool false), Reg.k 107 (.bool false), Reg.k 108 (.pointer (some ⟨g12, 0, none⟩)), Reg.k 109 (.slice A73 r'.length c73), Reg.k 110 (.int .i64 r'.length), Reg.k 111 (.pointer (some ⟨g6, 6, none⟩)), Reg.k 112 (.slice AL l.length cL), Reg.k 113 (.int .i64 l.length), Reg.k 114 (.bool false), Reg.k 115 (.bool false)] [] 170 rfl (by kernel_rfl) (by kernel_rfl) ?s19 ?_
    case s19 =>
     intro iq oq pq hiq hoq hpq ρ ev W S hE hO ec ef hB hft hΦ
     have e6 : ev (.tmp 6) = .pointer (some ⟨g6, 0, none⟩) := hO 6 rfl
     have e11 : ev (.tmp 11) = .pointer (some ⟨g11, 0, none⟩) := hO 11 rfl
     have e12 : ev (.tmp 12) = .pointer (some ⟨g12, 0, none⟩) := hO 12 rfl
     have mg11_0 := HX.pc hB 1 0 (.slice A65 r.length c65) rfl rfl
     have mg6_6 := HX.pc hB 3 6 (.slice AL l.length cL) rfl rfl
     have mg12_0 := HX.pc hB 0 0 (.slice A73 r'.length c73) rfl rfl
     simp only [Reg.SV, val_md, yX, val_vl, yV] at hE
     obtain ⟨e100, e101, e102, e103, e104, e105, e106, e107, e108, e109, e110, e111, e112, e113, e114, e115, _⟩ := hE
     rcases Reg.lt16 hiq with rfl | rfl | rfl | rfl | rfl | rfl | rfl | rfl | rfl | rfl | rfl | rfl | rfl | rfl | rfl | rfl
     all_goals (cases hoq; cases hpq)
     all_goals try exact Reg.D.mv hB
     all_goals (refine Reg.D.cv hB ?_; go_simp; try (first | done | rfl | (simp [HLN.out.1, HLN.out.2.2.1]; done) | (simp [HLN.out.2.1, HLN.out.2.2.1]; done)))
    intro ρ W18 S hB hft hap hΦ
    simp only [Reg.SV, val_md, yX, val_vl, yV, Reg.SF, Nat.reduceAdd]
    have HX := HX.cl hB
    replace RA := yC.mk (Kd.yJ RA.out hB)
    replace RX := yC.mk (Kd.yJ RX.out hB)
    replace RL := yC.mk (Kd.yJ RL.out hB)
    replace RT := yC.mk (Kd.yJ RT.out hB)
    replace RO := yC.mk (Kd.yJ RO.out hB)
    replace HB6 := yC.mk (yD HB6.out hB)
    replace HB4 := yC.mk (yD HB4.out hB)
    replace HB9 := yC.mk (yD HB9.out hB)
    replace HR65 := yC.mk (Row2.below HR65.out hB)
    replace HR73 := yC.mk (Row2.below HR73.out hB)
    clear hΦ hft hap 
    have HXa := HX
    have RLa := RL
    have RTa := RT
    have ROa := RO
    have HRa := HR65
    have HRb := HR73
    clear HX RL RT RO HR65 HR73 HB4 HB6 HB9 RA RX
    go_wp2_with fail
    go_loopg [13] n (fun kq v13 w' => ∃ i : Nat, v13 = .int .i64 (i : Int) ∧ yC (kq + i = n) ∧ yC (Below W18.heap.size W18 w'))
    case atStart => exact ⟨0, rfl, ⟨rfl⟩, ⟨Below.refl _ _⟩⟩
    case round =>
     obtain ⟨i, rfl, HKQ, HBl⟩ := hrel
     have HX := yC.mk (HXa.out.call HBl.out)
     have RL := yC.mk (Kd.yJ RLa.out HBl.out)
     have RT := yC.mk (Kd.yJ RTa.out HBl.out)
     have RO := yC.mk (Kd.yJ ROa.out HBl.out)
     have HR65 := yC.mk (HRa.out.below HBl.out)
     have HR73 := yC.mk (HRb.out.below HBl.out)
     clear HXa RLa RTa ROa HRa HRb
     have hn8 := HN8.out.2.1
     have w2 : IntKind.i64.wrap ((i : Int) + 1) = (i : Int) + 1 := by have := HKQ.out; rw [IntKind.wrap_i64]; omega
     by_cases hi : i < n
     ·have dl : decide ((i : Int) < (l.length : Int)) = true := decide_eq_true (by have := HLN.out.2.2.1; omega)
      have hdl : i < l.length := by have := HLN.out.2.2.1; omega
      go_upto_region 21 with (fail)
      try simp only [Reg.SF]
      refine Reg.det [Reg.k 116 (.int .i64 (i : Int)), Reg.k 117 (.pointer (some ⟨g6, 6, none⟩)), Reg.k 118 (.slice AL l.length cL), Reg.k 119 (.int .i64 l.length), Reg.k 120 (.bool true)] [] 170 rfl (by kernel_rfl) (by kernel_rfl) ?s20 ?_
      case s20 =>
       intro iq oq pq hiq hoq hpq ρ ev W S hE hO ec ef hB hft hΦ
       have e6 : ev (.tmp 6) = .pointer (some ⟨g6, 0, none⟩) := hO 6 rfl
       have e13 : ev (.tmp 13) = .int .i64 (i : Int) := hO 13 rfl
       have mg6_6 := HX.pc hB 3 6 (.slice AL l.length cL) rfl rfl
       simp only [Reg.SV, val_md, yX, val_vl, yV] at hE
       obtain ⟨e116, e117, e118, e119, e120, _⟩ := hE
       rcases Reg.lt5 hiq with rfl | rfl | rfl | rfl | rfl
       all_goals (cases hoq; cases hpq)
       all_goals try exact Reg.D.mv hB
       all_goals (refine Reg.D.cv hB ?_; go_simp; try (first | done | rfl | (exact dl) | (simp [dl]; done) | (simp; omega)))
      intro ρ W21 S hB hft hap hΦ
      simp only [Reg.SV, val_md, yX, val_vl, yV, Reg.SF, Nat.reduceAdd]
      have HX := HX.cl hB
      replace RL := yC.mk (Kd.yJ RL.out hB)
      replace RT := yC.mk (Kd.yJ RT.out hB)
      replace RO := yC.mk (Kd.yJ RO.out hB)
      replace HR65 := yC.mk (Row2.below HR65.out hB)
      replace HR73 := yC.mk (Row2.below HR73.out hB)
      replace HBl := yC.mk (yD HBl.out hB)
      clear hΦ hft hap 
      obtain ⟨cb, hcb⟩ : ∃ b, decide ((i : Int) ∈ L) = b := ⟨_, rfl⟩
      have HCB := yC.mk hcb
      clear hcb dl
      go_upto_region 23 with (fail)
      try simp only [Reg.SF]
      refine Reg.det [Reg.k 123 (.slice A22 (L).length c22), Reg.k 124 (.int .i64 (i : Int)), Reg.k 125 (.bool cb), Reg.k 14 (.bool cb)] [] 170 rfl (by kernel_rfl) (by kernel_rfl) ?s21 ?_
      case s21 =>
       intro iq oq pq hiq hoq hpq ρ ev W S hE hO ec ef hB hft hΦ
       have e7 : ev (.tmp 7) = .slice A22 (L).length c22 := hO 7 rfl
       have e13 : ev (.tmp 13) = .int .i64 (i : Int) := hO 13 rfl
       simp only [Reg.SV, val_md, yX, val_vl, yV] at hE
       obtain ⟨e123, e124, e125, e14, _⟩ := hE
       rcases Reg.lt4 hiq with rfl | rfl | rfl | rfl
       all_goals (cases hoq; cases hpq)
       rotate_left 2
       ·refine Reg.D.cc (g := 19) (args := #[.slice A22 (L).length c22, .int .i64 (i : Int)]) hB (by go_simp; try rfl) ?_
        exact by have h := HIn.out _ _ i W (by omega) (Kd.R_reads' RT.out).2.1 (Kd.yI (Kd.R_reads' RT.out).2.2 hB); rw [HCB.out] at h; exact h
       rotate_right 2
       all_goals try exact Reg.D.mv hB
       all_goals exact Reg.D.cx hB
      intro ρ W23 S hB hft hap hΦ
      simp only [Reg.SV, val_md, yX, val_vl, yV, Reg.SF, Nat.reduceAdd]
      have HX := HX.cl hB
      replace RL := yC.mk (Kd.yJ RL.out hB)
      replace RT := yC.mk (Kd.yJ RT.out hB)
      replace RO := yC.mk (Kd.yJ RO.out hB)
      replace HR65 := yC.mk (Row2.below HR65.out hB)
      replace HR73 := yC.mk (Row2.below HR73.out hB)
      replace HBl := yC.mk (yD HBl.out hB)
      clear hΦ hft hap 
      cases cb with
      | true =>
       have hRO : Kd.R k39 39 W23 W6.heap.size (fun _ => True) (.slice (some ⟨go, 0, none⟩) lo2.length cO) lo2 := by rw [HN2.out]; exact RO.out
       obtain ⟨_, hcO, hCO⟩ := Kd.R_reads' hRO
       obtain ⟨u, hu_⟩ : ∃ u, yP r (i : Int) = u := ⟨_, rfl⟩
       have hu2_ : yP r' (i : Int) = u := by rw [← HFR.out.2.2.1 _ (of_decide_eq_true HCB.out)]; exact hu_
       obtain ⟨aa, eaa, qa0, qa1, qa2⟩ := at_T39 ((HR65.out.has (Kd.R_reads' RL.out).2.1 (Kd.R_reads' RL.out).2.2).2) (i : Int) (by omega) (by have := HLN.out; omega)
       rw [hu_, Int.toNat_natCast] at qa0 qa1 qa2
       obtain ⟨qa, hqa⟩ : ∃ q, aa.add (i * 3) = q := ⟨_, rfl⟩
       rw [hqa] at qa0 qa1 qa2
       obtain ⟨ab, eab, qb0, qb1, qb2⟩ := at_T39 ((HR73.out.has hcO hCO).2) (i : Int) (by omega) (by have := HLN.out; omega)
       rw [hu2_, Int.toNat_natCast] at qb0 qb1 qb2
       obtain ⟨qb, hqb⟩ : ∃ q, ab.add (i * 3) = q := ⟨_, rfl⟩
       rw [hqb] at qb0 qb1 qb2
       have HNU := yC.mk (neV (show eqV u u = true from (eqV_iff u u).2 rfl))
       clear hu_ hu2_ hRO hcO hCO
       subst eaa
       subst eab
       go_upto_region 24 with (fail)
       try simp only [Reg.SF]
       refine Reg.det [Reg.k 126 (.bool true), Reg.k 127 (.bool true), Reg.k 128 (.pointer (some ⟨g11, 0, none⟩)), Reg.k 129 (.slice (some aa) r.length c65), Reg.k 130 (.int .i64 (i : Int)), Reg.k 131 (.pointer (some qa)), Reg.k 132 (.agg #[.int .i64 u.f0, .int .i64 u.f1, .string u.f2]), Reg.k 133 (.pointer (some ⟨g12, 0, none⟩)), Reg.k 134 (.slice (some ab) r'.length c73), Reg.k 135 (.int .i64 (i : Int)), Reg.k 136 (.pointer (some qb)), Reg.k 137 (.agg #[.int .i64 u.f0, .int .i64 u.f1, .string u.f2]), Reg.k 138 (.bool false), Reg.k 139 (.bool false), Reg.k 140 (.bool false), Reg.k 141 (.bool true), Reg.k 142 (.bool false), Reg.k 143 (.bool false), Reg.u 144, Reg.u 145, Reg.u 146, Reg.u 147, Reg.u 148, Reg.u 149, Reg.u 150, Reg.u 151, Reg.u 152, Reg.u 153, Reg.u 154, Reg.u 155, Reg.u 156, Reg.u 157, Reg.u 158, Reg.u 159, Reg.u 160, Reg.u 161, Reg.u 162, Reg.u 163, Reg.u 164, Reg.u 165, Reg.u 166, Reg.k 167 (.bool false), Reg.k 168 (.bool false)] [] 170 rfl (by kernel_rfl) (by kernel_rfl) ?s22 ?_
       case s22 =>
        intro iq oq pq hiq hoq hpq ρ ev W S hE hO ec ef hB hft hΦ
        have e6 : ev (.tmp 6) = .pointer (some ⟨g6, 0, none⟩) := hO 6 rfl
        have e9 : ev (.tmp 9) = .slice (some ⟨go, 0, none⟩) n cO := hO 9 rfl
        have e11 : ev (.tmp 11) = .pointer (some ⟨g11, 0, none⟩) := hO 11 rfl
        have e12 : ev (.tmp 12) = .pointer (some ⟨g12, 0, none⟩) := hO 12 rfl
        have e13 : ev (.tmp 13) = .int .i64 (i : Int) := hO 13 rfl
        have e14 : ev (.tmp 14) = .bool true := hO 14 rfl
        have mg11_0 := HX.pc hB 1 0 (.slice (some aa) r.length c65) rfl rfl
        have mg12_0 := HX.pc hB 0 0 (.slice (some ab) r'.length c73) rfl rfl
        have qa0' := yB hB qa0
        have qa1' := yB hB qa1
        have qa2' := yB hB qa2
        have qb0' := yB hB qb0
        have qb1' := yB hB qb1
        have qb2' := yB hB qb2
        simp only [Reg.SV, val_md, yX, val_vl, yV] at hE
        obtain ⟨e126, e127, e128, e129, e130, e131, e132, e133, e134, e135, e136, e137, e138, e139, e140, e141, e142, e143, e144, e145, e146, e147, e148, e149, e150, e151, e152, e153, e154, e155, e156, e157, e158, e159, e160, e161, e162, e163, e164, e165, e166, e167, e168, _⟩ := hE
        rcases Reg.lt43 hiq with rfl | rfl | rfl | rfl | rfl | rfl | rfl | rfl | rfl | rfl | rfl | rfl | rfl | rfl | rfl | rfl | rfl | rfl | rfl | rfl | rfl | rfl | rfl | rfl | rfl | rfl | rfl | rfl | rfl | rfl | rfl | rfl | rfl | rfl | rfl | rfl | rfl | rfl | rfl | rfl | rfl | rfl | rfl
        all_goals (cases hoq; cases hpq)
        all_goals (first | exact Reg.D.sk hB | skip)
        all_goals try exact Reg.D.mv hB
        all_goals (refine Reg.D.cv hB ?_; go_simp; try (first | done | rfl | (intro h_; exfalso; have := HLN.out; omega) | (rw [if_pos (by have := HLN.out; omega)]; simp [hqa]; done) | (rw [if_pos (by have := HLN.out; omega)]; simp [hqb]; done) | (rw [← hqa]; rfl) | (rw [← hqb]; rfl) | (obtain ⟨hlr, hlr2, hll, hlo2⟩ := HLN.out; simp [hqa, hlr, hlr2, hll, hlo2, hi]; done) | (obtain ⟨hlr, hlr2, hll, hlo2⟩ := HLN.out; simp [hqb, hlr, hlr2, hll, hlo2, hi]; done) | (exact HNU.out.1) | (exact HNU.out.2.1) | (exact HNU.out.2.2) | (simp only [HNU.out.2.2]; rfl) | (simp; done)))
       intro ρ W24 S hB hft hap hΦ
       simp only [Reg.SV, val_md, yX, val_vl, yV, Reg.SF, Nat.reduceAdd]
       have HX := HX.cl hB
       replace RL := yC.mk (Kd.yJ RL.out hB)
       replace RT := yC.mk (Kd.yJ RT.out hB)
       replace RO := yC.mk (Kd.yJ RO.out hB)
       replace HR65 := yC.mk (Row2.below HR65.out hB)
       replace HR73 := yC.mk (Row2.below HR73.out hB)
       replace HBl := yC.mk (yD HBl.out hB)
       clear hΦ hft hap 
       go_wp2_with fail
       cases gk with
       | zero => exact absurd HKQ.out (by omega)
       | succ gk1 =>
       go_roundg gk1
       case measure => omega
       case rel => exact ⟨i + 1, by simp, ⟨by have := HKQ.out; omega⟩, HBl⟩
      | false =>
       have hRO : Kd.R k39 39 W23 W6.heap.size (fun _ => True) (.slice (some ⟨go, 0, none⟩) lo2.length cO) lo2 := by rw [HN2.out]; exact RO.out
       obtain ⟨_, hcO, hCO⟩ := Kd.R_reads' hRO
       have hfr := HFR.out.2.2.2 i (of_decide_eq_false HCB.out)
       obtain ⟨u, hu_⟩ : ∃ u, yP l (i : Int) = u := ⟨_, rfl⟩
       obtain ⟨t, ht_⟩ : ∃ t, yP lo2 (i : Int) = t := ⟨_, rfl⟩
       have hu2_ := hfr.1.trans hu_
       have ht2_ := hfr.2.trans ht_
       obtain ⟨aa, eaa, qa0, qa1, qa2⟩ := at_T39 ((HR65.out.has (Kd.R_reads' RL.out).2.1 (Kd.R_reads' RL.out).2.2).2) (i : Int) (by omega) (by have := HLN.out; omega)
       rw [hu2_, Int.toNat_natCast] at qa0 qa1 qa2
       obtain ⟨qa, hqa⟩ : ∃ q, aa.add (i * 3) = q := ⟨_, rfl⟩
       rw [hqa] at qa0 qa1 qa2
       obtain ⟨ac, eac, qc0, qc1, qc2⟩ := at_T39 ((Kd.R_reads' RL.out).2.2) (i : Int) (by omega) (by have := HLN.out; omega)
       rw [hu_, Int.toNat_natCast] at qc0 qc1 qc2
       obtain ⟨qc, hqc⟩ : ∃ q, ac.add (i * 3) = q := ⟨_, rfl⟩
       rw [hqc] at qc0 qc1 qc2
       obtain ⟨ab, eab, qb0, qb1, qb2⟩ := at_T39 ((HR73.out.has hcO hCO).2) (i : Int) (by omega) (by have := HLN.out; omega)
       rw [ht2_, Int.toNat_natCast] at qb0 qb1 qb2
       obtain ⟨qb, hqb⟩ : ∃ q, ab.add (i * 3) = q := ⟨_, rfl⟩
       rw [hqb] at qb0 qb1 qb2
       obtain ⟨ad, ead, qd0, qd1, qd2⟩ := at_T39 (hCO) (i : Int) (by omega) (by have := HLN.out; omega)
       rw [ht_, Int.toNat_natCast] at qd0 qd1 qd2
       obtain ⟨qd, hqd⟩ : ∃ q, ad.add (i * 3) = q := ⟨_, rfl⟩
       rw [hqd] at qd0 qd1 qd2
       clear hfr ht_ ht2_
       have HNU := yC.mk (neV (show eqV u u = true from (eqV_iff u u).2 rfl))
       have HNT := yC.mk (neV (show eqV t t = true from (eqV_iff t t).2 rfl))
       clear hu_ hu2_ hRO hcO hCO
       subst eaa
       subst eac
       subst eab
       cases ead
       go_upto_region 24 with (fail)
       try simp only [Reg.SF]
       refine Reg.det [Reg.k 126 (.bool false), Reg.k 127 (.bool false), Reg.u 128, Reg.u 129, Reg.u 130, Reg.u 131, Reg.u 132, Reg.u 133, Reg.u 134, Reg.u 135, Reg.u 136, Reg.u 137, Reg.u 138, Reg.k 139 (.bool false), Reg.k 140 (.bool false), Reg.k 141 (.bool false), Reg.k 142 (.bool true), Reg.k 143 (.bool true), Reg.k 144 (.pointer (some ⟨g11, 0, none⟩)), Reg.k 145 (.slice (some aa) r.length c65), Reg.k 146 (.int .i64 (i : Int)), Reg.k 147 (.pointer (some qa)), Reg.k 148 (.agg #[.int .i64 u.f0, .int .i64 u.f1, .string u.f2]), Reg.k 149 (.pointer (some ⟨g6, 6, none⟩)), Reg.k 150 (.slice (some ac) l.length cL), Reg.k 151 (.int .i64 (i : Int)), Reg.k 152 (.pointer (some qc)), Reg.k 153 (.agg #[.int .i64 u.f0, .int .i64 u.f1, .string u.f2]), Reg.k 154 (.bool false), Reg.k 155 (.bool false), Reg.k 156 (.pointer (some ⟨g12, 0, none⟩)), Reg.k 157 (.slice (some ab) r'.length c73), Reg.k 158 (.int .i64 (i : Int)), Reg.k 159 (.pointer (some qb)), Reg.k 160 (.agg #[.int .i64 t.f0, .int .i64 t.f1, .string t.f2]), Reg.k 161 (.slice (some ⟨go, 0, none⟩) n cO), Reg.k 162 (.int .i64 (i : Int)), Reg.k 163 (.pointer (some qd)), Reg.k 164 (.agg #[.int .i64 t.f0, .int .i64 t.f1, .string t.f2]), Reg.k 165 (.bool false), Reg.k 166 (.bool false), Reg.k 167 (.bool false), Reg.k 168 (.bool false)] [] 170 rfl (by kernel_rfl) (by kernel_rfl) ?s23 ?_
       case s23 =>
        intro iq oq pq hiq hoq hpq ρ ev W S hE hO ec ef hB hft hΦ
        have e6 : ev (.tmp 6) = .pointer (some ⟨g6, 0, none⟩) := hO 6 rfl
        have e9 : ev (.tmp 9) = .slice (some ⟨go, 0, none⟩) n cO := hO 9 rfl
        have e11 : ev (.tmp 11) = .pointer (some ⟨g11, 0, none⟩) := hO 11 rfl
        have e12 : ev (.tmp 12) = .pointer (some ⟨g12, 0, none⟩) := hO 12 rfl
        have e13 : ev (.tmp 13) = .int .i64 (i : Int) := hO 13 rfl
        have e14 : ev (.tmp 14) = .bool false := hO 14 rfl
        have mg11_0 := HX.pc hB 1 0 (.slice (some aa) r.length c65) rfl rfl
        have mg6_6 := HX.pc hB 3 6 (.slice (some ac) l.length cL) rfl rfl
        have mg12_0 := HX.pc hB 0 0 (.slice (some ab) r'.length c73) rfl rfl
        have qa0' := yB hB qa0
        have qa1' := yB hB qa1
        have qa2' := yB hB qa2
        have qc0' := yB hB qc0
        have qc1' := yB hB qc1
        have qc2' := yB hB qc2
        have qb0' := yB hB qb0
        have qb1' := yB hB qb1
        have qb2' := yB hB qb2
        have qd0' := yB hB qd0
        have qd1' := yB hB qd1
        have qd2' := yB hB qd2
        simp only [Reg.SV, val_md, yX, val_vl, yV] at hE
        obtain ⟨e126, e127, e128, e129, e130, e131, e132, e133, e134, e135, e136, e137, e138, e139, e140, e141, e142, e143, e144, e145, e146, e147, e148, e149, e150, e151, e152, e153, e154, e155, e156, e157, e158, e159, e160, e161, e162, e163, e164, e165, e166, e167, e168, _⟩ := hE
        rcases Reg.lt43 hiq with rfl | rfl | rfl | rfl | rfl | rfl | rfl | rfl | rfl | rfl | rfl | rfl | rfl | rfl | rfl | rfl | rfl | rfl | rfl | rfl | rfl | rfl | rfl | rfl | rfl | rfl | rfl | rfl | rfl | rfl | rfl | rfl | rfl | rfl | rfl | rfl | rfl | rfl | rfl | rfl | rfl | rfl | rfl
        all_goals (cases hoq; cases hpq)
        all_goals (first | exact Reg.D.sk hB | skip)
        all_goals try exact Reg.D.mv hB
        all_goals (refine Reg.D.cv hB ?_; go_simp; try (first | done | rfl | (intro h_; exfalso; have := HLN.out; omega) | (rw [if_pos (by have := HLN.out; omega)]; simp [hqa]; done) | (rw [if_pos (by have := HLN.out; omega)]; simp [hqc]; done) | (rw [if_pos (by have := HLN.out; omega)]; simp [hqb]; done) | (rw [if_pos (by have := HLN.out; omega)]; simp [hqd]; done) | (rw [← hqa]; rfl) | (rw [← hqc]; rfl) | (rw [← hqb]; rfl) | (rw [← hqd]; rfl) | (obtain ⟨hlr, hlr2, hll, hlo2⟩ := HLN.out; simp [hqa, hlr, hlr2, hll, hlo2, hi]; done) | (obtain ⟨hlr, hlr2, hll, hlo2⟩ := HLN.out; simp [hqc, hlr, hlr2, hll, hlo2, hi]; done) | (obtain ⟨hlr, hlr2, hll, hlo2⟩ := HLN.out; simp [hqb, hlr, hlr2, hll, hlo2, hi]; done) | (obtain ⟨hlr, hlr2, hll, hlo2⟩ := HLN.out; simp [hqd, hlr, hlr2, hll, hlo2, hi]; done) | (rw [← hqd, add_at, Nat.zero_add]) | (exact HNU.out.1) | (exact HNU.out.2.1) | (exact HNU.out.2.2) | (simp only [HNU.out.2.2]; rfl) | (exact HNT.out.2.2) | (simp only [HNT.out.2.2]; rfl) | (simp; done)))
       intro ρ W24 S hB hft hap hΦ
       simp only [Reg.SV, val_md, yX, val_vl, yV, Reg.SF, Nat.reduceAdd]
       have HX := HX.cl hB
       replace RL := yC.mk (Kd.yJ RL.out hB)
       replace RT := yC.mk (Kd.yJ RT.out hB)
       replace RO := yC.mk (Kd.yJ RO.out hB)
       replace HR65 := yC.mk (Row2.below HR65.out hB)
       replace HR73 := yC.mk (Row2.below HR73.out hB)
       replace HBl := yC.mk (yD HBl.out hB)
       clear hΦ hft hap 
       go_wp2_with fail
       cases gk with
       | zero => exact absurd HKQ.out (by omega)
       | succ gk1 =>
       go_roundg gk1
       case measure => omega
       case rel => exact ⟨i + 1, by simp, ⟨by have := HKQ.out; omega⟩, HBl⟩
     ·have dl : decide ((i : Int) < (l.length : Int)) = false := decide_eq_false (by have := HLN.out.2.2.1; omega)
      have hdl : l.length ≤ i := by have := HLN.out.2.2.1; omega
      go_upto_region 21 with (fail)
      try simp only [Reg.SF]
      refine Reg.det [Reg.k 116 (.int .i64 (i : Int)), Reg.k 117 (.pointer (some ⟨g6, 6, none⟩)), Reg.k 118 (.slice AL l.length cL), Reg.k 119 (.int .i64 l.length), Reg.k 120 (.bool false)] [] 170 rfl (by kernel_rfl) (by kernel_rfl) ?s24 ?_
      case s24 =>
       intro iq oq pq hiq hoq hpq ρ ev W S hE hO ec ef hB hft hΦ
       have e6 : ev (.tmp 6) = .pointer (some ⟨g6, 0, none⟩) := hO 6 rfl
       have e13 : ev (.tmp 13) = .int .i64 (i : Int) := hO 13 rfl
       have mg6_6 := HX.pc hB 3 6 (.slice AL l.length cL) rfl rfl
       simp only [Reg.SV, val_md, yX, val_vl, yV] at hE
       obtain ⟨e116, e117, e118, e119, e120, _⟩ := hE
       rcases Reg.lt5 hiq with rfl | rfl | rfl | rfl | rfl
       all_goals (cases hoq; cases hpq)
       all_goals try exact Reg.D.mv hB
       all_goals (refine Reg.D.cv hB ?_; go_simp; try (first | done | rfl | (exact dl) | (simp [dl]; done) | (simp; omega)))
      intro ρ W21 S hB hft hap hΦ
      simp only [Reg.SV, val_md, yX, val_vl, yV, Reg.SF, Nat.reduceAdd]
      have HX := HX.cl hB
      replace RL := yC.mk (Kd.yJ RL.out hB)
      replace RT := yC.mk (Kd.yJ RT.out hB)
      replace RO := yC.mk (Kd.yJ RO.out hB)
      replace HR65 := yC.mk (Row2.below HR65.out hB)
      replace HR73 := yC.mk (Row2.below HR73.out hB)
      replace HBl := yC.mk (yD HBl.out hB)
      clear hΦ hft hap 
      go_wp2_with fail
      go_ret
      exact ⟨rfl, HX.out.below⟩
def U8Row (w : World) (A : Option Addr) (len cap : Nat) (zs : List Int) : Prop := (A = none ∧ len = 0 ∧ cap = 0 ∧ zs = []) ∨ ∃ x, A = some x ∧ len ≤ cap ∧ cap ≤ maxLen ∧ zs.length = cap ∧ (∀ i, i < zs.length → w.cell? (x.add i) = some (.int .u8 (zs.getD i 0))) ∧ ∀ n ∈ zs, (Lit.int .u8 n).wf = true
theorem u8_in {l : List Int} (h : ∀ x ∈ l, (Lit.int .u8 x).wf = true) (x : Int) (hx : x ∈ l) : 0 ≤ x ∧ x ≤ 255 := by simpa [Lit.wf, IntKind.min, IntKind.max, IntKind.signed, IntKind.bits] using h x hx
theorem frame_law2 (A1 : Option Addr) (n1 c1 : Nat) (z1 : List Int) (A2 : Option Addr) (n2 c2 : Nat) (z2 : List Int) (A3 : Option Addr) (n3 c3 : Nat) (z3 : List Int) (A4 : Option Addr) (n4 c4 : Nat) (z4 : List Int) (A5 : Option Addr) (n5 c5 : Nat) (z5 : List Int) (w : World) (hgl : Gl w) (h1 : U8Row w A1 n1 c1 z1) (h2 : U8Row w A2 n2 c2 z2) (h3 : U8Row w A3 n3 c3 z3) (h4 : U8Row w A4 n4 c4 z4) (h5 : U8Row w A5 n5 c5 z5) :
  Calls Tryz.prog 4 #[.agg #[.slice A1 n1 c1, .slice A2 n2 c2, .slice A3 n3 c3, .slice A4 n4 c4], .slice A5 n5 c5] w fun e w' => e = .returned (.bool true) ∧ Below w.heap.size w w' := by
 obtain ⟨l1, rfl, hr1, hm1, hw1, hc1⟩ := ReadsInt.ofRowC h1
 obtain ⟨l2, rfl, hr2, hm2, hw2, hc2⟩ := ReadsInt.ofRowC h2
 obtain ⟨l3, rfl, hr3, hm3, hw3, hc3⟩ := ReadsInt.ofRowC h3
 obtain ⟨l4, rfl, hr4, hm4, hw4, hc4⟩ := ReadsInt.ofRowC h4
 obtain ⟨l5, rfl, hr5, hm5, hw5, hc5⟩ := ReadsInt.ofRowC h5
 exact frame_law A1 A2 A3 A4 c1 c2 c3 c4 l1 l2 l3 l4 A5 c5 l5 w hgl (u8_in hw1) (u8_in hw2) (u8_in hw3) (u8_in hw4) hc1 hc2 hc3 hc4 (Kd.C_of_reads (d := (0 : Int)) (h1 := fun _ => rfl) hr1) (Kd.C_of_reads (d := (0 : Int)) (h1 := fun _ => rfl) hr2) (Kd.C_of_reads (d := (0 : Int)) (h1 := fun _ => rfl) hr3) (Kd.C_of_reads (d := (0 : Int)) (h1 := fun _ => rfl) hr4) (u8_in hw5) hc5 (Kd.C_of_reads (d := (0 : Int)) (h1 := fun _ => rfl) hr5)
end
end Go.Proofs.YtmebkjdknhknbaaGreatDoor.H
