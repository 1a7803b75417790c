/- Texts of this claim, bound together: what the functions that it reaches compute, with the contracts of their calls (HPutE, HPutF, HPutG, HPutH, HAnyL, HValT, HSortS, HSort, HAttrs, HAttrsA, HOfR, HPaR, HRefT, HComp, PMade, PGlue). -/
import Derived.Defers
import Derived.Recover
import Derived.Tactics2
import Derived.Shelf.Strings.Builder1
import Derived.Shelf.Strings.Builder2
import Derived.Shelf.Strings.Trim
import Derived.Shelf.Small.Utf8
import Derived.Shelf.Small.Strs
import Derived.Shelf.Small.Wraps
import Derived.Shelf.Strings.BuilderF
import Derived.Shelf.Strconv.Atoi
import Derived.Shelf.Strconv.Itoa0
import Derived.Shelf.Strconv.Itoa1
import Derived.Shelf.LaysM
import Derived.Shelf.Strconv.Itoa2
import Derived.Shelf.Strconv.Itoa3
import Derived.Shelf.Strconv.AtoiErrFast
import Derived.Shelf.Strconv.ParseIntEmpty
import Derived.Shelf.Strconv.AtoiFail
import Derived.Shelf.Strconv.Clone
import Derived.Shelf.Strconv.SyntaxError
import Derived.Shelf.LaysC
import Derived.Shelf.Strconv.ToError
import Derived.Shelf.Strconv.Lower
import Derived.Shelf.Strconv.ParseUint10
import Derived.Shelf.Strconv.ParseUint10Empty
import Derived.Shelf.Strconv.ParseUint10Any
import Derived.Shelf.Strconv.ParseInt10
import Derived.Shelf.Strconv.AtoiLong
import Derived.Shelf.Strconv.AtoiInnerAll
import Derived.Shelf.Strconv.RangeError
import Derived.Shelf.Strconv.ToErrorRange
import Derived.Shelf.Strconv.AtoiAll
import Derived.Shelf.Strconv.ErrVarAll
import Derived.Shelf.Strings.Search1
import Derived.Shelf.Strings.Search2
import Derived.Shelf.Strings.Search3
import Derived.Shelf.Strings.Cut
import Derived.Shelf.Strings.Shaped
import Derived.Shelf.Sort.Plain
import Derived.Shelf.Strings.Prefix
import Derived.Shelf.Strings.Runes
import Derived.Shelf.Strings.AsciiSet
import Derived.Shelf.Bits.Mul64
import Derived.Shelf.Strings.Repeat
import Derived.Shelf.Unicode.DecodeSlow
import Derived.Ground.Names2Prog
import Derived.Shelf.Slices.CompactI
import Derived.Shelf.Slices.In.SortNone
import Derived.Test.YtmebkjdknhknbaaGreatDoorProg
import Derived.Sort.OwnSortedInts
import Derived.Lib.OwnBridge
import Derived.Test.YtmebkjdknhknbaaGreatDoorK4
set_option linter.unusedVariables false
set_option linter.unusedSimpArgs false
set_option linter.unusedSectionVars false
section
namespace Go.Proofs.YtmebkjdknhknbaaGreatDoor.H
open Go.RowKit Go.Proofs.YtmebkjdknhknbaaGreatDoorW.PrintWords Go.Proofs.YtmebkjdknhknbaaGreatDoorW.PrintLast Go.Proofs.YtmebkjdknhknbaaGreatDoorW.PrintMore
theorem Row2.keep {A1 A2 : Option Addr} {c1 c2 base : Nat} {l l' : List S39} {W W' : World} (h : Row2 A1 c1 l W base A2 c2 l') {g T : Nat} {cs : Array Value} (hb : W.heap[g]? = some (.cells cs T (0, 0))) (ht : ∀ q, q ∈ 39 :: k39.E → q ≠ T) (hk : ∀ k, k ≠ g → W'.heap[k]? = W.heap[k]?) : Row2 A1 c1 l W' base A2 c2 l' :=
  h.imp id (fun h => Kd.R_mono (Kd.R_step (Kd.R_types h hb ht) (fun k hk' _ => hk k hk'.2)) (fun _ _ => trivial))
section
variable {P : Program} {ops : Array Oper} {rest : List Oper} {o : Oper} {a : Act} {Q : Exit → Act → World → Prop} {w W : World} {L : List (Nat × Nat × Array Value)}
theorem bx_newB (hgd : o.guard = none) {N : Tmp} (hd : o.dst = some N) {cs : Array Value} {t : TypeId} (hX : Bxs w W L)
    (hrun : (execOp a.eval o).run P W = .ok (.value (.pointer (some ⟨W.heap.size, 0, none⟩))) (W.alloc (.cells cs t (0, 0))))
    (h : ∀ g W1, Bxs w W1 ((g, t, cs) :: L) → Below W.heap.size W W1 → wpList P ops Q rest (a.put o.dst (.pointer (some ⟨g, 0, none⟩))) W1) : wpList P ops Q (o :: rest) a W :=
  box_event hgd hd hrun fun g hg w1 hc hb => h g w1 (hX.new hg hc hb) hb
theorem bx_putB (hgd : o.guard = none) (ty : TypeId) (x y : Operand) (ho : o.op = .store ty x y) (hd : o.dst = none) {L1 L2 : List (Nat × Nat × Array Value)} {g : Nat} {t : TypeId} {old cells : Array Value} (hX : Bxs w W (L1 ++ (g, t, old) :: L2))
    (hx : a.eval x = .pointer (some ⟨g, 0, none⟩)) (hy : a.eval y = .agg cells) (hi : (P.info? ty).map (·.size) = some cells.size) (hold : old.size = cells.size) (h1 : cells.toList.all (·.oneCell') = true)
    (h : ∀ W', Bxs w W' (L1 ++ (g, t, cells) :: L2) → (∀ k, k ≠ g → W'.heap[k]? = W.heap[k]?) → wpList P ops Q rest a W') : wpList P ops Q (o :: rest) a W :=
  store_event hgd ty x y ho hd g cells hx hy t old (hX.blk (g, t, old) (List.mem_append_right _ List.mem_cons_self)).2 hi hold h1 fun W' q1 q2 q3 => h W' (hX.put q1 q2 q3) q2
end
def putP (A0 : Option Addr) (n0 c0 : Nat) (A1 : Option Addr) (c1 : Nat) (l : List S39) (R : Option (List S39)) (v : Value) (B : Nat) (W : World) (S : Nat → Prop) : Prop :=
  ∃ l2 A2 c2, R = some l2 ∧ v = .agg #[.slice A0 n0 c0, .slice A2 l2.length c2] ∧ ((A2 = A1 ∧ c2 = c1 ∧ l2 = l) ∨ Kd.R k39 39 W B S (.slice A2 l2.length c2) l2)
theorem putP_st {A0 : Option Addr} {n0 c0 : Nat} {A1 : Option Addr} {c1 : Nat} {l : List S39} {R : Option (List S39)} {v : Value} {B : Nat} {W W' : World} {S : Nat → Prop} (hz : W.heap.size ≤ W'.heap.size) (hk : ∀ k, k < W.heap.size → S k → W'.heap[k]? = W.heap[k]?) (h : putP A0 n0 c0 A1 c1 l R v B W S) : putP A0 n0 c0 A1 c1 l R v B W' S := by
  obtain ⟨l2, A2, c2, rfl, rfl, h⟩ := h
  exact ⟨l2, A2, c2, rfl, rfl, h.imp id (fun h => Kd.R_step h (fun k hS hlt => hk k hlt hS))⟩
def putDv (d : Nat) (A0 : Option Addr) (n0 c0 : Nat) (A1 : Option Addr) (c1 : Nat) (l : List S39) (R : Option (List S39)) : Reg.Dv := Reg.Dv.n d (putP A0 n0 c0 A1 c1 l R) putP_st
theorem val_put (d : Nat) (A0 : Option Addr) (n0 c0 : Nat) (A1 : Option Addr) (c1 : Nat) (l : List S39) (R : Option (List S39)) (e : Nat) (ρ : Nat → Value) : (putDv d A0 n0 c0 A1 c1 l R).val e ρ = ρ e := rfl
theorem put_step {fn d : Nat} {eats : List (Nat × Nat)} {i : Nat} {ρ : Nat → Value} {S : Nat → Nat → Prop} {A0 : Option Addr} {n0 c0 : Nat} {A1 : Option Addr} {c1 : Nat} {l : List S39} {R : Option (List S39)} {w W : World} {args : Array Value} (hB : Below w.heap.size w W) (h : Calls Tryz.prog fn args W fun e w' => PutRes A0 n0 c0 A1 c1 l R W w' e) :
    Calls Tryz.prog fn args W fun e w' => (∃ v, e = .returned v ∧ Reg.Kv eats w i (some d) (putDv d A0 n0 c0 A1 c1 l R) ρ W S v w') ∨ ∃ ch, e = .panicked ch ∧ (R = none ∧ ch = [failE] ∧ Below w.heap.size w w') := by
  refine h.mono fun e w' h => ?_
  obtain ⟨hb, h⟩ := h
  cases R with | none => exact .inr ⟨_, h, rfl, rfl, below_step hB hb⟩ | some l2 =>
    obtain ⟨A2, c2, rfl, h⟩ := h
    refine .inl ⟨_, rfl, Reg.Kv.n (Φ := putP A0 n0 c0 A1 c1 l (some l2)) (st := putP_st) (fun k => some k = (Value.slice A2 l2.length c2).ownBlock ∧ W.heap.size ≤ k ∧ k < w'.heap.size) hB hb (fun k hk => ⟨hk.2.1, hk.2.2⟩) ⟨l2, A2, c2, rfl, rfl, ?_⟩⟩
    rcases h with h | h
    · exact .inl h
    · exact .inr (Kd.R_lower (Kd.R_mono (Kd.R_bound (Kd.R_tight rfl h)) (fun k hk => ⟨hk.1, hk.2.1, hk.2.2.1⟩)) hB.size)
set_option maxHeartbeats 8000000 in
set_option maxRecDepth 100000 in
theorem putBoth_to (l0 : List S57) (l : List S39) (x : S29) (v : S39) (jn : ByteArray) (R : Option (List S39)) (R2 : List S39 → Option (List S39)) (hn : 1 < x.f4.length) (hz : v.f2.size < 4294967281) (hzj : jn.size ≤ 1000000)
    (hs : ∀ A0 c0, To 102 A0 l0.length c0 l x (.string jn)) (hp : jn.size ≤ 40 → PutTo 54 l0 l (rd_T29 x.f4 (0 : Nat)) (aheadV v x.f3) R) (hp2 : jn.size ≤ 40 → ∀ l2, R = some l2 → PutTo 54 l0 l2 (rd_T29 x.f4 (1 : Nat)) (behindV v x.f3) (R2 l2)) :
    PutTo 81 l0 l x v (if jn.size ≤ 40 then R.bind R2 else none) := by
  intro A0 c0 A1 c1 A c w hgl hc0 hr0 hc1 hr hlc hC
  have hu := Tryz.underlying39
  have hu2 := Tryz.underlying29
  have hu3 := Tryz.underlying76
  have HX := Aside0.mk (Bxs.start w)
  have HG := Aside0.mk hgl
  have HR : Aside0 (∀ (w' : World), Below w.heap.size w w' → Calls Tryz.prog 102 #[.agg #[.slice A0 l0.length c0, .slice A1 l.length c1], .agg (lC x A c)] w' fun e w'' => e = .returned (.string jn) ∧ Below w'.heap.size w' w'') :=
    ⟨fun w' hb => hs A0 c0 A1 c1 A c w' (hgl.below hb) (Kd.C_below hr hb) hlc (Kd.C_below hC hb)⟩
  obtain ⟨k, a, s, sep, l4⟩ := x
  dsimp only at hn hp hp2 hlc hC hz HR ⊢
  obtain ⟨ad, q, A4, c4, e, hq, K⟩ := kid hC 0 (by omega)
  obtain ⟨ad', q', A5, c5, e', hq', K'⟩ := kid hC 1 hn
  cases e
  cases e'
  obtain ⟨V0, V1, V2⟩ := v
  have HS : Aside0 (∀ (w' : World), Below w.heap.size w w' → Calls Tryz.prog 99 #[.agg #[.int .i64 V0, .int .i64 V1, .string V2], .string sep] w' fun e w'' => e = .returned (.tuple #[.agg (vC (aheadV ⟨V0, V1, V2⟩ sep)), .agg (vC (behindV ⟨V0, V1, V2⟩ sep))]) ∧ Below w'.heap.size w' w'') :=
    ⟨fun w' hb => split_calls V0 V1 V2 sep w' (hgl.below hb) hz⟩
  generalize aheadV ⟨V0, V1, V2⟩ sep = h at *
  generalize behindV ⟨V0, V1, V2⟩ sep = b at *
  generalize rd_T29 l4 ((0 : Nat) : Int) = y at *
  generalize rd_T29 l4 ((1 : Nat) : Int) = y' at *
  obtain ⟨Y0, Y1, Y2, Y3, l5⟩ := y
  obtain ⟨X0, X1, X2, X3, l6⟩ := y'
  obtain ⟨H0, H1, H2⟩ := h
  obtain ⟨B0, B1, B2⟩ := b
  obtain ⟨RES, hRES⟩ : ∃ X, (if jn.size ≤ 40 then R.bind R2 else none) = X := ⟨_, rfl⟩
  have HE : Aside0 ((if jn.size ≤ 40 then R.bind R2 else none) = RES) := ⟨hRES⟩
  rw [hRES]
  clear hRES
  have HP : Aside0 (jn.size ≤ 40 → ∀ (w' : World), Below w.heap.size w w' → Calls Tryz.prog 54 #[.agg #[.slice A0 l0.length c0, .slice A1 l.length c1], .agg #[.int .i64 Y0, .int .i64 Y1, .int .i64 Y2, .string Y3, .slice A4 l5.length c4], .agg #[.int .i64 H0, .int .i64 H1, .string H2]] w' fun e w'' => PutRes A0 l0.length c0 A1 c1 l R w' w'' e) :=
    ⟨fun h1 w' hb => hp h1 A0 c0 A1 c1 A4 c4 w' (hgl.below hb) hc0 (Kd.C_below hr0 hb) hc1 (Kd.C_below hr hb) K.len (Kd.C_below K.has hb)⟩
  have HP2 : Aside0 (jn.size ≤ 40 → ∀ l2, R = some l2 → ∀ (A2 : Option Addr) (c2 : Nat) (w' : World), Below w.heap.size w w' → Row2 A1 c1 l w' w.heap.size A2 c2 l2 → Calls Tryz.prog 54 #[.agg #[.slice A0 l0.length c0, .slice A2 l2.length c2], .agg #[.int .i64 X0, .int .i64 X1, .int .i64 X2, .string X3, .slice A5 l6.length c5], .agg #[.int .i64 B0, .int .i64 B1, .string B2]] w' fun e w'' => PutRes A0 l0.length c0 A2 c2 l2 (R2 l2) w' w'' e) :=
    ⟨fun h1 l2 h2 A2 c2 w' hb hrow => by
      have hh := hrow.has hc1 (Kd.C_below hr hb)
      exact hp2 h1 l2 h2 A0 c0 A2 c2 A5 c5 w' (hgl.below hb) hc0 (Kd.C_below hr0 hb) hh.1 hh.2 K'.len (Kd.C_below K'.has hb)⟩
  obtain ⟨h0, h1, h2, h3, h4, _, _⟩ := K
  obtain ⟨i0, i1, i2, i3, i4, _, _⟩ := K'
  unfold lC vC at *
  dsimp only at h0 h1 h2 h3 h4 i0 i1 i2 i3 i4 HR HS ⊢
  generalize l5.length = n5 at *
  generalize l6.length = n6 at *
  generalize l4.length = n4 at *
  generalize l.length = n1 at *
  generalize l0.length = n0 at *
  have Q := Aside0.mk (And.intro h0 (And.intro h1 (And.intro h2 (And.intro h3 h4))))
  have O := Aside0.mk (And.intro i0 (And.intro i1 (And.intro i2 (And.intro i3 i4))))
  have p0 : ((0 : Int) < (n4 : Int)) = True := eq_true (by omega)
  have p1 : (0 < n4) = True := eq_true (by omega)
  have p2 : ((1 : Int) < (n4 : Int)) = True := eq_true (by omega)
  have p3 : (1 < n4) = True := eq_true hn
  clear h0 h1 h2 h3 h4 i0 i1 i2 i3 i4 hn hlc hC hr hgl hs hz hr0 hp hp2
  go_enter Tryz.func81, Tryz.ntmps81
  go_upto_region 1 with (first | ((with_reducible refine gate_dst (N := 3) rfl ?_); refine bx_new (w := w) ?hg (N := 3) ?hd (cs := #[.slice A0 n0 c0, .slice A1 n1 c1]) (t := 76) HX.out ?hr ?_; (case hd => rfl); (case hg => rfl); (case hr => first | (go_simp; done) | (go_simp; rfl)); intro g3 W3 hx; clear HX; have HX := Aside0.mk hx; clear hx) | ((with_reducible refine gate_dst (N := 4) rfl ?_); refine bx_new (w := w) ?hg (N := 4) ?hd (cs := #[.int .i64 k, .int .i64 a, .int .i64 s, .string sep, .slice (some ad) n4 c]) (t := 29) HX.out ?hr ?_; (case hd => rfl); (case hg => rfl); (case hr => first | (go_simp; done) | (go_simp; rfl)); intro g4 W4 hx; clear HX; have HX := Aside0.mk hx; clear hx) | ((with_reducible refine gate_dst (N := 5) rfl ?_); refine bx_new (w := w) ?hg (N := 5) ?hd (cs := #[.int .i64 V0, .int .i64 V1, .string V2]) (t := 39) HX.out ?hr ?_; (case hd => rfl); (case hg => rfl); (case hr => first | (go_simp; done) | (go_simp; rfl)); intro g5 W5 hx; clear HX; have HX := Aside0.mk hx; clear hx) | ((with_reducible refine gate_dst (N := 6) rfl ?_); refine bx_new (w := w) ?hg (N := 6) ?hd (cs := #[.slice none 0 0, .slice none 0 0]) (t := 76) HX.out ?hr ?_; (case hd => rfl); (case hg => rfl); (case hr => first | (go_simp; done) | (go_simp; rfl)); intro g6 W6 hx; clear HX; have HX := Aside0.mk hx; clear hx))
  have a0 := HX.out.cell 3 0 rfl rfl; have a1 := HX.out.cell 3 1 rfl rfl
  have b0 := HX.out.cell 2 0 rfl rfl; have b1 := HX.out.cell 2 1 rfl rfl; have b2 := HX.out.cell 2 2 rfl rfl; have b3 := HX.out.cell 2 3 rfl rfl; have b4 := HX.out.cell 2 4 rfl rfl
  have HZJ := Aside0.mk hzj
  clear hzj
  by_cases hv : jn.size ≤ 40
  · have d : decide ((jn.size : Int) ≤ 40) = true := decide_eq_true (by omega)
    have HE2 := HE.out
    rw [if_pos hv] at HE2
    have HP3 := Aside0.mk (HP.out hv)
    have HP4 := Aside0.mk (HP2.out hv)
    subst HE2
    clear HP HP2 HE hv
    go_upto_region 3 with (first | (go_at_call 102; (with_reducible refine (HR.out _ HX.out.below).mono ?_); rintro e WW ⟨rfl, hb⟩; have hx := HX.out.call hb; clear HX hb a0 a1 b0 b1 b2 b3 b4; have HX := Aside0.mk hx; clear hx) | (go_at_call 66; (with_reducible refine (ask_true _).mono ?_); rintro e WW ⟨rfl, hb⟩; have hx := HX.out.call hb; clear HX hb; have HX := Aside0.mk hx; clear hx; have v0 := HX.out.cell 1 0 rfl rfl; have v1 := HX.out.cell 1 1 rfl rfl; have v2 := HX.out.cell 1 2 rfl rfl; have b0 := HX.out.cell 2 0 rfl rfl; have b1 := HX.out.cell 2 1 rfl rfl; have b2 := HX.out.cell 2 2 rfl rfl; have b3 := HX.out.cell 2 3 rfl rfl; have b4 := HX.out.cell 2 4 rfl rfl) | (go_at_call 99; (with_reducible refine (HS.out _ HX.out.below).mono ?_); rintro e WW ⟨rfl, hb⟩; have hx := HX.out.call hb; clear HX hb b0 b1 b2 b3 b4 v0 v1 v2; have HX := Aside0.mk hx; clear hx) | ((with_reducible refine gate_dst (N := 7) rfl ?_); refine bx_new (w := w) ?hg (N := 7) ?hd (cs := #[.int .i64 0, .int .i64 0, .string (⟨#[]⟩ : ByteArray)]) (t := 39) HX.out ?hr ?_; (case hd => rfl); (case hg => rfl); (case hr => first | (go_simp; done) | (go_simp; rfl)); intro g7 W7 hx; clear HX; have HX := Aside0.mk hx; clear hx) | ((with_reducible refine gate_dst (N := 8) rfl ?_); refine bx_new (w := w) ?hg (N := 8) ?hd (cs := #[.int .i64 0, .int .i64 0, .string (⟨#[]⟩ : ByteArray)]) (t := 39) HX.out ?hr ?_; (case hd => rfl); (case hg => rfl); (case hr => first | (go_simp; done) | (go_simp; rfl)); intro g8 W8 hx; clear HX; have HX := Aside0.mk hx; clear hx; refine bx_put (w := w) rfl 39 (.tmp 7) (.tmp 20) rfl rfl (L1 := [_]) (cells := #[.int .i64 H0, .int .i64 H1, .string H2]) HX.out rfl rfl info39s rfl rfl ?_; intro W9 hx; clear HX; have HX := Aside0.mk hx; clear hx; refine bx_put (w := w) rfl 39 (.tmp 8) (.tmp 21) rfl rfl (L1 := []) (cells := #[.int .i64 B0, .int .i64 B1, .string B2]) HX.out rfl rfl info39s rfl rfl ?_; intro W10 hx; clear HX; have HX := Aside0.mk hx; clear hx))
    have r0 := HX.out.cell 0 0 rfl rfl; have r1 := HX.out.cell 0 1 rfl rfl; have r2 := HX.out.cell 0 2 rfl rfl
    have h0 := HX.out.cell 1 0 rfl rfl; have h1 := HX.out.cell 1 1 rfl rfl; have h2 := HX.out.cell 1 2 rfl rfl
    have b0 := HX.out.cell 4 0 rfl rfl; have b1 := HX.out.cell 4 1 rfl rfl; have b2 := HX.out.cell 4 2 rfl rfl; have b3 := HX.out.cell 4 3 rfl rfl; have b4 := HX.out.cell 4 4 rfl rfl
    have a0 := HX.out.cell 5 0 rfl rfl; have a1 := HX.out.cell 5 1 rfl rfl
    have q0 := pw_cell_below HX.out.below Q.out.1
    have q1 := pw_cell_below HX.out.below Q.out.2.1
    have q2 := pw_cell_below HX.out.below Q.out.2.2.1
    have q3 := pw_cell_below HX.out.below Q.out.2.2.2.1
    have q4 := pw_cell_below HX.out.below Q.out.2.2.2.2
    have o0 := pw_cell_below HX.out.below O.out.1
    have o1 := pw_cell_below HX.out.below O.out.2.1
    have o2 := pw_cell_below HX.out.below O.out.2.2.1
    have o3 := pw_cell_below HX.out.below O.out.2.2.2.1
    have o4 := pw_cell_below HX.out.below O.out.2.2.2.2
    simp only [Act.put, List.setIfInBounds_toArray, List.set_cons_zero, List.set_cons_succ]
    refine Reg.wp_detP [(some 22, Reg.Dv.c (.agg #[.slice A0 n0 c0, .slice A1 n1 c1])), (some 23, Reg.Dv.c (.pointer (some ⟨g4, 4, none⟩))), (some 24, Reg.Dv.c (.slice (some ad) n4 c)), (some 25, Reg.Dv.c (.pointer (some q))), (some 26, Reg.Dv.c (.agg #[.int .i64 Y0, .int .i64 Y1, .int .i64 Y2, .string Y3, .slice A4 n5 c4])), (some 27, Reg.Dv.c (.agg #[.int .i64 H0, .int .i64 H1, .string H2])), (some 28, putDv 28 A0 n0 c0 A1 c1 l R), (some 29, Reg.Dv.c (.pointer (some ⟨g4, 4, none⟩))), (some 30, Reg.Dv.c (.slice (some ad) n4 c)), (some 31, Reg.Dv.c (.pointer (some q'))), (some 32, Reg.Dv.c (.agg #[.int .i64 X0, .int .i64 X1, .int .i64 X2, .string X3, .slice A5 n6 c5])), (some 33, Reg.Dv.c (.agg #[.int .i64 B0, .int .i64 B1, .string B2]))] [] 35 rfl (by kernel_rfl) rfl (by kernel_rfl) (by kernel_rfl) (by kernel_rfl) rfl (by kernel_rfl) rfl rfl rfl (fun ch W => R = none ∧ ch = [failE] ∧ Below W10.heap.size W10 W) (by rintro ch f W ⟨rfl, rfl, hb⟩; exact ⟨rfl, below_step HX.out.below hb, rfl⟩) ?step ?done
    case step =>
      intro iq oq pq hiq hoq hpq ρ ev W S hE hO ec ef hB hft hΦ
      have e3 : ev (.tmp 3) = .pointer (some ⟨g3, 0, none⟩) := hO 3 rfl
      have e4 : ev (.tmp 4) = .pointer (some ⟨g4, 0, none⟩) := hO 4 rfl
      have e7 : ev (.tmp 7) = .pointer (some ⟨g7, 0, none⟩) := hO 7 rfl
      have e8 : ev (.tmp 8) = .pointer (some ⟨g8, 0, none⟩) := hO 8 rfl
      have a0' := pw_cell_below hB a0
      have a1' := pw_cell_below hB a1
      have b0' := pw_cell_below hB b0
      have b1' := pw_cell_below hB b1
      have b2' := pw_cell_below hB b2
      have b3' := pw_cell_below hB b3
      have b4' := pw_cell_below hB b4
      have r0' := pw_cell_below hB r0
      have r1' := pw_cell_below hB r1
      have r2' := pw_cell_below hB r2
      have h0' := pw_cell_below hB h0
      have h1' := pw_cell_below hB h1
      have h2' := pw_cell_below hB h2
      have q0' := pw_cell_below hB q0
      have q1' := pw_cell_below hB q1
      have q2' := pw_cell_below hB q2
      have q3' := pw_cell_below hB q3
      have q4' := pw_cell_below hB q4
      have o0' := pw_cell_below hB o0
      have o1' := pw_cell_below hB o1
      have o2' := pw_cell_below hB o2
      have o3' := pw_cell_below hB o3
      have o4' := pw_cell_below hB o4
      simp only [Reg.Ls_some, Reg.Ls_none, Reg.Ls_nil, Reg.val_c, Reg.val_u, Reg.val_n, Reg.val_box, List.forall_mem_cons, List.map_cons, List.map_nil, val_put] at hE
      obtain ⟨e22, e23, e24, e25, e26, e27, e28, e29, e30, e31, e32, e33, _⟩ := hE
      have hiq2 : iq = 0 ∨ iq = 1 ∨ iq = 2 ∨ iq = 3 ∨ iq = 4 ∨ iq = 5 ∨ iq = 6 ∨ iq = 7 ∨ iq = 8 ∨ iq = 9 ∨ iq = 10 ∨ iq = 11 := by have : iq < 12 := hiq; omega
      clear hiq
      rcases hiq2 with rfl | rfl | rfl | rfl | rfl | rfl | rfl | rfl | rfl | rfl | rfl | rfl
      all_goals cases hoq
      all_goals cases hpq
      rotate_left 6
      · refine Reg.DStep.callp (g := 54) (args := #[.agg #[.slice A0 n0 c0, .slice A1 n1 c1], .agg #[.int .i64 Y0, .int .i64 Y1, .int .i64 Y2, .string Y3, .slice A4 n5 c4], .agg #[.int .i64 H0, .int .i64 H1, .string H2]]) (by first | exact .inl rfl | exact .inr ⟨_, _, _, rfl, rfl, (by assumption)⟩) (by go_simp; try rfl) ?_
        exact put_step hB (HP3.out W (below_step HX.out.below hB))
      rotate_right 6
      all_goals (refine Reg.DStep.cv (by first | exact .inl rfl | exact .inr ⟨_, _, _, rfl, rfl, (by assumption)⟩) hB ?_; go_simp; try (first | done | rfl | (rw [← hq]; rfl) | (rw [← hq']; rfl) | (simp [← hq]; done) | (simp [← hq']; done)))
    case done =>
      intro ρ W S hB hft hap hΦ
      simp only [Reg.Ls_some, Reg.Ls_none, Reg.Ls_nil, Reg.val_c, Reg.val_u, Reg.val_n, Reg.val_box, List.map_cons, List.map_nil, val_put, Reg.puts, Act.put, List.setIfInBounds_toArray, List.set_cons_zero, List.set_cons_succ, List.drop_succ_cons, List.drop_zero, List.length_cons, List.length_nil, Nat.zero_add, Nat.reduceAdd]
      obtain ⟨l2, A2, c2, hR, e28, hrow⟩ := hΦ 6 _ rfl rfl
      have e28 : ρ 28 = .agg #[.slice A0 n0 c0, .slice A2 l2.length c2] := e28
      simp only [val_put, e28]
      have HROW : Aside0 (Row2 A1 c1 l W w.heap.size A2 c2 l2) := ⟨hrow.imp id (fun h => Kd.R_lower (Kd.R_mono h (fun _ _ => trivial)) HX.out.below.size)⟩
      have HX := Aside0.mk (HX.out.call hB)
      have HP5 := Aside0.mk (HP4.out l2 hR)
      subst hR
      clear hΦ hft hap hrow e28 a0 a1 b0 b1 b2 b3 b4 r0 r1 r2 h0 h1 h2 q0 q1 q2 q3 q4 o0 o1 o2 o3 o4 HP3 HP4
      try dsimp only [Option.bind_some] at *
      cases hR2 : R2 l2 with | none =>
        rw [hR2] at HP5
        go_wp2_with (first | (go_at_call 54; (with_reducible refine (HP5.out _ _ _ HX.out.below HROW.out).mono ?_); rintro e WX ⟨hb, rfl⟩; have hx := HX.out.call hb; clear HX hb; have HX := Aside0.mk hx; clear hx))
        exact ⟨rfl, HX.out.below, by rw [Option.bind_some, hR2]⟩ | some l3 =>
        rw [hR2] at HP5
        have HR3 := Aside0.mk hR2
        clear hR2
        go_wp2_with (first | (go_at_call 54; (with_reducible refine (HP5.out _ _ _ HX.out.below HROW.out).mono ?_); rintro e WX ⟨hb, A3, c3, rfl, hr⟩; have HQ := Aside0.mk ((HROW.out.below hb).then (hr.lower HX.out.below.size)); have hx := HX.out.call hb; clear HX hb hr; have HX := Aside0.mk hx; clear hx; have x0 := HX.out.cell 2 0 rfl rfl; have x1 := HX.out.cell 2 1 rfl rfl; have z0 := HX.out.frz 2 0 rfl; have z1 := HX.out.frz 2 1 rfl))
        have HY := (HX.out.set (L1 := [_, _]) 0 (.slice A0 n0 c0)).set (L1 := [_, _]) 1 (.slice A3 l3.length c3)
        refine bodyPost_ret (results_cell_row rfl _ _ g6 76 #[.slice A0 n0 c0, .slice A3 l3.length c3] (0, 0) _ rfl (HY.at 2 rfl) hu3 rfl (by kernel_rfl)) rfl ?_
        rw [Option.bind_some, HR3.out]
        exact ⟨HY.below, A3, c3, rfl, (HQ.out.set (HX.out.at 2 rfl) (by decide) _ _).set ((HX.out.set (L1 := [_, _]) 0 (.slice A0 n0 c0)).at 2 rfl) (by decide) _ _⟩
  · have d : decide ((jn.size : Int) ≤ 40) = false := decide_eq_false (by omega)
    have HE2 := HE.out
    rw [if_neg hv] at HE2
    subst HE2
    clear HP HP2 HE hv
    go_wp2_with (first | (go_at_call 102; (with_reducible refine (HR.out _ HX.out.below).mono ?_); rintro e WW ⟨rfl, hb⟩; have hx := HX.out.call hb; clear HX hb a0 a1 b0 b1 b2 b3 b4; have HX := Aside0.mk hx; clear hx) | (go_at_call 66; (with_reducible refine (ask_false _).mono ?_); rintro e WW ⟨rfl, hb⟩; have hx := HX.out.call hb; clear HX hb; have HX := Aside0.mk hx; clear hx))
    exact ⟨rfl, HX.out.below, rfl⟩
end Go.Proofs.YtmebkjdknhknbaaGreatDoor.H
end
section
namespace Go.Proofs.YtmebkjdknhknbaaGreatDoor.H
open Go.RowKit Go.Proofs.YtmebkjdknhknbaaGreatDoor.F Go.Proofs.YtmebkjdknhknbaaGreatDoor.C Go.Proofs.YtmebkjdknhknbaaGreatDoorW.PrintWords Go.Proofs.YtmebkjdknhknbaaGreatDoorW.PrintLast Go.Proofs.YtmebkjdknhknbaaGreatDoorW.PrintMore
def eqV (a b : S39) : Bool := (a.f0 == b.f0) && ((a.f1 == b.f1) && (a.f2.toList == b.f2.toList))
theorem eqV_iff (a b : S39) : eqV a b = true ↔ a = b := by
  obtain ⟨a0, a1, a2⟩ := a
  obtain ⟨b0, b1, b2⟩ := b
  simp only [eqV, Bool.and_eq_true, beq_iff_eq, S39.mk.injEq]
  constructor
  · rintro ⟨h0, h1, h2⟩
    refine ⟨h0, h1, ?_⟩
    rw [ByteArray.toList_eq, ByteArray.toList_eq] at h2
    obtain ⟨⟨l⟩⟩ := a2
    obtain ⟨⟨m⟩⟩ := b2
    exact congrArg (fun x => (⟨⟨x⟩⟩ : ByteArray)) h2
  · rintro ⟨rfl, rfl, rfl⟩
    exact ⟨rfl, rfl, rfl⟩
def putsR (l : List S39) (sv v : S39) (hb : Bool) (R : Option (List S39)) (fb : List S39 → Bool) (sv2 : List S39 → S39) : Option (List S39) :=
  if eqV sv v = true then some l else if hb = false then none else match R with | none => none | some l2 => if (fb l2 && eqV (sv2 l2) v) = true then some l2 else none
theorem info105s : (Tryz.prog.info? 105).map (·.size) = some 4 := by kernel_rfl
theorem info76s : (Tryz.prog.info? 76).map (·.size) = some 2 := by kernel_rfl
set_option maxHeartbeats 16000000 in
set_option maxRecDepth 100000 in
theorem puts_to (l0 : List S57) (l : List S39) (x : S29) (v sv : S39) (tv : S49 × Bool) (hb : Bool) (R : Option (List S39)) (fb : List S39 → Bool) (sv2 : List S39 → S39) (kf : Nat) (ar : Int) (ft fs fp : Nat)
    (hk : kindC x.f0 = #[.int .i64 ar, .func (.func ft) #[] #[], .func (.func fs) #[] #[], .func (.func fp) #[] #[]]) (hcf : ∀ args W, Sem.run Tryz.prog (callFunc fp args) W = .ok (.enter fp args) W)
    (hs : ∀ A0 c0, To 33 A0 l0.length c0 l x (.agg (vC sv))) (ho : eqV sv v = false → OfTo l0 x 8 tv) (hh : eqV sv v = false → value_Has.f tv.1.f0 tv.1.f1 tv.1.f2 v.f0 v.f1 v.f2 = some hb)
    (hp : eqV sv v = false → hb = true → PutTo fp l0 l x v R) (hf : eqV sv v = false → hb = true → ∀ l2, R = some l2 → lens_Fit.f kf l0 l2 = some (fb l2)) (hs2 : eqV sv v = false → hb = true → ∀ l2, R = some l2 → fb l2 = true → ∀ A0 c0, To 33 A0 l0.length c0 l2 x (.agg (vC (sv2 l2)))) :
    PutTo 54 l0 l x v (putsR l sv v hb R fb sv2) := by
  intro A0 c0 A1 c1 A c w hgl hc0 hr0 hc1 hr hlc hC
  have hu := Tryz.underlying39
  have hu2 := Tryz.underlying29
  have hu3 := Tryz.underlying76
  have hu4 := Tryz.underlying105
  have hu5 := Tryz.underlying49
  have HX := Aside0.mk (Bxs.start w)
  have HG := Aside0.mk hgl
  have HS : Aside0 (∀ (w' : World), Below w.heap.size w w' → Calls Tryz.prog 33 #[.agg #[.slice A0 l0.length c0, .slice A1 l.length c1], .agg (lC x A c)] w' fun e w'' => e = .returned (.agg (vC sv)) ∧ Below w'.heap.size w' w'') :=
    ⟨fun w' hb => hs A0 c0 A1 c1 A c w' (hgl.below hb) (Kd.C_below hr hb) hlc (Kd.C_below hC hb)⟩
  have HO : Aside0 (eqV sv v = false → ∀ (w' : World), Below w.heap.size w w' → Calls Tryz.prog 45 #[.agg #[.slice A0 l0.length c0, .slice A1 l.length c1], .agg (lC x A c), .int .i64 8] w' fun e w'' => e = .returned (tbC tv) ∧ Below w'.heap.size w' w'') :=
    ⟨fun h w' hb => ho h A0 c0 A1 l.length c1 A c w' (hgl.below hb) (Kd.C_below hr0 hb) hlc (Kd.C_below hC hb)⟩
  have HK : Aside0 (∀ (w' : World), Calls Tryz.prog 55 #[.agg (lC x A c)] w' fun e w'' => e = .returned (.tuple #[.agg #[.int .i64 ar, .func (.func ft) #[] #[], .func (.func fs) #[] #[], .func (.func fp) #[] #[]], .bool (kindB x.f0)]) ∧ Below w'.heap.size w' w'') :=
    ⟨fun w' => by rw [← hk]; exact kindOf_calls x.f0 x.f1 x.f2 x.f3 (.slice A x.f4.length c) w'⟩
  have HH : Aside0 (eqV sv v = false → ∀ (w' : World), Below w.heap.size w w' → Calls Tryz.prog 51 #[.agg (tyC tv.1), .agg (vC v)] w' fun e w'' => e = .returned (.bool hb) ∧ Below w'.heap.size w' w'') :=
    ⟨fun h w' hb => value_Has.calls _ _ _ _ _ _ _ w' (hgl.below hb) (hh h)⟩
  have HP : Aside0 (eqV sv v = false → hb = true → ∀ (w' : World), Below w.heap.size w w' → Calls Tryz.prog fp #[.agg #[.slice A0 l0.length c0, .slice A1 l.length c1], .agg (lC x A c), .agg (vC v)] w' fun e w'' => PutRes A0 l0.length c0 A1 c1 l R w' w'' e) :=
    ⟨fun h1 h2 w' hb => hp h1 h2 A0 c0 A1 c1 A c w' (hgl.below hb) hc0 (Kd.C_below hr0 hb) hc1 (Kd.C_below hr hb) hlc (Kd.C_below hC hb)⟩
  have HF : Aside0 (eqV sv v = false → hb = true → ∀ l2, R = some l2 → ∀ (A2 : Option Addr) (c2 : Nat) (w' : World), Below w.heap.size w w' → Row2 A1 c1 l w' w.heap.size A2 c2 l2 → Calls Tryz.prog 30 #[.slice A0 l0.length c0, .slice A2 l2.length c2] w' fun e w'' => e = .returned (.bool (fb l2)) ∧ Below w'.heap.size w' w'') :=
    ⟨fun h1 h2 l2 h3 A2 c2 w' hb hrow => by
      have hh := hrow.has hc1 (Kd.C_below hr hb)
      exact lens_Fit.calls kf A0 c0 l0 A2 c2 l2 _ w' (Kd.C_below hr0 hb) hc0 hh.2 hh.1 (hgl.below hb) (hf h1 h2 l2 h3)⟩
  have HS2 : Aside0 (eqV sv v = false → hb = true → ∀ l2, R = some l2 → fb l2 = true → ∀ (A2 : Option Addr) (c2 : Nat) (w' : World), Below w.heap.size w w' → Row2 A1 c1 l w' w.heap.size A2 c2 l2 → Calls Tryz.prog 33 #[.agg #[.slice A0 l0.length c0, .slice A2 l2.length c2], .agg (lC x A c)] w' fun e w'' => e = .returned (.agg (vC (sv2 l2))) ∧ Below w'.heap.size w' w'') :=
    ⟨fun h1 h2 l2 h3 h4 A2 c2 w' hb hrow => by
      have hh := hrow.has hc1 (Kd.C_below hr hb)
      exact hs2 h1 h2 l2 h3 h4 A0 c0 A2 c2 A c w' (hgl.below hb) hh.2 hlc (Kd.C_below hC hb)⟩
  obtain ⟨k, a, s, sep, l4⟩ := x
  obtain ⟨RES, hRES⟩ : ∃ X, putsR l sv v hb R fb sv2 = X := ⟨_, rfl⟩
  have HE := Aside0.mk hRES
  rw [hRES]
  clear hRES
  obtain ⟨V0, V1, V2⟩ := v
  obtain ⟨U0, U1, U2⟩ := sv
  obtain ⟨⟨T0, T1, T2⟩, tb⟩ := tv
  generalize kindB _ = kb at HK
  have HEQ : Aside0 (eqV ⟨U0, U1, U2⟩ ⟨V0, V1, V2⟩ = ((U0 == V0) && ((U1 == V1) && (U2.toList == V2.toList)))) := ⟨rfl⟩
  unfold lC vC tbC tyC at *
  dsimp only at HS HO HK HH HP HS2 ⊢
  generalize l4.length = n4 at *
  obtain ⟨n1, hn1⟩ : ∃ n, l.length = n := ⟨_, rfl⟩
  have HN := Aside0.mk hn1
  rw [hn1] at HS HO HP
  generalize l0.length = n0 at *
  rw [hn1]
  clear hn1 hlc hC hr hgl hs hr0 hp ho hh hk hf hs2
  go_enter Tryz.func54, Tryz.ntmps54
  go_upto_region 1 with (first | ((with_reducible refine gate_dst (N := 3) rfl ?_); refine bx_new (w := w) ?hg (N := 3) ?hd (cs := #[.slice A0 n0 c0, .slice A1 n1 c1]) (t := 76) HX.out ?hr ?_; (case hd => rfl); (case hg => rfl); (case hr => first | (go_simp; done) | (go_simp; rfl)); intro g3 W3 hx; clear HX; have HX := Aside0.mk hx; clear hx) | ((with_reducible refine gate_dst (N := 4) rfl ?_); refine bx_new (w := w) ?hg (N := 4) ?hd (cs := #[.int .i64 k, .int .i64 a, .int .i64 s, .string sep, .slice A n4 c]) (t := 29) HX.out ?hr ?_; (case hd => rfl); (case hg => rfl); (case hr => first | (go_simp; done) | (go_simp; rfl)); intro g4 W4 hx; clear HX; have HX := Aside0.mk hx; clear hx) | ((with_reducible refine gate_dst (N := 5) rfl ?_); refine bx_new (w := w) ?hg (N := 5) ?hd (cs := #[.int .i64 V0, .int .i64 V1, .string V2]) (t := 39) HX.out ?hr ?_; (case hd => rfl); (case hg => rfl); (case hr => first | (go_simp; done) | (go_simp; rfl)); intro g5 W5 hx; clear HX; have HX := Aside0.mk hx; clear hx) | ((with_reducible refine gate_dst (N := 6) rfl ?_); refine bx_new (w := w) ?hg (N := 6) ?hd (cs := #[.slice none 0 0, .slice none 0 0]) (t := 76) HX.out ?hr ?_; (case hd => rfl); (case hg => rfl); (case hr => first | (go_simp; done) | (go_simp; rfl)); intro g6 W6 hx; clear HX; have HX := Aside0.mk hx; clear hx))
  simp only [Act.put, List.setIfInBounds_toArray, List.set_cons_zero, List.set_cons_succ]
  have a0 := HX.out.cell 3 0 rfl rfl; have a1 := HX.out.cell 3 1 rfl rfl
  have b0 := HX.out.cell 2 0 rfl rfl; have b1 := HX.out.cell 2 1 rfl rfl; have b2 := HX.out.cell 2 2 rfl rfl; have b3 := HX.out.cell 2 3 rfl rfl; have b4 := HX.out.cell 2 4 rfl rfl
  have v0 := HX.out.cell 1 0 rfl rfl; have v1 := HX.out.cell 1 1 rfl rfl; have v2 := HX.out.cell 1 2 rfl rfl
  obtain ⟨eb, heb⟩ : ∃ eb, eqV ⟨U0, U1, U2⟩ ⟨V0, V1, V2⟩ = eb := ⟨_, rfl⟩
  have hq : ((U0 == V0) && ((U1 == V1) && (U2.toList == V2.toList))) = eb := HEQ.out.symm.trans heb
  refine Reg.wp_det [(some 12, Reg.Dv.c (.agg #[.slice A0 n0 c0, .slice A1 n1 c1])), (some 13, Reg.Dv.c (.agg #[.int .i64 k, .int .i64 a, .int .i64 s, .string sep, .slice A n4 c])), (some 14, Reg.Dv.c (.agg #[.int .i64 U0, .int .i64 U1, .string U2])), (some 15, Reg.Dv.c (.agg #[.int .i64 V0, .int .i64 V1, .string V2])), (some 16, Reg.Dv.c (.bool eb))] [] 53 rfl (by kernel_rfl) rfl (by kernel_rfl) (by kernel_rfl) (by kernel_rfl) rfl (by kernel_rfl) rfl rfl rfl ?step ?done
  case step =>
    intro iq oq pq hiq hoq hpq ρ ev W S hE hO ec ef hB hft hΦ
    have e3 : ev (.tmp 3) = .pointer (some ⟨g3, 0, none⟩) := hO 3 rfl
    have e4 : ev (.tmp 4) = .pointer (some ⟨g4, 0, none⟩) := hO 4 rfl
    have e5 : ev (.tmp 5) = .pointer (some ⟨g5, 0, none⟩) := hO 5 rfl
    have a0' := pw_cell_below hB a0
    have a1' := pw_cell_below hB a1
    have b0' := pw_cell_below hB b0
    have b1' := pw_cell_below hB b1
    have b2' := pw_cell_below hB b2
    have b3' := pw_cell_below hB b3
    have b4' := pw_cell_below hB b4
    have v0' := pw_cell_below hB v0
    have v1' := pw_cell_below hB v1
    have v2' := pw_cell_below hB v2
    simp only [Reg.Ls_some, Reg.Ls_none, Reg.Ls_nil, Reg.val_c, Reg.val_u, Reg.val_n, Reg.val_box, List.forall_mem_cons, List.map_cons, List.map_nil] at hE
    obtain ⟨e12, e13, e14, e15, e16, _⟩ := hE
    have hiq2 : iq = 0 ∨ iq = 1 ∨ iq = 2 ∨ iq = 3 ∨ iq = 4 := by have : iq < 5 := hiq; omega
    clear hiq
    rcases hiq2 with rfl | rfl | rfl | rfl | rfl
    all_goals cases hoq
    all_goals cases hpq
    rotate_left 2
    · refine Reg.DStep.cc (g := 33) (args := #[.agg #[.slice A0 n0 c0, .slice A1 n1 c1], .agg #[.int .i64 k, .int .i64 a, .int .i64 s, .string sep, .slice A n4 c]]) (by first | exact .inl rfl | exact .inr ⟨_, _, _, rfl, rfl, (by assumption)⟩) hB (by go_simp; try rfl) ?_
      exact HS.out W (below_step HX.out.below hB)
    rotate_right 2
    all_goals (refine Reg.DStep.cv (by first | exact .inl rfl | exact .inr ⟨_, _, _, rfl, rfl, (by assumption)⟩) hB ?_; go_simp; try (first | done | rfl | (rw [← hq]; rfl) | (simp [← hq]; done) | (rw [← hq]; by_cases h0 : U0 = V0 <;> by_cases h1 : U1 = V1 <;> by_cases h2 : U2.toList = V2.toList <;> simp [h0, h1, h2])))
  case done =>
    intro ρ W S hB hft hap hΦ
    simp only [Reg.Ls_some, Reg.Ls_none, Reg.Ls_nil, Reg.val_c, Reg.val_u, Reg.val_n, Reg.val_box, List.map_cons, List.map_nil, Reg.puts, Act.put, List.setIfInBounds_toArray, List.set_cons_zero, List.set_cons_succ, List.drop_succ_cons, List.drop_zero, List.length_cons, List.length_nil, Nat.zero_add, Nat.reduceAdd]
    have HX := Aside0.mk (HX.out.call hB)
    clear hΦ hft hap v0 v1 v2 b0 b1 b2 b3 b4 a0 a1 HEQ hq
    cases eb
    · have HO2 := Aside0.mk (HO.out heb)
      have HH2 := Aside0.mk (HH.out heb)
      have HP2 := Aside0.mk (HP.out heb)
      have HF2 := Aside0.mk (HF.out heb)
      have HS3 := Aside0.mk (HS2.out heb)
      have HE2 := HE.out
      unfold putsR at HE2
      rw [if_neg (by rw [heb]; exact Bool.false_ne_true)] at HE2
      have HE3 := Aside0.mk HE2
      clear HE2 HE HO HH HP HF HS2 heb
      have b0 := HX.out.cell 2 0 rfl rfl; have b1 := HX.out.cell 2 1 rfl rfl; have b2 := HX.out.cell 2 2 rfl rfl; have b3 := HX.out.cell 2 3 rfl rfl; have b4 := HX.out.cell 2 4 rfl rfl
      have a0 := HX.out.cell 3 0 rfl rfl; have a1 := HX.out.cell 3 1 rfl rfl
      go_upto_region 4 with (first | (go_at_call 45; (with_reducible refine (HO2.out _ HX.out.below).mono ?_); rintro e WW ⟨rfl, hb⟩; have hx := HX.out.call hb; clear HX hb a0 a1 b0 b1 b2 b3 b4; have HX := Aside0.mk hx; clear hx) | ((with_reducible refine gate_dst (N := 7) rfl ?_); refine bx_new (w := w) ?hg (N := 7) ?hd (cs := #[.int .i64 0, .int .i64 0, .bool false]) (t := 49) HX.out ?hr ?_; (case hd => rfl); (case hg => rfl); (case hr => first | (go_simp; done) | (go_simp; rfl)); intro g7 W7 hx; clear HX; have HX := Aside0.mk hx; clear hx; refine bx_put (w := w) rfl 49 (.tmp 7) (.tmp 22) rfl rfl (L1 := []) (cells := #[.int .i64 T0, .int .i64 T1, .bool T2]) HX.out rfl rfl info49s rfl rfl ?_; intro W8 hx; clear HX; have HX := Aside0.mk hx; clear hx))
      try simp only [Act.put, List.setIfInBounds_toArray, List.set_cons_zero, List.set_cons_succ]
      have t0 := HX.out.cell 0 0 rfl rfl; have t1 := HX.out.cell 0 1 rfl rfl; have t2 := HX.out.cell 0 2 rfl rfl
      have v0 := HX.out.cell 2 0 rfl rfl; have v1 := HX.out.cell 2 1 rfl rfl; have v2 := HX.out.cell 2 2 rfl rfl
      cases hb
      · have HE2 := HE3.out
        rw [if_pos rfl] at HE2
        subst HE2
        clear HE3 HP2 HF2 HS3
        go_wp2_with (first | (go_at_call 51; (with_reducible refine (HH2.out _ HX.out.below).mono ?_); rintro e WW ⟨rfl, hb⟩; have hx := HX.out.call hb; clear HX hb t0 t1 t2 v0 v1 v2; have HX := Aside0.mk hx; clear hx) | (go_at_call 66; (with_reducible refine (ask_false _).mono ?_); rintro e WW ⟨rfl, hb⟩; have hx := HX.out.call hb; clear HX hb; have HX := Aside0.mk hx; clear hx))
        exact ⟨rfl, HX.out.below, rfl⟩
      · have HP3 := Aside0.mk (HP2.out rfl)
        have HF3 := Aside0.mk (HF2.out rfl)
        have HS4 := Aside0.mk (HS3.out rfl)
        have HE2 := HE3.out
        rw [if_neg (by decide)] at HE2
        have HE4 := Aside0.mk HE2
        clear HE2 HE3 HP2 HF2 HS3
        go_upto_region 6 with (first | (go_at_call 51; (with_reducible refine (HH2.out _ HX.out.below).mono ?_); rintro e WW ⟨rfl, hb⟩; have hx := HX.out.call hb; clear HX hb t0 t1 t2 v0 v1 v2; have HX := Aside0.mk hx; clear hx) | (go_at_call 66; (with_reducible refine (ask_true _).mono ?_); rintro e WW ⟨rfl, hb⟩; have hx := HX.out.call hb; clear HX hb; have HX := Aside0.mk hx; clear hx; have b0 := HX.out.cell 3 0 rfl rfl; have b1 := HX.out.cell 3 1 rfl rfl; have b2 := HX.out.cell 3 2 rfl rfl; have b3 := HX.out.cell 3 3 rfl rfl; have b4 := HX.out.cell 3 4 rfl rfl) | (go_at_call 55; (with_reducible refine (HK.out _).mono ?_); rintro e WW ⟨rfl, hb⟩; have hx := HX.out.call hb; clear HX hb b0 b1 b2 b3 b4; have HX := Aside0.mk hx; clear hx) | ((with_reducible refine gate_dst (N := 9) rfl ?_); refine bx_new (w := w) ?hg (N := 9) ?hd (cs := #[.int .i64 0, .nilFunc, .nilFunc, .nilFunc]) (t := 105) HX.out ?hr ?_; (case hd => rfl); (case hg => rfl); (case hr => first | (go_simp; done) | (go_simp; rfl)); intro g9 W9 hx; clear HX; have HX := Aside0.mk hx; clear hx; refine bx_put (w := w) rfl 105 (.tmp 9) (.tmp 31) rfl rfl (L1 := []) (cells := #[.int .i64 ar, .func (.func ft) #[] #[], .func (.func fs) #[] #[], .func (.func fp) #[] #[]]) HX.out rfl rfl info105s rfl rfl ?_; intro W10 hx; clear HX; have HX := Aside0.mk hx; clear hx))
        try simp only [Act.put, List.setIfInBounds_toArray, List.set_cons_zero, List.set_cons_succ]
        have y0 := HX.out.cell 0 0 rfl rfl; have y1 := HX.out.cell 0 1 rfl rfl; have y2 := HX.out.cell 0 2 rfl rfl; have y3 := HX.out.cell 0 3 rfl rfl
        have v0 := HX.out.cell 3 0 rfl rfl; have v1 := HX.out.cell 3 1 rfl rfl; have v2 := HX.out.cell 3 2 rfl rfl
        have b0 := HX.out.cell 4 0 rfl rfl; have b1 := HX.out.cell 4 1 rfl rfl; have b2 := HX.out.cell 4 2 rfl rfl; have b3 := HX.out.cell 4 3 rfl rfl; have b4 := HX.out.cell 4 4 rfl rfl
        have a0 := HX.out.cell 5 0 rfl rfl; have a1 := HX.out.cell 5 1 rfl rfl
        cases R with | none =>
          have HE2 := HE4.out
          try dsimp only at HE2
          subst HE2
          clear HE4 HF3 HS4
          go_wp2_with (first | ((with_reducible refine (HP3.out _ HX.out.below).mono ?_); rintro e WX ⟨hb, rfl⟩; have hx := HX.out.call hb; clear HX hb; have HX := Aside0.mk hx; clear hx))
          exact ⟨rfl, HX.out.below, rfl⟩ | some l2 =>
          have HF4 := Aside0.mk (HF3.out l2 rfl)
          have HS5 := Aside0.mk (HS4.out l2 rfl)
          clear HF3 HS4
          go_upto_region 7 with (first | ((with_reducible refine (HP3.out _ HX.out.below).mono ?_); rintro e WX ⟨hb, A2, c2, rfl, hr⟩; have HROW := Aside0.mk (hr.lower HX.out.below.size); have hx := HX.out.call hb; clear HX hb hr y0 y1 y2 y3 v0 v1 v2 b0 b1 b2 b3 b4 a0 a1; have HX := Aside0.mk hx; clear hx) | ((with_reducible refine gate_dst (N := 11) rfl ?_); refine bx_newB (w := w) ?hg (N := 11) ?hd (cs := #[.slice none 0 0, .slice none 0 0]) (t := 76) HX.out ?hr ?_; (case hd => rfl); (case hg => rfl); (case hr => first | (go_simp; done) | (go_simp; rfl)); intro g11 W11 hx hb; have HROW2 := Aside0.mk (HROW.out.below hb); clear HX HROW hb; have HX := Aside0.mk hx; clear hx; refine bx_putB (w := w) rfl 76 (.tmp 11) (.tmp 38) rfl rfl (L1 := []) (cells := #[.slice A0 n0 c0, .slice A2 l2.length c2]) HX.out rfl rfl info76s rfl rfl ?_; intro W12 hx hk; have HROW := Aside0.mk (HROW2.out.keep (HX.out.at 0 rfl) (by decide) hk); clear HX HROW2 hk; have HX := Aside0.mk hx; clear hx))
          try simp only [Act.put, List.setIfInBounds_toArray, List.set_cons_zero, List.set_cons_succ]
          have m0 : W12.cell? ⟨g11, 0, none⟩ = some (.slice A0 n0 c0) := HX.out.cell 0 0 rfl rfl
          have m1 : W12.cell? ⟨g11, 1, none⟩ = some (.slice A2 l2.length c2) := HX.out.cell 0 1 rfl rfl
          have v0 := HX.out.cell 4 0 rfl rfl; have v1 := HX.out.cell 4 1 rfl rfl; have v2 := HX.out.cell 4 2 rfl rfl
          have b0 := HX.out.cell 5 0 rfl rfl; have b1 := HX.out.cell 5 1 rfl rfl; have b2 := HX.out.cell 5 2 rfl rfl; have b3 := HX.out.cell 5 3 rfl rfl; have b4 := HX.out.cell 5 4 rfl rfl
          generalize sv2 l2 = z2 at *
          obtain ⟨Z0, Z1, Z2⟩ := z2
          dsimp only at HS5
          obtain ⟨fv, hfv⟩ : ∃ fv, fb l2 = fv := ⟨_, rfl⟩
          have HE2 := HE4.out
          try dsimp only at HE2
          rw [hfv] at HE2 HF4 HS5
          clear HE4
          obtain ⟨e2, he2⟩ : ∃ e2, eqV ⟨Z0, Z1, Z2⟩ ⟨V0, V1, V2⟩ = e2 := ⟨_, rfl⟩
          have hq : ((Z0 == V0) && ((Z1 == V1) && (Z2.toList == V2.toList))) = e2 := he2
          rw [he2] at HE2
          have HL := Aside0.mk (And.intro hfv he2)
          clear hfv he2
          cases fv
          · rw [if_neg (by simp)] at HE2
            subst HE2
            refine Reg.wp_det [(some 39, Reg.Dv.c (.pointer (some ⟨g11, 0, none⟩))), (some 40, Reg.Dv.c (.slice A0 n0 c0)), (some 41, Reg.Dv.c (.pointer (some ⟨g11, 1, none⟩))), (some 42, Reg.Dv.c (.slice A2 l2.length c2)), (some 43, Reg.Dv.c (.bool false)), (some 44, Reg.Dv.c (.bool false)), (some 45, Reg.Dv.c undef), (some 46, Reg.Dv.c undef), (some 47, Reg.Dv.c undef), (some 48, Reg.Dv.c undef), (some 49, Reg.Dv.c undef), (some 50, Reg.Dv.c (.bool false))] [] 53 rfl (by kernel_rfl) rfl (by kernel_rfl) (by kernel_rfl) (by kernel_rfl) rfl (by kernel_rfl) rfl rfl rfl ?step ?done
            case step =>
              intro iq oq pq hiq hoq hpq ρ ev W S hE hO ec ef hB hft hΦ
              have e4 : ev (.tmp 4) = .pointer (some ⟨g4, 0, none⟩) := hO 4 rfl
              have e5 : ev (.tmp 5) = .pointer (some ⟨g5, 0, none⟩) := hO 5 rfl
              have e11 : ev (.tmp 11) = .pointer (some ⟨g11, 0, none⟩) := hO 11 rfl
              have m0' := pw_cell_below hB m0
              have m1' := pw_cell_below hB m1
              have b0' := pw_cell_below hB b0
              have b1' := pw_cell_below hB b1
              have b2' := pw_cell_below hB b2
              have b3' := pw_cell_below hB b3
              have b4' := pw_cell_below hB b4
              have v0' := pw_cell_below hB v0
              have v1' := pw_cell_below hB v1
              have v2' := pw_cell_below hB v2
              simp only [Reg.Ls_some, Reg.Ls_none, Reg.Ls_nil, Reg.val_c, Reg.val_u, Reg.val_n, Reg.val_box, List.forall_mem_cons, List.map_cons, List.map_nil] at hE
              obtain ⟨e39, e40, e41, e42, e43, e44, e45, e46, e47, e48, e49, e50, _⟩ := hE
              have hiq2 : iq = 0 ∨ iq = 1 ∨ iq = 2 ∨ iq = 3 ∨ iq = 4 ∨ iq = 5 ∨ iq = 6 ∨ iq = 7 ∨ iq = 8 ∨ iq = 9 ∨ iq = 10 ∨ iq = 11 := by have : iq < 12 := hiq; omega
              clear hiq
              rcases hiq2 with rfl | rfl | rfl | rfl | rfl | rfl | rfl | rfl | rfl | rfl | rfl | rfl
              all_goals cases hoq
              all_goals cases hpq
              rotate_left 4
              · refine Reg.DStep.cc (g := 30) (args := #[.slice A0 n0 c0, .slice A2 l2.length c2]) (by first | exact .inl rfl | exact .inr ⟨_, _, _, rfl, rfl, (by assumption)⟩) hB (by go_simp; try rfl) ?_
                exact HF4.out A2 c2 W (below_step HX.out.below hB) (HROW.out.below hB)
              rotate_right 4
              all_goals (first | (exact Reg.DStep.sk ⟨_, _, _, rfl, rfl, (by first | exact .inl ⟨_, (by assumption), (by decide)⟩ | exact .inr (by assumption))⟩ hB) | skip)
              all_goals (refine Reg.DStep.cv (by first | exact .inl rfl | exact .inr ⟨_, _, _, rfl, rfl, (by assumption)⟩) hB ?_; go_simp; try (first | done | rfl | (rw [← hq]; by_cases h0 : Z0 = V0 <;> by_cases h1 : Z1 = V1 <;> by_cases h2 : Z2.toList = V2.toList <;> simp [h0, h1, h2]) | (cases e2 <;> rfl)))
            case done =>
              intro ρ W S hB hft hap hΦ
              simp only [Reg.Ls_some, Reg.Ls_none, Reg.Ls_nil, Reg.val_c, Reg.val_u, Reg.val_n, Reg.val_box, List.map_cons, List.map_nil, Reg.puts, Act.put, List.setIfInBounds_toArray, List.set_cons_zero, List.set_cons_succ, List.drop_succ_cons, List.drop_zero, List.length_cons, List.length_nil, Nat.zero_add, Nat.reduceAdd]
              have HX := Aside0.mk (HX.out.call hB)
              clear hΦ hft hap v0 v1 v2 b0 b1 b2 b3 b4 m0 m1 hq
              go_wp2_with (first | (go_at_call 66; (with_reducible refine (ask_false _).mono ?_); rintro e WW ⟨rfl, hb⟩; have hx := HX.out.call hb; clear HX hb; have HX := Aside0.mk hx; clear hx))
              exact ⟨rfl, HX.out.below, rfl⟩
          · have HE5 := Aside0.mk HE2
            clear HE2
            refine Reg.wp_det [(some 39, Reg.Dv.c (.pointer (some ⟨g11, 0, none⟩))), (some 40, Reg.Dv.c (.slice A0 n0 c0)), (some 41, Reg.Dv.c (.pointer (some ⟨g11, 1, none⟩))), (some 42, Reg.Dv.c (.slice A2 l2.length c2)), (some 43, Reg.Dv.c (.bool true)), (some 44, Reg.Dv.c (.bool true)), (some 45, Reg.Dv.c (.agg #[.slice A0 n0 c0, .slice A2 l2.length c2])), (some 46, Reg.Dv.c (.agg #[.int .i64 k, .int .i64 a, .int .i64 s, .string sep, .slice A n4 c])), (some 47, Reg.Dv.c (.agg #[.int .i64 Z0, .int .i64 Z1, .string Z2])), (some 48, Reg.Dv.c (.agg #[.int .i64 V0, .int .i64 V1, .string V2])), (some 49, Reg.Dv.c (.bool e2)), (some 50, Reg.Dv.c (.bool e2))] [] 53 rfl (by kernel_rfl) rfl (by kernel_rfl) (by kernel_rfl) (by kernel_rfl) rfl (by kernel_rfl) rfl rfl rfl ?step ?done
            case step =>
              intro iq oq pq hiq hoq hpq ρ ev W S hE hO ec ef hB hft hΦ
              have e4 : ev (.tmp 4) = .pointer (some ⟨g4, 0, none⟩) := hO 4 rfl
              have e5 : ev (.tmp 5) = .pointer (some ⟨g5, 0, none⟩) := hO 5 rfl
              have e11 : ev (.tmp 11) = .pointer (some ⟨g11, 0, none⟩) := hO 11 rfl
              have m0' := pw_cell_below hB m0
              have m1' := pw_cell_below hB m1
              have b0' := pw_cell_below hB b0
              have b1' := pw_cell_below hB b1
              have b2' := pw_cell_below hB b2
              have b3' := pw_cell_below hB b3
              have b4' := pw_cell_below hB b4
              have v0' := pw_cell_below hB v0
              have v1' := pw_cell_below hB v1
              have v2' := pw_cell_below hB v2
              simp only [Reg.Ls_some, Reg.Ls_none, Reg.Ls_nil, Reg.val_c, Reg.val_u, Reg.val_n, Reg.val_box, List.forall_mem_cons, List.map_cons, List.map_nil] at hE
              obtain ⟨e39, e40, e41, e42, e43, e44, e45, e46, e47, e48, e49, e50, _⟩ := hE
              have hiq2 : iq = 0 ∨ iq = 1 ∨ iq = 2 ∨ iq = 3 ∨ iq = 4 ∨ iq = 5 ∨ iq = 6 ∨ iq = 7 ∨ iq = 8 ∨ iq = 9 ∨ iq = 10 ∨ iq = 11 := by have : iq < 12 := hiq; omega
              clear hiq
              rcases hiq2 with rfl | rfl | rfl | rfl | rfl | rfl | rfl | rfl | rfl | rfl | rfl | rfl
              all_goals cases hoq
              all_goals cases hpq
              rotate_left 8
              · refine Reg.DStep.cc (g := 33) (args := #[.agg #[.slice A0 n0 c0, .slice A2 l2.length c2], .agg #[.int .i64 k, .int .i64 a, .int .i64 s, .string sep, .slice A n4 c]]) (by first | exact .inl rfl | exact .inr ⟨_, _, _, rfl, rfl, (by assumption)⟩) hB (by go_simp; try rfl) ?_
                exact HS5.out rfl A2 c2 W (below_step HX.out.below hB) (HROW.out.below hB)
              rotate_right 8
              rotate_left 4
              · refine Reg.DStep.cc (g := 30) (args := #[.slice A0 n0 c0, .slice A2 l2.length c2]) (by first | exact .inl rfl | exact .inr ⟨_, _, _, rfl, rfl, (by assumption)⟩) hB (by go_simp; try rfl) ?_
                exact HF4.out A2 c2 W (below_step HX.out.below hB) (HROW.out.below hB)
              rotate_right 4
              all_goals (refine Reg.DStep.cv (by first | exact .inl rfl | exact .inr ⟨_, _, _, rfl, rfl, (by assumption)⟩) hB ?_; go_simp; try (first | done | rfl | (rw [← hq]; by_cases h0 : Z0 = V0 <;> by_cases h1 : Z1 = V1 <;> by_cases h2 : Z2.toList = V2.toList <;> simp [h0, h1, h2]) | (cases e2 <;> rfl)))
            case done =>
              intro ρ W S hB hft hap hΦ
              simp only [Reg.Ls_some, Reg.Ls_none, Reg.Ls_nil, Reg.val_c, Reg.val_u, Reg.val_n, Reg.val_box, List.map_cons, List.map_nil, Reg.puts, Act.put, List.setIfInBounds_toArray, List.set_cons_zero, List.set_cons_succ, List.drop_succ_cons, List.drop_zero, List.length_cons, List.length_nil, Nat.zero_add, Nat.reduceAdd]
              have HROW3 := Aside0.mk (HROW.out.below hB)
              have HX := Aside0.mk (HX.out.call hB)
              clear HROW hΦ hft hap v0 v1 v2 b0 b1 b2 b3 b4 m0 m1 hq
              cases e2
              · have HE2 := HE5.out
                rw [if_neg (by decide)] at HE2
                subst HE2
                go_wp2_with (first | (go_at_call 66; (with_reducible refine (ask_false _).mono ?_); rintro e WW ⟨rfl, hb⟩; have hx := HX.out.call hb; clear HX hb; have HX := Aside0.mk hx; clear hx))
                exact ⟨rfl, HX.out.below, rfl⟩
              · have HE2 := HE5.out
                rw [if_pos (show (true && true) = true from rfl)] at HE2
                subst HE2
                go_wp2_with (first | (go_at_call 66; (with_reducible refine (ask_true _).mono ?_); rintro e WW ⟨rfl, hb⟩; have HROW4 := Aside0.mk (HROW3.out.below hb); have hx := HX.out.call hb; clear HX hb; have HX := Aside0.mk hx; clear hx; have m0 := HX.out.cell 0 0 rfl rfl; have m1 := HX.out.cell 0 1 rfl rfl; have x0 := HX.out.cell 3 0 rfl rfl; have x1 := HX.out.cell 3 1 rfl rfl; have z0 := HX.out.frz 3 0 rfl; have z1 := HX.out.frz 3 1 rfl))
                have HY := (HX.out.set (L1 := [_, _, _]) 0 (.slice A0 n0 c0)).set (L1 := [_, _, _]) 1 (.slice A2 l2.length c2)
                refine bodyPost_ret (results_cell_row rfl _ _ g6 76 #[.slice A0 n0 c0, .slice A2 l2.length c2] (0, 0) _ rfl (HY.at 3 rfl) hu3 rfl (by kernel_rfl)) rfl ?_
                exact ⟨HY.below, A2, c2, rfl, (HROW4.out.set (HX.out.at 3 rfl) (by decide) _ _).set ((HX.out.set (L1 := [_, _, _]) 0 (.slice A0 n0 c0)).at 3 rfl) (by decide) _ _⟩
    · have HE2 := HE.out
      unfold putsR at HE2
      rw [if_pos heb] at HE2
      subst HE2
      clear HE HO HH HP HF HS2 heb
      have a0 := HX.out.cell 3 0 rfl rfl; have a1 := HX.out.cell 3 1 rfl rfl
      have x0 := HX.out.cell 0 0 rfl rfl; have x1 := HX.out.cell 0 1 rfl rfl
      have z0 := HX.out.frz 0 0 rfl; have z1 := HX.out.frz 0 1 rfl
      go_wp2_with fail
      have HY := (HX.out.set (L1 := []) 0 (.slice A0 n0 c0)).set (L1 := []) 1 (.slice A1 n1 c1)
      refine bodyPost_ret (results_cell_row rfl _ _ g6 76 #[.slice A0 n0 c0, .slice A1 n1 c1] (0, 0) _ rfl (HY.at 0 rfl) hu3 rfl (by kernel_rfl)) rfl ?_
      exact ⟨HY.below, A1, c1, by rw [HN.out], .inl ⟨rfl, rfl, rfl⟩⟩
end Go.Proofs.YtmebkjdknhknbaaGreatDoor.H
end
section
namespace Go.Proofs.YtmebkjdknhknbaaGreatDoor.H
open Go.RowKit Go.Proofs.YtmebkjdknhknbaaGreatDoor.F Go.Proofs.YtmebkjdknhknbaaGreatDoor.C Go.Proofs.YtmebkjdknhknbaaGreatDoorW.PrintWords Go.Proofs.YtmebkjdknhknbaaGreatDoorW.PrintLast Go.Proofs.YtmebkjdknhknbaaGreatDoorW.PrintMore
def hasV (t : S49) (v : S39) : Bool := hasB t.f0 t.f1 t.f2 v.f0 v.f1 v.f2
def putK (rec : List S39 → S29 → S39 → Option (List S39)) (k : Nat) (l : List S39) (x : S29) (v : S39) : Option (List S39) :=
  if x.f0 ≤ 2 then some (l.set x.f1.toNat v) else if x.f0 = 3 then putTextV l x v
  else if x.f0 = 4 then (if v.f0 = 3 ∧ hasSep v.f2 x.f3 = false then rec l (rd_T29 x.f4 (0 : Nat)) (joinV v (behindV (shV k l (rd_T29 x.f4 (0 : Nat))) x.f3) x.f3) else none)
  else if x.f0 = 5 then (if (aheadV (shV k l (rd_T29 x.f4 (0 : Nat))) x.f3).f0 = 3 then rec l (rd_T29 x.f4 (0 : Nat)) (joinV (aheadV (shV k l (rd_T29 x.f4 (0 : Nat))) x.f3) v x.f3) else none)
  else (if (joinV (shV k l (rd_T29 x.f4 (0 : Nat))) (shV k l (rd_T29 x.f4 (1 : Nat))) x.f3).f2.size ≤ 40 then (rec l (rd_T29 x.f4 (0 : Nat)) (aheadV v x.f3)).bind fun l2 => rec l2 (rd_T29 x.f4 (1 : Nat)) (behindV v x.f3) else none)
def putsV : Nat → List S57 → List S39 → S29 → S39 → Option (List S39)
  | 0, _, _, _, _ => none
  | k + 1, l0, l, x, v => putsR l (shV (k + 1) l x) v (hasV (ofV (k + 1) l0 x 8).1 v) (putK (putsV k l0) k l x v) (fun l2 => fitL l0 l2) (fun l2 => shV (k + 1) l2 x)
theorem putsV_succ (k : Nat) (l0 : List S57) (l : List S39) (x : S29) (v : S39) : putsV (k + 1) l0 l x v = putsR l (shV (k + 1) l x) v (hasV (ofV (k + 1) l0 x 8).1 v) (putK (putsV k l0) k l x v) (fun l2 => fitL l0 l2) (fun l2 => shV (k + 1) l2 x) := rfl
theorem putsV_fit {k : Nat} {l0 : List S57} {l l2 : List S39} {x : S29} {v : S39} (hf : fitL l0 l = true) (h : putsV k l0 l x v = some l2) : fitL l0 l2 = true := by
  cases k with
  | zero => cases h
  | succ k =>
    rw [putsV_succ] at h
    unfold putsR at h
    split at h
    · obtain rfl := Option.some.inj h; exact hf
    · split at h
      · cases h
      · split at h
        · cases h
        · split at h
          · rename_i hc
            obtain rfl := Option.some.inj h
            rw [Bool.and_eq_true] at hc
            exact hc.1
          · cases h
theorem has_size {t : S49} {v : S39} (h : hasV t v = true) : v.f2.size ≤ 40 := by
  unfold hasV hasB at h
  simp only [Bool.and_eq_true] at h
  exact (ck_like (.inl rfl) h.2.1).1
theorem join_size (a b : S39) (sep : ByteArray) : (joinV a b sep).f2.size ≤ a.f2.size + sep.size + b.f2.size := by
  unfold joinV
  split
  · omega
  · show (a.f2 ++ sep ++ b.f2).size ≤ _
    rw [ByteArray.size_append, ByteArray.size_append]; exact Nat.le_refl _
theorem puts_all (l0 : List S57) (hz : l0.length ≤ 1000000) : ∀ (k : Nat) (x : S29), vOk k l0 x → ∀ (l : List S39) (v : S39), fitL l0 l = true → PutTo 54 l0 l x v (putsV k l0 l x v) := by
  intro k
  induction k with
  | zero => intro x h; exact h.1.elim
  | succ k ih =>
    intro x h l v hf
    have hlen := fit_len hf
    have main : ∀ (ar : Int) (ft fs fp : Nat), kindC x.f0 = #[.int .i64 ar, .func (.func ft) #[] #[], .func (.func fs) #[] #[], .func (.func fp) #[] #[]] → (∀ args W, Sem.run Tryz.prog (callFunc fp args) W = .ok (.enter fp args) W) → (v.f2.size ≤ 40 → PutTo fp l0 l x v (putK (putsV k l0) k l x v)) → PutTo 54 l0 l x v (putsV (k + 1) l0 l x v) := by
      intro ar ft fs fp hk hcf hp
      rw [putsV_succ]
      exact puts_to l0 l x v (shV (k + 1) l x) (ofV (k + 1) l0 x 8) _ _ _ _ (2 * l0.length + 1) ar ft fs fp hk hcf (fun A0 c0 => shows_all A0 _ c0 l (k + 1) x (show_ok hf _ _ h).1) (fun _ => of_all l0 (k + 1) x h.1 8 ⟨by decide, by decide⟩) (fun _ => has_f _ _ _ _ _ _)
        (fun _ hb => hp (has_size hb)) (fun _ _ l2 _ => fit_f l0 l2 (by omega)) (fun _ _ l2 _ h2 A0 c0 => shows_all A0 _ c0 l2 (k + 1) x (show_ok h2 _ _ h).1)
    by_cases hx : x.f0 ≤ 3
    · obtain ⟨⟨h1, h2, h3⟩, h4⟩ := vOk_plain h hx
      have hv := putValue_to l0 l x v h2 (by omega) (by omega)
      by_cases e1 : x.f0 = 1
      · exact main 0 67 68 69 (by rw [e1]; rfl) (enter_of Tryz.func69 (by kernel_rfl) rfl) (fun _ => by unfold putK; rw [if_pos (by omega)]; exact hv)
      by_cases e2 : x.f0 = 2
      · exact main 0 70 71 69 (by rw [e2]; rfl) (enter_of Tryz.func69 (by kernel_rfl) rfl) (fun _ => by unfold putK; rw [if_pos (by omega)]; exact hv)
      have e3 : x.f0 = 3 := by omega
      refine main 0 72 73 74 (by rw [e3]; rfl) (enter_of Tryz.func74 (by kernel_rfl) rfl) (fun hs => ?_)
      unfold putK
      rw [if_neg (by omega), if_pos e3]
      exact putText_to l0 l x v h2 (by omega) (by omega) (parseR v.f2.data.toList x.f2).1 (parseR v.f2.data.toList x.f2).2 (fun _ => by unfold decimal_Parse.f; rw [if_pos (by omega)])
    · obtain ⟨h1, h2, h3⟩ := vOk_parts h hx
      have hk0 : 0 < x.f4.length := by split at h3 <;> omega
      have v0 := vOk_kid h 0 hk0
      have s0 := show_ok hf _ _ v0
      have hsh := fun A0 c0 => shows_all A0 l0.length c0 l k (rd_T29 x.f4 (0 : Nat)) s0.1
      have ha := ahead_size (shV k l (rd_T29 x.f4 (0 : Nat))) x.f3
      have hb := behind_size (shV k l (rd_T29 x.f4 (0 : Nat))) x.f3
      have hs0 := s0.2
      by_cases e4 : x.f0 = 4
      · refine main 1 75 76 77 (by rw [e4]; rfl) (enter_of Tryz.func77 (by kernel_rfl) rfl) (fun hs => ?_)
        unfold putK
        rw [if_neg (by omega), if_neg (by omega), if_pos e4]
        exact putFirst_to l0 l x v (shV k l (rd_T29 x.f4 (0 : Nat))) _ hk0 ⟨Nat.le_trans hs0 (by decide), by omega, by omega, by omega⟩ hsh (fun _ _ => ih _ v0 l _ hf)
      by_cases e5 : x.f0 = 5
      · refine main 1 75 78 79 (by rw [e5]; rfl) (enter_of Tryz.func79 (by kernel_rfl) rfl) (fun hs => ?_)
        unfold putK
        rw [if_neg (by omega), if_neg (by omega), if_neg (by omega), if_pos e5]
        exact putRest_to l0 l x v (shV k l (rd_T29 x.f4 (0 : Nat))) _ hk0 ⟨Nat.le_trans hs0 (by decide), by omega, by omega, by omega⟩ hsh (fun _ => ih _ v0 l _ hf)
      have e6 : x.f0 = 6 := by omega
      have hk1 : 1 < x.f4.length := by rw [e6] at h3; simp at h3; omega
      have v1 := vOk_kid h 1 hk1
      have s1 := show_ok hf _ _ v1
      have hs1 := s1.2
      have hj := join_size (shV k l (rd_T29 x.f4 (0 : Nat))) (shV k l (rd_T29 x.f4 (1 : Nat))) x.f3
      refine main 2 75 80 81 (by rw [e6]; rfl) (enter_of Tryz.func81 (by kernel_rfl) rfl) (fun hs => ?_)
      unfold putK
      rw [if_neg (by omega), if_neg (by omega), if_neg (by omega), if_neg (by omega)]
      exact putBoth_to l0 l x v _ _ _ hk1 (by omega) (by omega) (fun A0 c0 => joined_to A0 _ c0 l x _ _ hk1 ⟨Nat.le_trans hs0 (by decide), Nat.le_trans hs1 (by decide), by omega⟩ (hsh A0 c0) (shows_all A0 _ c0 l k _ s1.1)) (fun _ => ih _ v0 l _ hf) (fun _ l2 h2 => ih _ v1 l2 _ (putsV_fit hf h2))
end Go.Proofs.YtmebkjdknhknbaaGreatDoor.H
end
section
namespace Go.Proofs.YtmebkjdknhknbaaGreatDoor.H
open Go.RowKit Go.Proofs.YtmebkjdknhknbaaGreatDoorW.PrintWords Go.Proofs.YtmebkjdknhknbaaGreatDoorW.PrintLast Go.Proofs.YtmebkjdknhknbaaGreatDoorW.PrintMore
set_option maxHeartbeats 4000000 in
set_option maxRecDepth 100000 in
theorem catch_panicking (w0 w : World) (g8 g9 n c : Nat) (x : Int) (A : Option Addr) (L : List (Nat × Nat × Array Value)) (older : List PanicEntry) (hX : Bxs w0 w ((g9, 34, #[.int .i64 x]) :: (g8, 30, #[.slice A n c]) :: L)) :
    CallsD Tryz.prog 53 #[.pointer (some ⟨g8, 0, none⟩), .pointer (some ⟨g9, 0, none⟩)] (.panicking (failE :: older)) w fun e u' w' =>
      e = .returned (.tuple #[]) ∧ u' = .panicking ({ failE with recovered := true } :: older) ∧ ∃ g, Bxs w0 w' ((g, 98, #[]) :: (g9, 34, #[.int .i64 160]) :: (g8, 30, #[.slice none 0 0]) :: L) := by
  have HX := Aside0.mk hX
  clear hX
  refine callsD_of_wpS Tryz.func53 rfl fun c₀ cs hu => ?_
  unfold failE at hu
  apply wpS_seq
  apply wpS_region
  simp [wpOpsS, go_sem, recoverD, hu, Tryz.ntmps53, Exit.thenS]
  apply wpS_seq
  apply wpS_region
  simp [wpOpsS, go_sem, Tryz.ntmps53, Exit.thenS]
  refine wpS_cond (t := true) (by simp [Act.eval, Array.replicate]) ?_
  simp only [if_true]
  refine wpS_of_wp ?_
  have hr : (Array.replicate 14 undef : Array Value) = #[undef, undef, undef, undef, undef, undef, undef, undef, undef, undef, undef, undef, undef, undef] := rfl
  have hta : ∀ W : World, Sem.run Tryz.prog (Instr.typeAssert (.iface 98 (.agg #[])) 20 98 true) W = .ok (.tuple #[.agg #[], .bool true]) W := fun W => by kernel_rfl
  simp only [hr, List.setIfInBounds_toArray, List.set_cons_zero, List.set_cons_succ, List.append_toArray, List.cons_append, List.nil_append]
  clear hr
  go_upto_region 3 with (first | ((with_reducible refine gate_dst (N := 3) rfl ?_); refine bx_new (w := w0) ?hg (N := 3) ?hd (cs := #[]) (t := 98) HX.out ?hr ?_; (case hd => rfl); (case hg => rfl); (case hr => first | (go_simp; done) | (go_simp; rfl)); intro g3 W3 hx; clear HX; have HX := Aside0.mk hx; clear hx))
  go_upto_region 5 with (fail)
  have a0 : W3.cell? ⟨g8, 0, none⟩ = some (.slice A n c) := HX.out.cell 2 0 rfl rfl
  have a1 : W3.frozen? ⟨g8, 0, none⟩ = false := HX.out.frz 2 0 rfl
  have HY := HX.out.set (L1 := [_, _]) 0 (.slice none 0 0)
  have b0 : (W3.setCell ⟨g8, 0, none⟩ (.slice none 0 0)).cell? ⟨g9, 0, none⟩ = some (.int .i64 x) := HY.cell 1 0 rfl rfl
  have b1 : (W3.setCell ⟨g8, 0, none⟩ (.slice none 0 0)).frozen? ⟨g9, 0, none⟩ = false := HY.frz 1 0 rfl
  go_wp2_with fail
  have HZ : ∃ g, Bxs w0 ((W3.setCell ⟨g8, 0, none⟩ (.slice none 0 0)).setCell ⟨g9, 0, none⟩ (.int .i64 160)) ((g, 98, #[]) :: (g9, 34, #[.int .i64 160]) :: (g8, 30, #[.slice none 0 0]) :: L) := ⟨g3, HY.set (L1 := [_]) 0 (.int .i64 160)⟩
  simp [bodyPostS, results, Tryz.results53, failE]
  exact HZ
theorem catch_idle (p q : Addr) (w : World) :
    CallsD Tryz.prog 53 #[.pointer (some p), .pointer (some q)] .returning w fun e u' w' => e = .returned (.tuple #[]) ∧ u' = .returning ∧ w' = w := by
  refine callsD_of_wpS Tryz.func53 rfl fun c₀ cs hu => ?_
  apply wpS_seq
  apply wpS_region
  simp [wpOpsS, go_sem, recoverD, hu, Tryz.ntmps53, Exit.thenS]
  apply wpS_seq
  apply wpS_region
  simp [wpOpsS, go_sem, Tryz.ntmps53, Exit.thenS]
  refine wpS_cond (t := false) (by simp [Act.eval, Array.replicate]) ?_
  simp only [Bool.false_eq_true, if_false]
  refine wpS_of_wp (wp_skip ?_)
  cases c₀
  simp_all [bodyPostS, results, Tryz.results53]
def putOut (A1 : Option Addr) (c1 : Nat) (l : List S39) (r : Option (List S39)) (w w' : World) (e : Ending) : Prop :=
  Below w.heap.size w w' ∧ match r with | some l' => ∃ A2 c2, e = .returned (.tuple #[.slice A2 l'.length c2, .int .i64 0]) ∧ Row2 A1 c1 l w' w.heap.size A2 c2 l' | none => e = .returned (.tuple #[.slice none 0 0, .int .i64 160])
set_option maxHeartbeats 4000000 in
set_option maxRecDepth 100000 in
theorem Put_calls (l0 : List S57) (l : List S39) (x : S29) (v : S39) (R : Option (List S39)) (hp : PutTo 54 l0 l x v R) (A0 : Option Addr) (c0 : Nat) (A1 : Option Addr) (c1 : Nat) (A : Option Addr) (c : Nat) (w : World) (hgl : Gl w) (hc0 : l0.length ≤ c0) (hr0 : Kd.C k57 w A0 l0.length l0) (hc1 : l.length ≤ c1) (hr : Kd.C k39 w A1 l.length l) (hlc : x.f4.length ≤ c) (hC : k29.C w A x.f4.length x.f4) :
    Calls Tryz.prog 32 #[.slice A0 l0.length c0, .agg (lC x A c), .slice A1 l.length c1, .agg (vC v)] w fun e w' => putOut A1 c1 l R w w' e := by
  have hmf : ∀ (fn : Fn) (first cap : Array Value) (w : World), (Instr.makeFunc fn first cap).run Tryz.prog w = .ok (.func fn first cap) w := fun _ _ _ _ => rfl
  have hfl : ∀ (B : Option Addr) (m d : Nat) (B2 : Option Addr) (m2 d2 : Nat) (W : World), Sem.run Tryz.prog (Instr.field 76 (.agg #[.slice B m d, .slice B2 m2 d2]) 1) W = .ok (.slice B2 m2 d2) W := fun _ _ _ _ _ _ _ => by kernel_rfl
  have hu := Tryz.underlying39
  have hu2 := Tryz.underlying29
  have hu3 := Tryz.underlying76
  have HX := Aside0.mk (Bxs.start w)
  have HP : Aside0 (∀ (w' : World), Below w.heap.size w w' → Calls Tryz.prog 54 #[.agg #[.slice A0 l0.length c0, .slice A1 l.length c1], .agg (lC x A c), .agg (vC v)] w' fun e w'' => PutRes A0 l0.length c0 A1 c1 l R w' w'' e) :=
    ⟨fun w' hb => hp A0 c0 A1 c1 A c w' (hgl.below hb) hc0 (Kd.C_below hr0 hb) hc1 (Kd.C_below hr hb) hlc (Kd.C_below hC hb)⟩
  obtain ⟨k, a, s, sep, l4⟩ := x
  obtain ⟨V0, V1, V2⟩ := v
  unfold lC vC at *
  dsimp only at HP ⊢
  generalize l4.length = n4 at *
  obtain ⟨n1, hn1⟩ : ∃ n, l.length = n := ⟨_, rfl⟩
  rw [hn1] at HP ⊢
  generalize l0.length = n0 at *
  clear hr hC hlc hgl hr0 hn1 hp
  go_enter_defers Tryz.func32, Tryz.ntmps32
  go_upto_region 2 with (first | ((with_reducible refine gate_dst (N := 5) rfl ?_); refine bx_new (w := w) ?hg (N := 5) ?hd (cs := #[.int .i64 k, .int .i64 a, .int .i64 s, .string sep, .slice A n4 c]) (t := 29) HX.out ?hr ?_; (case hd => rfl); (case hg => rfl); (case hr => first | (go_simp; done) | (go_simp; rfl)); intro g5 W5 hx; clear HX; have HX := Aside0.mk hx; clear hx) | ((with_reducible refine gate_dst (N := 7) rfl ?_); refine bx_new (w := w) ?hg (N := 7) ?hd (cs := #[.int .i64 V0, .int .i64 V1, .string V2]) (t := 39) HX.out ?hr ?_; (case hd => rfl); (case hg => rfl); (case hr => first | (go_simp; done) | (go_simp; rfl)); intro g7 W7 hx; clear HX; have HX := Aside0.mk hx; clear hx) | ((with_reducible refine gate_dst (N := 8) rfl ?_); refine bx_new (w := w) ?hg (N := 8) ?hd (cs := #[.slice none 0 0]) (t := 30) HX.out ?hr ?_; (case hd => rfl); (case hg => rfl); (case hr => first | (go_simp; done) | (go_simp; rfl)); intro g8 W8 hx; clear HX; have HX := Aside0.mk hx; clear hx) | ((with_reducible refine gate_dst (N := 9) rfl ?_); refine bx_new (w := w) ?hg (N := 9) ?hd (cs := #[.int .i64 0]) (t := 34) HX.out ?hr ?_; (case hd => rfl); (case hg => rfl); (case hr => first | (go_simp; done) | (go_simp; rfl)); intro g9 W9 hx; clear HX; have HX := Aside0.mk hx; clear hx))
  try simp only [Act.put, List.setIfInBounds_toArray, List.set_cons_zero, List.set_cons_succ]
  have b0 := HX.out.cell 3 0 rfl rfl; have b1 := HX.out.cell 3 1 rfl rfl; have b2 := HX.out.cell 3 2 rfl rfl; have b3 := HX.out.cell 3 3 rfl rfl; have b4 := HX.out.cell 3 4 rfl rfl
  have v0 := HX.out.cell 2 0 rfl rfl; have v1 := HX.out.cell 2 1 rfl rfl; have v2 := HX.out.cell 2 2 rfl rfl
  rcases R with _ | l2
  · go_wp2_with (first | (go_at_call 54; (with_reducible refine (HP.out _ HX.out.below).mono ?_); rintro e WX ⟨hb, rfl⟩; have hx := HX.out.call hb; clear HX hb b0 b1 b2 b3 b4 v0 v1 v2; have HX := Aside0.mk hx; clear hx))
    refine leaves_cons (f := 53) (args := #[.pointer (some ⟨g8, 0, none⟩), .pointer (some ⟨g9, 0, none⟩)]) (by simp) (by simp [go_sem]) ?_
    refine (catch_panicking w WX g8 g9 0 0 0 none _ [] HX.out).mono ?_
    rintro e u' w'' ⟨rfl, rfl, g, hx⟩
    have y0 : w''.cell? ⟨g8, 0, none⟩ = some (.slice none 0 0) := hx.cell 2 0 rfl rfl
    have y1 : w''.cell? ⟨g9, 0, none⟩ = some (.int .i64 160) := hx.cell 1 0 rfl rfl
    have HY := Aside0.mk hx
    clear hx HX
    simp [Leaves, settle, results, Tryz.results32, go_sem, y0, y1, failE]
    exact ⟨HY.out.below, rfl⟩
  · go_wp2_with (first | (go_at_call 54; (with_reducible refine (HP.out _ HX.out.below).mono ?_); rintro e WX ⟨hb, A2, c2, rfl, hr⟩; have HQ := Aside0.mk (hr.lower HX.out.below.size); have hx := HX.out.call hb; clear HX hb hr b0 b1 b2 b3 b4 v0 v1 v2; have HX := Aside0.mk hx; clear hx; have p0 := HX.out.cell 1 0 rfl rfl; have y0 := HX.out.frz 1 0 rfl; have HY := HX.out.set (L1 := [_]) 0 (.slice A2 l2.length c2); have r0 := HY.cell 0 0 rfl rfl; have r1 := HY.frz 0 0 rfl))
    have HY2 := HY.set (L1 := []) 0 (.int .i64 0)
    have y0 := HY2.cell 1 0 rfl rfl
    have y1 := HY2.cell 0 0 rfl rfl
    refine leaves_cons (f := 53) (args := #[.pointer (some ⟨g8, 0, none⟩), .pointer (some ⟨g9, 0, none⟩)]) (by simp) (by simp [go_sem]) ?_
    refine (catch_idle ⟨g8, 0, none⟩ ⟨g9, 0, none⟩ _).mono ?_
    rintro e u' w'' ⟨rfl, rfl, rfl⟩
    have HY3 := Aside0.mk HY2
    have HX3 := Aside0.mk HX.out
    clear HY2 HY HX hmf hfl
    simp [Leaves, settle, results, Tryz.results32, go_sem, y0, y1]
    exact ⟨HY3.out.below, A2, c2, rfl, (HQ.out.set (HX3.out.at 1 rfl) (by decide) _ _).set ((HX3.out.set (L1 := [_]) 0 (.slice A2 l2.length c2)).at 0 rfl) (by decide) _ _⟩
end Go.Proofs.YtmebkjdknhknbaaGreatDoor.H
end
section
namespace Go.Proofs.YtmebkjdknhknbaaGreatDoor.H
open Go.RowKit Go.Proofs.YtmebkjdknhknbaaGreatDoorW.PrintWords Go.Proofs.YtmebkjdknhknbaaGreatDoorW.PrintLast Go.Proofs.YtmebkjdknhknbaaGreatDoorW.PrintMore
theorem two3 {x : Int} (h : x > 0) (h2 : 0 ≤ x ∧ x < 3) : ∃ (J : Nat) (KD : Int), IntKind.i64.wrap (x - 1) = (J : Int) ∧ J < 2 ∧ (#[.int .i64 2, .int .i64 3] : Array Value)[J]? = some (.int .i64 KD) ∧ (KD = 2 ∨ KD = 3) := by
  have : x = 1 ∨ x = 2 := by omega
  rcases this with rfl | rfl
  · exact ⟨0, 2, rfl, by decide, rfl, .inl rfl⟩
  · exact ⟨1, 3, rfl, by decide, rfl, .inr rfl⟩
set_option maxHeartbeats 16000000 in
set_option maxRecDepth 100000 in
theorem any_walk (Q : S29 → Prop) (ad qa : Addr) (B : Option Addr) (n0 c0 nb cb : Nat) (n p p1 K T AT t0 SC : Int) (cn ck ct cj : Bool) (w : World) (hp : IntKind.i64.wrap (p + 1) = p1) (hn0 : n0 ≠ 0) (hAT : Int.tmod T n0 = AT) (h0 : 0 ≤ AT) (h1 : AT < n0)
    (CN : Aside0 (decide (n > 1) = cn)) (CK : Aside0 ((Int.tmod K 2 == 1) = ck)) (CT : Aside0 ((t0 == 2) = ct)) (CJ : Aside0 (decide (Int.tmod (Int.tdiv K 2) 3 > 0) = cj)) (HJ : Aside0 (0 ≤ Int.tmod (Int.tdiv K 2) 3 ∧ Int.tmod (Int.tdiv K 2) 3 < 3)) (hd2 : IntKind.i64.wrap (Int.tdiv K 2) = Int.tdiv K 2) (hd6 : IntKind.i64.wrap (Int.tdiv K 6) = Int.tdiv K 6) (hS : Int.tmod (Int.tdiv K 6) 7 = SC)
    (hQ1 : Q ⟨1, AT, 0, ⟨#[]⟩, []⟩) (hQ2 : t0 = 2 → Q ⟨2, AT, SC, ⟨#[]⟩, []⟩ ∧ Q ⟨3, AT, SC, ⟨#[]⟩, []⟩)
    (HCo : (cn && ck) = true → ∀ w', Below w.heap.size w w' → Calls Tryz.prog 52 #[.slice (some ad) n0 c0, .slice B nb cb, .agg #[.int .i64 n, .int .i64 p]] w' fun e w'' => (∃ v, e = .returned v ∧ lnP Q v w'.heap.size w'' (fun _ => True)) ∧ Below w'.heap.size w' w'')
    (HK : Aside0 (∀ w', Below w.heap.size w w' → Calls Tryz.prog 36 #[.slice B nb cb, .int .i64 p] w' fun e w'' => e = .returned (.int .i64 K) ∧ Below w'.heap.size w' w''))
    (HT : Aside0 (∀ w', Below w.heap.size w w' → Calls Tryz.prog 36 #[.slice B nb cb, .int .i64 p1] w' fun e w'' => e = .returned (.int .i64 T) ∧ Below w'.heap.size w' w''))
    (hq : ad.add (AT.toNat * 7) = qa) (Q0 : Aside0 (w.cell? qa = some (.int .i64 t0))) :
    Calls Tryz.prog 31 #[.slice (some ad) n0 c0, .slice B nb cb, .agg #[.int .i64 n, .int .i64 p]] w fun e w' => (∃ v, e = .returned v ∧ lnP Q v w.heap.size w' (fun _ => True)) ∧ Below w.heap.size w w' := by
  have hu := Tryz.underlying72
  have hu2 := Tryz.underlying29
  have hu3 := Tryz.underlying49
  have hu4 := Tryz.underlying57
  have HX := Aside0.mk (Bxs.start w)
  go_enter Tryz.func31, Tryz.ntmps31
  go_upto_region 0 with (fail)
  refine Reg.det [(some 5, Reg.Dv.box 5 72 (fun _ => #[.int .i64 n, .int .i64 p]) [] true), (some 6, Reg.Dv.box 6 29 (fun _ => #[.int .i64 0, .int .i64 0, .int .i64 0, .string (⟨#[]⟩ : ByteArray), .slice none 0 0]) [] true)] [] 63 rfl (by kernel_rfl) (by kernel_rfl) ?s1 ?_
  case s1 =>
    intro iq oq pq hiq hoq hpq ρ ev W S hE hO ec ef hB hft hΦ
    have e2 : ev (.tmp 2) = .agg #[.int .i64 n, .int .i64 p] := hO 2 rfl
    simp only [Reg.SV, val_ln] at hE
    obtain ⟨e5, e6, _⟩ := hE
    rcases Reg.lt2 hiq with rfl | rfl
    all_goals (cases hoq; cases hpq)
    rotate_left 1
    · refine Reg.D.box hB ?_
      go_simp
      try rfl
    rotate_right 1
    · refine Reg.D.box hB ?_
      go_simp
      try rfl
  intro ρ W0 S hB hft hap hΦ
  simp only [Reg.SV, val_ln, Reg.SF, Nat.reduceAdd]
  obtain ⟨g5, e5, s5, hg5, _, b5⟩ := hΦ 0 _ rfl rfl
  replace e5 : ρ 5 = .pointer (some ⟨g5, 0, none⟩) := e5
  obtain ⟨g6, e6, s6, hg6, _, b6⟩ := hΦ 1 _ rfl rfl
  replace e6 : ρ 6 = .pointer (some ⟨g6, 0, none⟩) := e6
  try simp only [e5, e6]
  replace b5 : W0.heap[g5]? = some (.cells #[.int .i64 n, .int .i64 p] 72 (0, 0)) := b5
  replace b6 : W0.heap[g6]? = some (.cells #[.int .i64 0, .int .i64 0, .int .i64 0, .string (⟨#[]⟩ : ByteArray), .slice none 0 0] 29 (0, 0)) := b6
  have HX := Aside0.mk (HX.out.join ((Bxs.one hB hg5 b5).more hg6 b6 (by intro p hp; simp only [List.mem_cons, List.mem_singleton, List.not_mem_nil, or_false] at hp; rcases hp with rfl <;> (intro e; dsimp only at e; subst e; first | exact absurd (hap _ _ _ s5 s6) (by decide)))))
  clear hΦ hft hap 
  go_upto_region 1 with (fail)
  try simp only [Reg.SF]
  have mg5_1 : _ = some (.int .i64 p : Value) := HX.out.cell 1 1 rfl rfl
  refine Reg.det [(some 10, Reg.Dv.c (.slice B nb cb)), (some 11, Reg.Dv.c (.pointer (some ⟨g5, 1, none⟩))), (some 12, Reg.Dv.c (.int .i64 p)), (some 13, Reg.Dv.c (.int .i64 K)), (some 14, Reg.Dv.c (.slice B nb cb)), (some 15, Reg.Dv.c (.pointer (some ⟨g5, 1, none⟩))), (some 16, Reg.Dv.c (.int .i64 p)), (some 17, Reg.Dv.c (.int .i64 p1)), (some 18, Reg.Dv.c (.int .i64 T)), (some 7, Reg.Dv.c (.int .i64 K)), (some 8, Reg.Dv.c (.int .i64 T))] [] 63 rfl (by kernel_rfl) (by kernel_rfl) ?s2 ?_
  case s2 =>
    intro iq oq pq hiq hoq hpq ρ ev W S hE hO ec ef hB hft hΦ
    have e1 : ev (.tmp 1) = .slice B nb cb := hO 1 rfl
    have e5 : ev (.tmp 5) = .pointer (some ⟨g5, 0, none⟩) := hO 5 rfl
    have mg5_1' := pw_cell_below hB mg5_1
    simp only [Reg.SV, val_ln] at hE
    obtain ⟨e10, e11, e12, e13, e14, e15, e16, e17, e18, e7, e8, _⟩ := hE
    rcases Reg.lt11 hiq with rfl | rfl | rfl | rfl | rfl | rfl | rfl | rfl | rfl | rfl | rfl
    all_goals (cases hoq; cases hpq)
    rotate_left 8
    · refine Reg.D.cc (g := 36) (args := #[.slice B nb cb, .int .i64 p1]) hB (by go_simp; try rfl) ?_
      exact HT.out W (below_step HX.out.below hB)
    rotate_right 8
    rotate_left 3
    · refine Reg.D.cc (g := 36) (args := #[.slice B nb cb, .int .i64 p]) hB (by go_simp; try rfl) ?_
      exact HK.out W (below_step HX.out.below hB)
    rotate_right 3
    all_goals (first | exact Reg.D.mv hB | skip)
    all_goals (refine Reg.D.cv hB ?_; go_simp; try (first | done | rfl | (exact hp) | (simp; done)))
  intro ρ W1 S hB hft hap hΦ
  simp only [Reg.SV, val_ln, Reg.SF, Nat.reduceAdd]
  have HX := Aside0.mk (HX.out.call hB)
  clear hΦ hft hap mg5_1
  go_upto_region 2 with (fail)
  go_cut [26] (fun v26 wd => v26 = .bool (cn && ck) ∧ Aside0 (Bxs w wd [(g6, 29, #[.int .i64 0, .int .i64 0, .int .i64 0, .string (⟨#[]⟩ : ByteArray), .slice none 0 0]), (g5, 72, #[.int .i64 n, .int .i64 p])]))
  case first =>
    cases cn with
    | true =>
      go_upto_region 2 with (fail)
      try simp only [Reg.SF]
      have mg5_0 : _ = some (.int .i64 n : Value) := HX.out.cell 1 0 rfl rfl
      refine Reg.det [(some 19, Reg.Dv.c (.pointer (some ⟨g5, 0, none⟩))), (some 20, Reg.Dv.c (.int .i64 n)), (some 21, Reg.Dv.c (.bool true)), (some 22, Reg.Dv.c (.bool true)), (some 23, Reg.Dv.c (.int .i64 K)), (some 24, Reg.Dv.c (.int .i64 (Int.tmod K 2))), (some 25, Reg.Dv.c (.bool ck)), (some 26, Reg.Dv.c (.bool ck))] [] 63 rfl (by kernel_rfl) (by kernel_rfl) ?s3 ?_
      case s3 =>
        intro iq oq pq hiq hoq hpq ρ ev W S hE hO ec ef hB hft hΦ
        have e5 : ev (.tmp 5) = .pointer (some ⟨g5, 0, none⟩) := hO 5 rfl
        have e7 : ev (.tmp 7) = .int .i64 K := hO 7 rfl
        have mg5_0' := pw_cell_below hB mg5_0
        simp only [Reg.SV, val_ln] at hE
        obtain ⟨e19, e20, e21, e22, e23, e24, e25, e26, _⟩ := hE
        rcases Reg.lt8 hiq with rfl | rfl | rfl | rfl | rfl | rfl | rfl | rfl
        all_goals (cases hoq; cases hpq)
        all_goals (first | exact Reg.D.mv hB | skip)
        all_goals (refine Reg.D.cv hB ?_; go_simp; try (first | done | rfl | (have := CN.out; simp at this; omega) | (exact CK.out) | (simp [CK.out]; done) | (simp; omega)))
      intro ρ W2 S hB hft hap hΦ
      simp only [Reg.SV, val_ln, Reg.SF, Nat.reduceAdd]
      have HX := Aside0.mk (HX.out.call hB)
      clear hΦ hft hap mg5_0
      go_wp2_with fail
      go_meet
      case rel => exact ⟨by first | rfl | simp, HX⟩
    | false =>
      go_upto_region 2 with (fail)
      try simp only [Reg.SF]
      have mg5_0 : _ = some (.int .i64 n : Value) := HX.out.cell 1 0 rfl rfl
      refine Reg.det [(some 19, Reg.Dv.c (.pointer (some ⟨g5, 0, none⟩))), (some 20, Reg.Dv.c (.int .i64 n)), (some 21, Reg.Dv.c (.bool false)), (some 22, Reg.Dv.c (.bool false)), (some 23, Reg.Dv.c undef), (some 24, Reg.Dv.c undef), (some 25, Reg.Dv.c undef), (some 26, Reg.Dv.c (.bool false))] [] 63 rfl (by kernel_rfl) (by kernel_rfl) ?s4 ?_
      case s4 =>
        intro iq oq pq hiq hoq hpq ρ ev W S hE hO ec ef hB hft hΦ
        have e5 : ev (.tmp 5) = .pointer (some ⟨g5, 0, none⟩) := hO 5 rfl
        have e7 : ev (.tmp 7) = .int .i64 K := hO 7 rfl
        have mg5_0' := pw_cell_below hB mg5_0
        simp only [Reg.SV, val_ln] at hE
        obtain ⟨e19, e20, e21, e22, e23, e24, e25, e26, _⟩ := hE
        rcases Reg.lt8 hiq with rfl | rfl | rfl | rfl | rfl | rfl | rfl | rfl
        all_goals (cases hoq; cases hpq)
        all_goals (first | exact Reg.D.sk hB | skip)
        all_goals (first | exact Reg.D.mv hB | skip)
        all_goals (refine Reg.D.cv hB ?_; go_simp; try (first | done | rfl | (have := CN.out; simp at this; omega) | (exact CK.out) | (simp [CK.out]; done) | (simp; omega)))
      intro ρ W2 S hB hft hap hΦ
      simp only [Reg.SV, val_ln, Reg.SF, Nat.reduceAdd]
      have HX := Aside0.mk (HX.out.call hB)
      clear hΦ hft hap mg5_0
      go_wp2_with fail
      go_meet
      case rel => exact ⟨by first | rfl | simp, HX⟩
  clear HX 
  obtain ⟨hv26, HX⟩ := hcut
  generalize wc = W2c at *
  subst hv26
  obtain ⟨cb2, hcb⟩ : ∃ b, (cn && ck) = b := ⟨_, rfl⟩
  rw [hcb]
  have CB := Aside0.mk hcb
  clear hcb
  have hw2 := HX.out.below.size
  have g6lt := blk_lt (HX.out.at 0 rfl)
  cases cb2 with
  | true =>
    have HC := Aside0.mk (HCo CB.out)
    go_upto_region 3 with (fail)
    try simp only [Reg.SF]
    have mg5_0 : _ = some (.int .i64 n : Value) := HX.out.cell 1 0 rfl rfl
    have mg5_1 : _ = some (.int .i64 p : Value) := HX.out.cell 1 1 rfl rfl
    refine Reg.det [(some 27, Reg.Dv.c (.slice (some ad) n0 c0)), (some 28, Reg.Dv.c (.slice B nb cb)), (some 29, Reg.Dv.c (.agg #[.int .i64 n, .int .i64 p])), (some 30, lnDv 30 Q)] [] 63 rfl (by kernel_rfl) (by kernel_rfl) ?s5 ?_
    case s5 =>
      intro iq oq pq hiq hoq hpq ρ ev W S hE hO ec ef hB hft hΦ
      have e0 : ev (.tmp 0) = .slice (some ad) n0 c0 := hO 0 rfl
      have e1 : ev (.tmp 1) = .slice B nb cb := hO 1 rfl
      have e5 : ev (.tmp 5) = .pointer (some ⟨g5, 0, none⟩) := hO 5 rfl
      have mg5_0' := pw_cell_below hB mg5_0
      have mg5_1' := pw_cell_below hB mg5_1
      simp only [Reg.SV, val_ln] at hE
      obtain ⟨e27, e28, e29, e30, _⟩ := hE
      rcases Reg.lt4 hiq with rfl | rfl | rfl | rfl
      all_goals (cases hoq; cases hpq)
      rotate_left 3
      · refine Reg.D.call (g := 52) (args := #[.slice (some ad) n0 c0, .slice B nb cb, .agg #[.int .i64 n, .int .i64 p]]) (by go_simp; try rfl) ?_
        exact ln_step hB (HC.out W (below_step HX.out.below hB))
      rotate_right 3
      all_goals (first | exact Reg.D.mv hB | skip)
      all_goals (refine Reg.D.cv hB ?_; go_simp; try (first | done | rfl | (simp; done)))
    intro ρ W3 S hB hft hap hΦ
    simp only [Reg.SV, val_ln, Reg.SF, Nat.reduceAdd]
    obtain ⟨x, vX, e30, PX, rX⟩ := hΦ 3 _ rfl rfl
    obtain ⟨AX, cX, evX⟩ := Kd.R_slice rX
    subst evX
    replace e30 : ρ 30 = .agg #[.int .i64 x.f0, .int .i64 x.f1, .int .i64 x.f2, .string x.f3, .slice AX x.f4.length cX] := e30
    have RX := Aside0.mk (Kd.R_mono (ok' := fun k => W2c.heap.size ≤ k) (Kd.R_bound rX) (fun k hk => hk.2.1))
    clear rX
    try simp only [e30]
    have HX := Aside0.mk (HX.out.call hB)
    clear hΦ hft hap mg5_0 mg5_1
    refine bx_putB (w := w) rfl 29 (.tmp 6) (.tmp 30) rfl rfl (L1 := []) (cells := #[.int .i64 x.f0, .int .i64 x.f1, .int .i64 x.f2, .string x.f3, .slice AX x.f4.length cX]) HX.out rfl rfl (by kernel_rfl) rfl rfl ?_
    intro W3s hx hput
    have HX := Aside0.mk hx
    replace RX := Aside0.mk (Kd.R_step RX.out (fun k hk _ => hput k (by have := hk; omega)))
    clear hx hput
    go_wp2_with fail
    refine bodyPost_ret (results_cell_row rfl _ _ g6 29 #[.int .i64 x.f0, .int .i64 x.f1, .int .i64 x.f2, .string x.f3, .slice AX x.f4.length cX] (0, 0) _ rfl (HX.out.at 0 rfl) hu2 rfl (by kernel_rfl)) rfl ?_
    exact ⟨⟨_, rfl, x, _, rfl, PX, Kd.R_lower (Kd.R_mono RX.out (fun _ _ => trivial)) hw2⟩, HX.out.below⟩
  | false =>
    go_upto_region 4 with (fail)
    try simp only [Reg.SF]
    refine Reg.det [(some 31, Reg.Dv.c (.int .i64 T)), (some 32, Reg.Dv.c (.slice (some ad) n0 c0)), (some 33, Reg.Dv.c (.int .i64 n0)), (some 34, Reg.Dv.c (.int .i64 AT)), (some 35, Reg.Dv.c (.agg #[.int .i64 1, .int .i64 AT, .int .i64 0, .string (⟨#[]⟩ : ByteArray), .slice none 0 0])), (some 9, Reg.Dv.box 9 29 (fun _ => #[.int .i64 0, .int .i64 0, .int .i64 0, .string (⟨#[]⟩ : ByteArray), .slice none 0 0]) [] true), (none, Reg.Dv.box 9 29 (fun _ => #[.int .i64 1, .int .i64 AT, .int .i64 0, .string (⟨#[]⟩ : ByteArray), .slice none 0 0]) [] false)] [(5, 6)] 63 rfl (by kernel_rfl) (by kernel_rfl) ?s6 ?_
    case s6 =>
      intro iq oq pq hiq hoq hpq ρ ev W S hE hO ec ef hB hft hΦ
      have e0 : ev (.tmp 0) = .slice (some ad) n0 c0 := hO 0 rfl
      have e8 : ev (.tmp 8) = .int .i64 T := hO 8 rfl
      simp only [Reg.SV, val_ln] at hE
      obtain ⟨e31, e32, e33, e34, e35, e9, _⟩ := hE
      rcases Reg.lt7 hiq with rfl | rfl | rfl | rfl | rfl | rfl | rfl
      all_goals (cases hoq; cases hpq)
      rotate_left 6
      · exact Reg.D.fill 5 29 (.tmp 9) (.tmp 35) hB e9 (by first | assumption | rfl | (simp [*]; done)) (hΦ 5 _ rfl rfl rfl) info29a (by first | rfl | (simp only [Reg.SV]; rfl))
      rotate_right 6
      rotate_left 5
      · refine Reg.D.box hB ?_
        go_simp
        try rfl
      rotate_right 5
      all_goals (first | exact Reg.D.mv hB | skip)
      all_goals (refine Reg.D.cv hB ?_; go_simp; try (first | done | rfl | (simp [hn0, hAT]; done)))
    intro ρ W4 S hB hft hap hΦ
    simp only [Reg.SV, val_ln, Reg.SF, Nat.reduceAdd]
    obtain ⟨g9, e9, s9, hg9, _, b9⟩ := hΦ 6 _ rfl rfl
    replace e9 : ρ 9 = .pointer (some ⟨g9, 0, none⟩) := e9
    try simp only [e9]
    replace b9 : W4.heap[g9]? = some (.cells #[.int .i64 1, .int .i64 AT, .int .i64 0, .string (⟨#[]⟩ : ByteArray), .slice none 0 0] 29 (0, 0)) := b9
    have HX := Aside0.mk (HX.out.join (Bxs.one hB hg9 b9))
    clear hΦ hft hap 
    have ma := pw_cell_below HX.out.below Q0.out
    go_upto_region 5 with (fail)
    go_cut [49] (fun v49 wd => v49 = .bool (ct && cj) ∧ Aside0 (Bxs w wd [(g9, 29, #[.int .i64 1, .int .i64 AT, .int .i64 0, .string (⟨#[]⟩ : ByteArray), .slice none 0 0]), (g6, 29, #[.int .i64 0, .int .i64 0, .int .i64 0, .string (⟨#[]⟩ : ByteArray), .slice none 0 0]), (g5, 72, #[.int .i64 n, .int .i64 p])]))
    case first =>
      cases ct with
      | true =>
        go_upto_region 5 with (fail)
        try simp only [Reg.SF]
        have mg9_1 : _ = some (.int .i64 AT : Value) := HX.out.cell 0 1 rfl rfl
        refine Reg.det [(some 36, Reg.Dv.c (.slice (some ad) n0 c0)), (some 37, Reg.Dv.c (.pointer (some ⟨g9, 1, none⟩))), (some 38, Reg.Dv.c (.int .i64 AT)), (some 39, Reg.Dv.c (.pointer (some qa))), (some 40, Reg.Dv.c (.pointer (some qa))), (some 41, Reg.Dv.c (.pointer (some qa))), (some 42, Reg.Dv.c (.int .i64 t0)), (some 43, Reg.Dv.c (.bool true)), (some 44, Reg.Dv.c (.bool true)), (some 45, Reg.Dv.c (.int .i64 K)), (some 46, Reg.Dv.c (.int .i64 (Int.tdiv K 2))), (some 47, Reg.Dv.c (.int .i64 (Int.tmod (Int.tdiv K 2) 3))), (some 48, Reg.Dv.c (.bool cj)), (some 49, Reg.Dv.c (.bool cj))] [] 63 rfl (by kernel_rfl) (by kernel_rfl) ?s7 ?_
        case s7 =>
          intro iq oq pq hiq hoq hpq ρ ev W S hE hO ec ef hB hft hΦ
          have e0 : ev (.tmp 0) = .slice (some ad) n0 c0 := hO 0 rfl
          have e7 : ev (.tmp 7) = .int .i64 K := hO 7 rfl
          have e9 : ev (.tmp 9) = .pointer (some ⟨g9, 0, none⟩) := hO 9 rfl
          have mg9_1' := pw_cell_below hB mg9_1
          have ma' := pw_cell_below hB ma
          simp only [Reg.SV, val_ln] at hE
          obtain ⟨e36, e37, e38, e39, e40, e41, e42, e43, e44, e45, e46, e47, e48, e49, _⟩ := hE
          rcases Reg.lt14 hiq with rfl | rfl | rfl | rfl | rfl | rfl | rfl | rfl | rfl | rfl | rfl | rfl | rfl | rfl
          all_goals (cases hoq; cases hpq)
          all_goals (first | exact Reg.D.mv hB | skip)
          all_goals (refine Reg.D.cv hB ?_; go_simp; try (first | done | rfl | (rw [← hq]; rfl) | (simp [h0, h1, hq]; done) | (exact hd2) | (have := CT.out; simp at this; omega) | (exact CJ.out) | (simp [CJ.out]; done)))
        intro ρ W5 S hB hft hap hΦ
        simp only [Reg.SV, val_ln, Reg.SF, Nat.reduceAdd]
        have HX := Aside0.mk (HX.out.call hB)
        clear hΦ hft hap mg9_1
        go_wp2_with fail
        go_meet
        case rel => exact ⟨by first | rfl | simp, HX⟩
      | false =>
        go_upto_region 5 with (fail)
        try simp only [Reg.SF]
        have mg9_1 : _ = some (.int .i64 AT : Value) := HX.out.cell 0 1 rfl rfl
        refine Reg.det [(some 36, Reg.Dv.c (.slice (some ad) n0 c0)), (some 37, Reg.Dv.c (.pointer (some ⟨g9, 1, none⟩))), (some 38, Reg.Dv.c (.int .i64 AT)), (some 39, Reg.Dv.c (.pointer (some qa))), (some 40, Reg.Dv.c (.pointer (some qa))), (some 41, Reg.Dv.c (.pointer (some qa))), (some 42, Reg.Dv.c (.int .i64 t0)), (some 43, Reg.Dv.c (.bool false)), (some 44, Reg.Dv.c (.bool false)), (some 45, Reg.Dv.c undef), (some 46, Reg.Dv.c undef), (some 47, Reg.Dv.c undef), (some 48, Reg.Dv.c undef), (some 49, Reg.Dv.c (.bool false))] [] 63 rfl (by kernel_rfl) (by kernel_rfl) ?s8 ?_
        case s8 =>
          intro iq oq pq hiq hoq hpq ρ ev W S hE hO ec ef hB hft hΦ
          have e0 : ev (.tmp 0) = .slice (some ad) n0 c0 := hO 0 rfl
          have e7 : ev (.tmp 7) = .int .i64 K := hO 7 rfl
          have e9 : ev (.tmp 9) = .pointer (some ⟨g9, 0, none⟩) := hO 9 rfl
          have mg9_1' := pw_cell_below hB mg9_1
          have ma' := pw_cell_below hB ma
          simp only [Reg.SV, val_ln] at hE
          obtain ⟨e36, e37, e38, e39, e40, e41, e42, e43, e44, e45, e46, e47, e48, e49, _⟩ := hE
          rcases Reg.lt14 hiq with rfl | rfl | rfl | rfl | rfl | rfl | rfl | rfl | rfl | rfl | rfl | rfl | rfl | rfl
          all_goals (cases hoq; cases hpq)
          all_goals (first | exact Reg.D.sk hB | skip)
          all_goals (first | exact Reg.D.mv hB | skip)
          all_goals (refine Reg.D.cv hB ?_; go_simp; try (first | done | rfl | (rw [← hq]; rfl) | (simp [h0, h1, hq]; done) | (exact hd2) | (have := CT.out; simp at this; omega) | (exact CJ.out) | (simp [CJ.out]; done)))
        intro ρ W5 S hB hft hap hΦ
        simp only [Reg.SV, val_ln, Reg.SF, Nat.reduceAdd]
        have HX := Aside0.mk (HX.out.call hB)
        clear hΦ hft hap mg9_1
        go_wp2_with fail
        go_meet
        case rel => exact ⟨by first | rfl | simp, HX⟩
    clear HX ma
    obtain ⟨hv49, HX⟩ := hcut
    generalize wc = W5c at *
    subst hv49
    obtain ⟨cc, hcc⟩ : ∃ b, (ct && cj) = b := ⟨_, rfl⟩
    rw [hcc]
    have CC := Aside0.mk hcc
    clear hcc
    go_upto_if 49 with (fail)
    go_cut [] (fun wd => ∃ kd sc : Int, Aside0 (Bxs w wd [(g9, 29, #[.int .i64 kd, .int .i64 AT, .int .i64 sc, .string (⟨#[]⟩ : ByteArray), .slice none 0 0]), (g6, 29, #[.int .i64 0, .int .i64 0, .int .i64 0, .string (⟨#[]⟩ : ByteArray), .slice none 0 0]), (g5, 72, #[.int .i64 n, .int .i64 p])]) ∧ Aside0 (Q ⟨kd, AT, sc, ⟨#[]⟩, []⟩))
    case first =>
      cases cc with
      | true =>
        obtain ⟨J, KD, hJ, hJ2, hKD, hKQ⟩ := two3 (by have := CC.out; rw [Bool.and_eq_true] at this; rw [← CJ.out] at this; exact of_decide_eq_true this.2) HJ.out
        have HQ : Q ⟨KD, AT, SC, ⟨#[]⟩, []⟩ := by
          have := hQ2 (by have := CC.out; rw [Bool.and_eq_true] at this; rw [← CT.out] at this; have := this.1; simpa using this)
          rcases hKQ with rfl | rfl
          · exact this.1
          · exact this.2
        go_upto_region 6 with (fail)
        try simp only [Reg.SF]
        refine Reg.det [(some 50, Reg.Dv.blk 50 3 2 #[.int .i64 2, .int .i64 3]), (some 51, Reg.Dv.c (.int .i64 K)), (some 52, Reg.Dv.c (.int .i64 (Int.tdiv K 2))), (some 53, Reg.Dv.c (.int .i64 (Int.tmod (Int.tdiv K 2) 3))), (some 54, Reg.Dv.c (.int .i64 (J : Int))), (some 55, Reg.Dv.u [50] (fun l => elemPtr (l.headD undef) J)), (some 56, Reg.Dv.c (.int .i64 KD)), (some 57, Reg.Dv.c (.pointer (some ⟨g9, 0, none⟩)))] [] 63 rfl (by kernel_rfl) (by kernel_rfl) ?s9 ?_
        case s9 =>
          intro iq oq pq hiq hoq hpq ρ ev W S hE hO ec ef hB hft hΦ
          have e7 : ev (.tmp 7) = .int .i64 K := hO 7 rfl
          have e9 : ev (.tmp 9) = .pointer (some ⟨g9, 0, none⟩) := hO 9 rfl
          simp only [Reg.SV, val_ln] at hE
          obtain ⟨e50, e51, e52, e53, e54, e55, e56, e57, _⟩ := hE
          rcases Reg.lt8 hiq with rfl | rfl | rfl | rfl | rfl | rfl | rfl | rfl
          all_goals (cases hoq; cases hpq)
          rotate_left 6
          · obtain ⟨gb, h50, _, _, _, hb50⟩ := hΦ 0 _ rfl rfl rfl
            replace h50 : ρ 50 = .slice (some ⟨gb, 0, none⟩) 2 2 := h50
            have hc50 : W.cell? ⟨gb, J, none⟩ = some (.int .i64 KD) := (blk_cell hb50 J).trans hKD
            rw [h50] at e55
            change ev (.tmp 55) = .pointer (some ⟨gb, 0 + J, none⟩) at e55
            refine Reg.D.cv hB ?_
            go_simp
          rotate_right 6
          rotate_left 5
          · obtain ⟨_, h50, _⟩ := hΦ 0 _ rfl rfl rfl
            replace h50 : ρ 50 = _ := h50
            refine Reg.D.uv hB ?_
            go_simp
            try (first | done | rfl | (exact hd2) | (exact hd6) | (exact hS) | (rw [h50]; rfl) | (rw [if_pos (show (J : Int) < 2 by omega)]; simp [elemPtr]; done) | (simp [h50, elemPtr]; done) | (exact hJ) | (simp [hJ]; done) | (simp [hS]; done))
          rotate_right 5
          · refine Reg.D.blk hB ?_
            go_simp
            try (first | rfl | exact ⟨rfl, rfl⟩)
          all_goals (first | exact Reg.D.mv hB | skip)
          all_goals (refine Reg.D.cv hB ?_; go_simp; try (first | done | rfl | (exact hd2) | (exact hd6) | (exact hS) | (rw [h50]; rfl) | (rw [if_pos (show (J : Int) < 2 by omega)]; simp [elemPtr]; done) | (simp [h50, elemPtr]; done) | (exact hJ) | (simp [hJ]; done) | (simp [hS]; done)))
        intro ρ W6 S hB hft hap hΦ
        simp only [Reg.SV, val_ln, Reg.SF, Nat.reduceAdd]
        obtain ⟨g50, e50, s50, hg50, _, b50⟩ := hΦ 0 _ rfl rfl
        replace e50 : ρ 50 = .slice (some ⟨g50, 0, none⟩) 2 2 := e50
        try simp only [e50]
        replace b50 : W6.heap[g50]? = some (.cells #[.int .i64 2, .int .i64 3] 3 (0, 0)) := b50
        have HX := Aside0.mk (HX.out.join (Bxs.one hB hg50 b50))
        clear hΦ hft hap 
        have fz0_ := HX.out.frz 1 0 rfl
        have cl0_ := HX.out.cell 1 0 rfl rfl
        go_upto_region 7 with (fail)
        try simp only [Reg.SF]
        have HY0 := HX.out.set (L1 := [_]) 0 (.int .i64 KD)
        clear HX  fz0_ cl0_ 
        generalize World.setCell _ ⟨g9, 0, none⟩ (.int .i64 KD) = W6s at *
        have HX := Aside0.mk HY0
        clear HY0
        go_upto_region 7 with (fail)
        try simp only [Reg.SF]
        refine Reg.det [(some 58, Reg.Dv.c (.int .i64 K)), (some 59, Reg.Dv.c (.int .i64 (Int.tdiv K 6))), (some 60, Reg.Dv.c (.int .i64 SC)), (some 61, Reg.Dv.c (.pointer (some ⟨g9, 2, none⟩)))] [] 63 rfl (by kernel_rfl) (by kernel_rfl) ?s10 ?_
        case s10 =>
          intro iq oq pq hiq hoq hpq ρ ev W S hE hO ec ef hB hft hΦ
          have e7 : ev (.tmp 7) = .int .i64 K := hO 7 rfl
          have e9 : ev (.tmp 9) = .pointer (some ⟨g9, 0, none⟩) := hO 9 rfl
          simp only [Reg.SV, val_ln] at hE
          obtain ⟨e58, e59, e60, e61, _⟩ := hE
          rcases Reg.lt4 hiq with rfl | rfl | rfl | rfl
          all_goals (cases hoq; cases hpq)
          all_goals (first | exact Reg.D.mv hB | skip)
          all_goals (refine Reg.D.cv hB ?_; go_simp; try (first | done | rfl | (exact hd2) | (exact hd6) | (exact hS) | (rw [h50]; rfl) | (rw [if_pos (show (J : Int) < 2 by omega)]; simp [elemPtr]; done) | (simp [h50, elemPtr]; done) | (exact hJ) | (simp [hJ]; done) | (simp [hS]; done)))
        intro ρ W7 S hB hft hap hΦ
        simp only [Reg.SV, val_ln, Reg.SF, Nat.reduceAdd]
        have HX := Aside0.mk (HX.out.call hB)
        clear hΦ hft hap 
        have fz2_ := HX.out.frz 1 2 rfl
        have cl2_ := HX.out.cell 1 2 rfl rfl
        go_wp2_with fail
        go_meet
        have HY0 := HX.out.set (L1 := [_]) 2 (.int .i64 SC)
        case rel => exact ⟨KD, SC, ⟨Bxs.tail HY0⟩, ⟨HQ⟩⟩
      | false =>
        go_wp2_with fail
        go_meet
        case rel => exact ⟨1, 0, HX, ⟨hQ1⟩⟩
    clear HX 
    obtain ⟨kd, sc, HX, HQ⟩ := hcut
    generalize wc = W8c at *
    go_upto_region 8 with (fail)
    try simp only [Reg.SF]
    have mg9_0 : _ = some (.int .i64 kd : Value) := HX.out.cell 0 0 rfl rfl
    have mg9_1 : _ = some (.int .i64 AT : Value) := HX.out.cell 0 1 rfl rfl
    have mg9_2 : _ = some (.int .i64 sc : Value) := HX.out.cell 0 2 rfl rfl
    have mg9_3 : _ = some (.string (⟨#[]⟩ : ByteArray) : Value) := HX.out.cell 0 3 rfl rfl
    have mg9_4 : _ = some (.slice none 0 0 : Value) := HX.out.cell 0 4 rfl rfl
    refine Reg.det [(some 62, Reg.Dv.c (.agg #[.int .i64 kd, .int .i64 AT, .int .i64 sc, .string (⟨#[]⟩ : ByteArray), .slice none 0 0]))] [] 63 rfl (by kernel_rfl) (by kernel_rfl) ?s11 ?_
    case s11 =>
      intro iq oq pq hiq hoq hpq ρ ev W S hE hO ec ef hB hft hΦ
      have e9 : ev (.tmp 9) = .pointer (some ⟨g9, 0, none⟩) := hO 9 rfl
      have mg9_0' := pw_cell_below hB mg9_0
      have mg9_1' := pw_cell_below hB mg9_1
      have mg9_2' := pw_cell_below hB mg9_2
      have mg9_3' := pw_cell_below hB mg9_3
      have mg9_4' := pw_cell_below hB mg9_4
      simp only [Reg.SV, val_ln] at hE
      obtain ⟨e62, _⟩ := hE
      obtain rfl : iq = 0 := by have : iq < 1 := hiq; omega
      cases hoq; cases hpq
      all_goals (refine Reg.D.cv hB ?_; go_simp; try (first | done | rfl | (simp; done) | (intro h; omega)))
    intro ρ W8 S hB hft hap hΦ
    simp only [Reg.SV, val_ln, Reg.SF, Nat.reduceAdd]
    have HX := Aside0.mk (HX.out.call hB)
    clear hΦ hft hap mg9_0 mg9_1 mg9_2 mg9_3 mg9_4
    refine bx_put (w := w) rfl 29 (.tmp 6) (.tmp 62) rfl rfl (L1 := [_]) (cells := #[.int .i64 kd, .int .i64 AT, .int .i64 sc, .string (⟨#[]⟩ : ByteArray), .slice none 0 0]) HX.out rfl rfl (by kernel_rfl) rfl rfl ?_
    intro Wp hx
    have HX := Aside0.mk hx
    clear hx
    go_wp2_with fail
    refine bodyPost_ret (results_cell_row rfl _ _ g6 29 #[.int .i64 kd, .int .i64 AT, .int .i64 sc, .string (⟨#[]⟩ : ByteArray), .slice none 0 0] (0, 0) _ rfl (HX.out.at 1 rfl) hu2 rfl (by kernel_rfl)) rfl ?_
    exact ⟨⟨_, rfl, ⟨kd, AT, sc, ⟨#[]⟩, []⟩, _, rfl, HQ.out, R_none⟩, HX.out.below⟩
end Go.Proofs.YtmebkjdknhknbaaGreatDoor.H
end
section
namespace Go.Proofs.YtmebkjdknhknbaaGreatDoor.H
open Go.RowKit Go.Proofs.YtmebkjdknhknbaaGreatDoorW.PrintWords Go.Proofs.YtmebkjdknhknbaaGreatDoorW.PrintLast Go.Proofs.YtmebkjdknhknbaaGreatDoorW.PrintMore
set_option maxHeartbeats 4000000 in
set_option maxRecDepth 100000 in
theorem Valid_calls (l0 : List S57) (x : S29) (k : Nat) (hd : dep k x) (A0 : Option Addr) (c0 : Nat) (A : Option Addr) (c : Nat) (w : World) (hgl : Gl w) (hr0 : Kd.C k57 w A0 l0.length l0) (hlc : x.f4.length ≤ c) (hC : k29.C w A x.f4.length x.f4) :
    Calls Tryz.prog 27 #[.slice A0 l0.length c0, .agg (lC x A c)] w fun e w' => e = .returned (.bool (ofV k l0 x 3).2) ∧ Below w.heap.size w w' := by
  have hu2 := Tryz.underlying29
  have hu3 := Tryz.underlying76
  have HX := Aside0.mk (Bxs.start w)
  have HO : Aside0 (∀ (w' : World), Below w.heap.size w w' → Calls Tryz.prog 45 #[.agg #[.slice A0 l0.length c0, .slice none 0 0], .agg (lC x A c), .int .i64 3] w' fun e w'' => e = .returned (tbC (ofV k l0 x 3)) ∧ Below w'.heap.size w' w'') :=
    ⟨fun w' hb => of_all l0 k x hd 3 ⟨by decide, by decide⟩ A0 c0 none 0 0 A c w' (hgl.below hb) (Kd.C_below hr0 hb) hlc (Kd.C_below hC hb)⟩
  generalize ofV k l0 x 3 = r at *
  obtain ⟨⟨T0, T1, T2⟩, b⟩ := r
  obtain ⟨k, a, s, sep, l4⟩ := x
  unfold lC tbC tyC at *
  dsimp only at HO ⊢
  generalize l4.length = n4 at *
  generalize l0.length = n0 at *
  clear hr0 hC hlc hgl hd
  go_enter Tryz.func27, Tryz.ntmps27
  go_upto_region 2 with (first | ((with_reducible refine gate_dst (N := 3) rfl ?_); refine bx_new (w := w) ?hg (N := 3) ?hd (cs := #[.int .i64 k, .int .i64 a, .int .i64 s, .string sep, .slice A n4 c]) (t := 29) HX.out ?hr ?_; (case hd => rfl); (case hg => rfl); (case hr => first | (go_simp; done) | (go_simp; rfl)); intro g3 W3 hx; clear HX; have HX := Aside0.mk hx; clear hx; have b0 := HX.out.cell 0 0 rfl rfl; have b1 := HX.out.cell 0 1 rfl rfl; have b2 := HX.out.cell 0 2 rfl rfl; have b3 := HX.out.cell 0 3 rfl rfl; have b4 := HX.out.cell 0 4 rfl rfl) | (go_at_call 45; (with_reducible refine (HO.out _ HX.out.below).mono ?_); rintro e WW ⟨rfl, hb⟩; have hx := HX.out.call hb; clear HX hb b0 b1 b2 b3 b4; have HX := Aside0.mk hx; clear hx) | ((with_reducible refine gate_dst (N := 5) rfl ?_); refine bx_new (w := w) ?hg (N := 5) ?hd (cs := #[.int .i64 0, .int .i64 0, .bool false]) (t := 49) HX.out ?hr ?_; (case hd => rfl); (case hg => rfl); (case hr => first | (go_simp; done) | (go_simp; rfl)); intro g5 W5 hx; clear HX; have HX := Aside0.mk hx; clear hx; refine bx_put (w := w) rfl 49 (.tmp 5) (.tmp 12) rfl rfl (L1 := []) (cells := #[.int .i64 T0, .int .i64 T1, .bool T2]) HX.out rfl rfl info49s rfl rfl ?_; intro W8 hx; clear HX; have HX := Aside0.mk hx; clear hx))
  go_wp2_with fail
  go_ret
  exact ⟨rfl, HX.out.below⟩
end Go.Proofs.YtmebkjdknhknbaaGreatDoor.H
end
section
namespace Go.Proofs
open Go.Shelf
def Tryz.lays189_ren : Go.Shelf.Ren := ⟨fun | 189 => 34 | 125 => 57 | 257 => 56 | 128 => 91 | 129 => 92 | 294 => 82 | 295 => 83 | 296 => 84 | 297 => 85 | 298 => 86 | 299 => 87 | 216 => 88 | 300 => 89 | 301 => 90 | 328 => 103 | 329 => 104 | 330 => 105 | 331 => 106 | 332 => 107 | 215 => 108 | 343 => 118 | n => n, fun | 28 => 45 | 3 => 3 | 46 => 110 | 0 => 0 | 51 => 128 | 53 => 130 | 4 => 4 | 183 => 121 | 182 => 120 | 131 => 125 | 5 => 5 | 9 => 9 | 218 => 140 | 222 => 144 | 228 => 156 | 229 => 157 | n => n, fun | n => n⟩
theorem Tryz.lays189 : Go.Proofs.Lays.n189 Tryz.prog Tryz.lays189_ren := {
  mixed := by kernel_rfl
  f125 := Tryz.func57.trans (congrArg some (by kernel_rfl))
  f128 := Tryz.func91.trans (congrArg some (by kernel_rfl))
  f129 := Tryz.func92.trans (congrArg some (by kernel_rfl))
  f189 := Tryz.func34.trans (congrArg some (by kernel_rfl))
  f215 := Tryz.func108.trans (congrArg some (by kernel_rfl))
  f216 := Tryz.func88.trans (congrArg some (by kernel_rfl))
  f257 := Tryz.func56.trans (congrArg some (by kernel_rfl))
  f294 := Tryz.func82.trans (congrArg some (by kernel_rfl))
  f295 := Tryz.func83.trans (congrArg some (by kernel_rfl))
  f296 := Tryz.func84.trans (congrArg some (by kernel_rfl))
  f297 := Tryz.func85.trans (congrArg some (by kernel_rfl))
  f298 := Tryz.func86.trans (congrArg some (by kernel_rfl))
  f299 := Tryz.func87.trans (congrArg some (by kernel_rfl))
  f300 := Tryz.func89.trans (congrArg some (by kernel_rfl))
  f301 := Tryz.func90.trans (congrArg some (by kernel_rfl))
  f328 := Tryz.func103.trans (congrArg some (by kernel_rfl))
  f329 := Tryz.func104.trans (congrArg some (by kernel_rfl))
  f330 := Tryz.func105.trans (congrArg some (by kernel_rfl))
  f331 := Tryz.func106.trans (congrArg some (by kernel_rfl))
  f332 := Tryz.func107.trans (congrArg some (by kernel_rfl))
  f343 := Tryz.func118.trans (congrArg some (by kernel_rfl))
  t0 := Tryz.underlying0
  a0 := Tryz.isAgg0
  z0 := Tryz.sizeOf0
  v0 := Tryz.zeroValue0
  t3 := Tryz.underlying3
  a3 := Tryz.isAgg3
  z3 := Tryz.sizeOf3
  v3 := Tryz.zeroValue3
  t4 := Tryz.underlying4
  a4 := Tryz.isAgg4
  z4 := Tryz.sizeOf4
  v4 := Tryz.zeroValue4
  t5 := Tryz.underlying5
  a5 := Tryz.isAgg5
  z5 := Tryz.sizeOf5
  v5 := Tryz.zeroValue5
  t9 := Tryz.underlying9
  a9 := Tryz.isAgg9
  z9 := Tryz.sizeOf9
  v9 := Tryz.zeroValue9
  t28 := Tryz.underlying45
  a28 := Tryz.isAgg45
  z28 := Tryz.sizeOf45
  v28 := Tryz.zeroValue45
  t46 := Tryz.underlying110
  a46 := Tryz.isAgg110
  z46 := Tryz.sizeOf110
  v46 := Tryz.zeroValue110
  t51 := Tryz.underlying128
  a51 := Tryz.isAgg128
  z51 := Tryz.sizeOf128
  v51 := Tryz.zeroValue128
  t53 := Tryz.underlying130
  a53 := Tryz.isAgg130
  z53 := Tryz.sizeOf130
  v53 := Tryz.zeroValue130
  t131 := Tryz.underlying125
  a131 := Tryz.isAgg125
  z131 := Tryz.sizeOf125
  v131 := Tryz.zeroValue125
  t182 := Tryz.underlying120
  a182 := Tryz.isAgg120
  z182 := Tryz.sizeOf120
  v182 := Tryz.zeroValue120
  t183 := Tryz.underlying121
  a183 := Tryz.isAgg121
  z183 := Tryz.sizeOf121
  v183 := Tryz.zeroValue121
  t218 := Tryz.underlying140
  a218 := Tryz.isAgg140
  z218 := Tryz.sizeOf140
  v218 := Tryz.zeroValue140
  t222 := Tryz.underlying144
  a222 := Tryz.isAgg144
  z222 := Tryz.sizeOf144
  v222 := Tryz.zeroValue144
  t228 := Tryz.underlying156
  a228 := Tryz.isAgg156
  z228 := Tryz.sizeOf156
  v228 := Tryz.zeroValue156
  t229 := Tryz.underlying157
  a229 := Tryz.isAgg157
  z229 := Tryz.sizeOf157
  v229 := Tryz.zeroValue157 }
open Go.Sort Go.RowKit in
theorem Tryz.slices_Sort_int (blk off cap : Nat) (zs : List Int) (w : World) (hH : Holds (Value.int .i64) w blk off zs.toArray) (hblk : blk < w.heap.size) (hsz : zs.length < 4611686018427387904) :
    Calls Tryz.prog 34 #[.slice (some ⟨blk, off, none⟩) zs.length cap] w fun e w' =>
      e = .returned (.tuple #[]) ∧ ∃ n os, w' = grow (putRow (Value.int .i64) (Sort.ahead w n) blk off (zs.mergeSort fun x y => decide (x ≤ y)).toArray) os := Any.slices_Sort_int Tryz.lays189 blk off cap zs w hH hblk hsz
def Tryz.laysNm220_ren : Go.Shelf.Ren := ⟨fun | 20 => 35 | n => n, fun | 22 => 45 | 3 => 3 | 4 => 4 | 0 => 0 | n => n, fun | n => n⟩
theorem Tryz.laysNm220 : Go.Proofs.Lays2.n20 Tryz.prog Tryz.laysNm220_ren := {
  mixed := by kernel_rfl
  f20 := Tryz.func35.trans (congrArg some (by kernel_rfl))
  t0 := Tryz.underlying0
  a0 := Tryz.isAgg0
  z0 := Tryz.sizeOf0
  v0 := Tryz.zeroValue0
  t3 := Tryz.underlying3
  a3 := Tryz.isAgg3
  z3 := Tryz.sizeOf3
  v3 := Tryz.zeroValue3
  t4 := Tryz.underlying4
  a4 := Tryz.isAgg4
  z4 := Tryz.sizeOf4
  v4 := Tryz.zeroValue4
  t22 := Tryz.underlying45
  a22 := Tryz.isAgg45
  z22 := Tryz.sizeOf45
  v22 := Tryz.zeroValue45
  i3 := by kernel_rfl }
open Go.RowKit Go.Lib Go.Sort in
theorem Tryz.slices_Compact_int (blk off cap : Nat) (zs : List Int) (w : World) (hH : Holds (Value.int .i64) w blk off zs.toArray) (hsz : zs.length ≤ 9223372036854775807) (hcap : zs.length ≤ cap) :
    Calls Tryz.prog 35 #[.slice (some ⟨blk, off, none⟩) zs.length cap] w fun e w' => e = .returned (.slice (some ⟨blk, off, none⟩) (Lib.compact zs).length cap) ∧ ∃ q, w' = putRow (Value.int .i64) (Sort.ahead w q) blk off (Lib.compact zs ++ List.replicate (zs.length - (Lib.compact zs).length) 0).toArray := Any.slices_Compact_int Tryz.laysNm220 blk off cap zs w hH hsz hcap
end Go.Proofs
end
section
namespace Go.Proofs.YtmebkjdknhknbaaGreatDoor.H
open Go.RowKit Go.Sort Go.Proofs.YtmebkjdknhknbaaGreatDoorW.PrintWords Go.Proofs.YtmebkjdknhknbaaGreatDoorW.PrintLast Go.Proofs.YtmebkjdknhknbaaGreatDoorW.PrintMore
theorem grownBy_putRow {W : World} {g n : Nat} (d : Array Int) : W.grownBy (putRow (Value.int .i64) (Sort.ahead W n) g 0 d) (some g) := by
  refine ⟨rfl, rfl, rfl, by simp [putRow, mapBlock, Sort.ahead], fun k hk hne => ?_⟩
  have : g ≠ k := fun e => hne (by rw [e])
  simp [putRow, mapBlock, Sort.ahead, Array.getElem?_modify, this]
theorem sort_R (xs : List Int) (v : Value) (base : Nat) (W : World) (h : Kd.R (Kd.int .i64) 3 W base (fun _ => True) v xs) (hn : xs ≠ []) (hz : xs.length ≤ 1000000) :
    Calls Tryz.prog 34 #[v] W fun e w' => e = .returned (.tuple #[]) ∧ Kd.R (Kd.int .i64) 3 w' base (fun _ => True) v (xs.mergeSort fun a b => decide (a ≤ b)) ∧ W.grownBy w' v.ownBlock := by
  have hown := Kd.own_of_R h
  have hp : 0 < xs.length := List.length_pos_iff.2 hn
  rcases hown.2 with ⟨h0, _⟩ | ⟨g, cap, cur, hv, hb, hg, h1, h2, h3, h4⟩
  · obtain ⟨g, cap, hv, _⟩ := Kd.R_form h hp
    rw [h0] at hv
    cases hv
  · subst hv
    obtain ⟨g', cap', hv', hbg, hlt, hnc, hcm, hl, hH⟩ := Lib.holds_of_ownsRow (zs := xs) (enc := Value.int .i64) hown (by simp)
    cases hv'
    refine (Tryz.slices_Sort_int g 0 cap xs W hH hlt (by omega)).mono ?_
    rintro e w' ⟨rfl, n, os, rfl⟩
    have hl2 : (xs.mergeSort fun a b => decide (a ≤ b)).length = xs.length := List.length_mergeSort xs
    refine ⟨rfl, ?_, grownBy_sortedI _⟩
    have ho := ownsRow_sortedI (n := n) (os := os) (ts := xs.mergeSort fun a b => decide (a ≤ b)) hl2 hb hg h1 h2 h3
    exact Kd.R_of_own (by rw [hl2]; exact ho) (fun _ _ => trivial)
theorem compact_R (xs : List Int) (v : Value) (base : Nat) (W : World) (h : Kd.R (Kd.int .i64) 3 W base (fun _ => True) v xs) (hz : xs.length ≤ 1000000) (hn : xs ≠ []) :
    Calls Tryz.prog 35 #[v] W fun e w' => ∃ v', e = .returned v' ∧ Kd.R (Kd.int .i64) 3 w' base (fun _ => True) v' (Lib.compact xs) ∧ W.grownBy w' v.ownBlock := by
  have hown := Kd.own_of_R h
  have hp : 0 < xs.length := List.length_pos_iff.2 hn
  obtain ⟨g, cap, hv, hbg, hlt, hnc, hcm, hl, hH⟩ := Lib.holds_of_ownsRow (zs := xs) (enc := Value.int .i64) hown (by
    intro e
    obtain ⟨g, cap, hv, _⟩ := Kd.R_form h hp
    rw [hv] at e; cases e)
  subst hv
  refine (Tryz.slices_Compact_int g 0 cap xs W hH (by omega) hnc).mono ?_
  rintro e w' ⟨rfl, q, rfl⟩
  have hle := Lib.compact_length_le xs
  refine ⟨_, rfl, ?_, grownBy_putRow _⟩
  have hc := Lib.ownsRow_putRow (q := q) (k := (Lib.compact xs).length) (ys := Lib.compact xs ++ List.replicate (xs.length - (Lib.compact xs).length) 0) hown (by simp; omega) hle
  rw [List.take_left] at hc
  exact Kd.R_of_own hc (fun _ _ => trivial)
end Go.Proofs.YtmebkjdknhknbaaGreatDoor.H
end
section
namespace Go.Proofs.YtmebkjdknhknbaaGreatDoor.H
open Go.RowKit Go.Proofs.YtmebkjdknhknbaaGreatDoorW.PrintWords Go.Proofs.YtmebkjdknhknbaaGreatDoorW.PrintLast Go.Proofs.YtmebkjdknhknbaaGreatDoorW.PrintMore
def attrsV : Nat → S29 → List Int | 0, _ => [] | k + 1, x => if x.f4 = [] then [x.f1] else Lib.compact ((x.f4.flatMap (attrsV k)).mergeSort fun a b => decide (a ≤ b))
def AttTo (x : S29) (xs : List Int) : Prop := ∀ (A : Option Addr) (c : Nat) (w : World), x.f4.length ≤ c → k29.C w A x.f4.length x.f4 →
  Calls Tryz.prog 14 #[.agg (lC x A c)] w fun e w' => ∃ v, e = .returned v ∧ Kd.R (Kd.int .i64) 3 w' w.heap.size (fun _ => True) v xs ∧ Below w.heap.size w w'
theorem info29s : (Tryz.prog.info? 29).map (·.size) = some 5 := by kernel_rfl
theorem infoI : (Tryz.prog.info? 3).map (fun i => (i.zero, i.size, i.bytes)) = some (some (.int .i64 0), 1, 8) := by kernel_rfl
theorem R_keep2 {α : Type} {d : Kd α} {e : Nat} {W W' : World} {base : Nat} {ok : Nat → Prop} {v : Value} {xs : List α} (h : d.R e W base ok v xs) {g T : Nat} {cs : Array Value} (hb : W.heap[g]? = some (.cells cs T (0, 0))) (ht : ∀ q, q ∈ e :: d.E → q ≠ T) (hk : ∀ k, k ≠ g → W'.heap[k]? = W.heap[k]?) : d.R e W' base ok v xs :=
  Kd.R_mono (Kd.R_step (Kd.R_types h hb ht) (fun k hk' _ => hk k hk'.2)) (fun _ hk => hk.1)
theorem take_flat {α β : Type} (l : List α) (f : α → List β) (i : Nat) (h : i < l.length) : (l.take (i + 1)).flatMap f = (l.take i).flatMap f ++ f l[i] := by
  rw [List.take_succ_eq_append_getElem h, List.flatMap_append]
  simp
theorem flat_le {α β : Type} (l : List α) (f : α → List β) (i : Nat) : ((l.take i).flatMap f).length ≤ (l.flatMap f).length := by
  have h : l.flatMap f = (l.take i).flatMap f ++ (l.drop i).flatMap f := by rw [← List.flatMap_append, List.take_append_drop]
  rw [h, List.length_append]
  omega
theorem Bxs.grown {w W W' : World} {L : List (Nat × Nat × Array Value)} (h : Bxs w W L) {g : Nat} (hg : W.grownBy W' (some g)) (hw : w.heap.size ≤ g) {cur : Array Value} {T : Nat} (hc : W.heap[g]? = some (.cells cur T (0, 0))) (hT : ∀ p ∈ L, p.2.1 ≠ T) : Bxs w W' L := by
  have hne : ∀ p ∈ L, p.1 ≠ g := fun p hp e => by
    have h1 := (h.blk p hp).2
    rw [e, hc] at h1
    injection h1 with h1
    injection h1 with _ h1
    exact hT p hp h1.symm
  refine ⟨⟨hg.os.trans h.below.os, hg.tape.trans h.below.tape, hg.output.trans h.below.output, Nat.le_trans h.below.size hg.size, fun k hk => ?_⟩, fun p hp => ⟨(h.blk p hp).1, ?_⟩, h.apart⟩
  · rw [hg.block k (Nat.lt_of_lt_of_le hk h.below.size) (fun e => by injection e with e; omega)]
    exact h.below.block k hk
  · rw [hg.block p.1 (blk_lt (h.blk p hp).2) (fun e => by injection e with e; exact hne p hp e)]
    exact (h.blk p hp).2
theorem Bxs.app {α : Type} {d : Kd α} {w W W' : World} {L : List (Nat × Nat × Array Value)} (h : Bxs w W L) {e : Nat} {ok : Nat → Prop} {v : Value} {xs : List α} (hO : d.R e W w.heap.size ok v xs) (hg : W.grownBy W' v.ownBlock) (hT : ∀ p ∈ L, p.2.1 ≠ e) : Bxs w W' L := by
  obtain ⟨inner, ho⟩ := Kd.R_own hO
  cases hb : v.ownBlock with | none => rw [hb] at hg; exact h.call (Reg.grown_below hg) | some g =>
    rw [hb] at hg
    obtain ⟨cells, hc⟩ := own_typed ho g hb
    exact h.grown hg (Kd.R_base hO g hb) hc hT
set_option maxHeartbeats 8000000 in
set_option maxRecDepth 100000 in
theorem Attrs_leaf (x : S29) (hx : x.f4 = []) : AttTo x [x.f1] := by
  intro A c w hlc hC
  have hu2 := Tryz.underlying29
  have HX := Aside0.mk (Bxs.start w)
  obtain ⟨k, a, s, sep, l4⟩ := x
  dsimp only at hx
  subst hx
  unfold lC
  dsimp only [List.length_nil]
  clear hlc hC
  go_enter Tryz.func14, Tryz.ntmps14
  go_wp2_with (first | ((with_reducible refine gate_dst (N := 1) rfl ?_); refine bx_new (w := w) ?hg (N := 1) ?hd (cs := #[.int .i64 k, .int .i64 a, .int .i64 s, .string sep, .slice A 0 c]) (t := 29) HX.out ?hr ?_; (case hd => rfl); (case hg => rfl); (case hr => first | (go_simp; done) | (go_simp; rfl)); intro g1 W1 hx; clear HX; have HX := Aside0.mk hx; clear hx; have b0 := HX.out.cell 0 0 rfl rfl; have b1 := HX.out.cell 0 1 rfl rfl; have b2 := HX.out.cell 0 2 rfl rfl; have b3 := HX.out.cell 0 3 rfl rfl; have b4 := HX.out.cell 0 4 rfl rfl) | ((with_reducible refine gate_dst (N := 12) rfl ?_); refine Kd.R_lit (Kd.int .i64) (w0 := w) w.heap.size 3 ?hg (N := 12) ?hd (xs := [a]) (inner := [.int .i64 a]) (ok := fun _ => True) (okp := fun _ => True) ?hr ?hp (fun _ hk => hk) trivial HX.out.below HX.out.below.size (by simp) ?_; (case hd => rfl); (case hg => rfl); (case hr => first | (go_simp; done) | (go_simp; rfl)); (case hp => exact Kd.reps_scalar [a]); intro v12 W12 ho hb hg_ hnew_; clear hg_ hnew_; have HO := Aside0.mk ho; have HB := Aside0.mk hb; clear ho hb))
  go_ret
  exact ⟨v12, rfl, HO.out, HB.out⟩
set_option maxHeartbeats 8000000 in
set_option maxRecDepth 100000 in
theorem Attrs_parts (x : S29) (rs : S29 → List Int) (hx : x.f4 ≠ []) (hl : x.f4.length ≤ 1000) (hk : ∀ i : Nat, i < x.f4.length → AttTo (rd_T29 x.f4 (i : Int)) (rs (rd_T29 x.f4 (i : Int)))) (hn : x.f4.flatMap rs ≠ []) (hz : (x.f4.flatMap rs).length ≤ 1000000) :
    AttTo x (Lib.compact ((x.f4.flatMap rs).mergeSort fun a b => decide (a ≤ b))) := by
  intro A c w hlc hC
  have hu2 := Tryz.underlying29
  have HX := Aside0.mk (Bxs.start w)
  obtain ⟨k, a, s, sep, l4⟩ := x
  unfold lC
  dsimp only at hx hl hk hn hz hlc hC ⊢
  have HK := Aside0.mk (And.intro hk (And.intro hn (And.intro hz (And.intro hl (And.intro hC hlc)))))
  obtain ⟨n4, hn4⟩ : ∃ n, l4.length = n := ⟨_, rfl⟩
  have HN := Aside0.mk hn4
  rw [hn4]
  have d0 : ((n4 : Int) == 0) = false := by
    have : n4 ≠ 0 := fun e => hx (List.eq_nil_of_length_eq_zero (by rw [hn4]; exact e))
    simpa using (by omega : ¬ (n4 : Int) = 0)
  clear hx hl hk hn hz hlc hC hn4
  go_enter Tryz.func14, Tryz.ntmps14
  go_wp2_with (first | ((with_reducible refine gate_dst (N := 1) rfl ?_); refine bx_new (w := w) ?hg (N := 1) ?hd (cs := #[.int .i64 k, .int .i64 a, .int .i64 s, .string sep, .slice A n4 c]) (t := 29) HX.out ?hr ?_; (case hd => rfl); (case hg => rfl); (case hr => first | (go_simp; done) | (go_simp; rfl)); intro g1 W1 hx; clear HX; have HX := Aside0.mk hx; clear hx; have b0 := HX.out.cell 0 0 rfl rfl; have b1 := HX.out.cell 0 1 rfl rfl; have b2 := HX.out.cell 0 2 rfl rfl; have b3 := HX.out.cell 0 3 rfl rfl; have b4 := HX.out.cell 0 4 rfl rfl))
  go_loopg [3, 16] n4 (fun kq v3 v16 w' => ∃ i : Nat, v16 = .int .i64 i ∧ Aside0 (kq + i = n4) ∧ Aside0 (Kd.R (Kd.int .i64) 3 w' w.heap.size (fun _ => True) v3 ((l4.take i).flatMap rs)) ∧ Aside0 (Bxs w w' [(g1, 29, #[.int .i64 k, .int .i64 a, .int .i64 s, .string sep, .slice A n4 c])]))
  case atStart => exact ⟨0, rfl, ⟨by omega⟩, ⟨Kd.R_nil _ _ _ _ _⟩, HX⟩
  case round =>
    clear HX b0 b1 b2 b3 b4 d0
    obtain ⟨i, rfl, HKQ, HO, HX⟩ := hrel
    by_cases hi : i < n4
    · have hil : i < l4.length := by rw [HN.out]; exact hi
      have hstep := take_flat l4 rs i hil
      have hle := flat_le l4 rs (i + 1)
      rw [← rd_get l4 i hil] at hstep
      obtain ⟨ad, q, A4, c4, e, hq, K⟩ := kid HK.out.2.2.2.2.1 i hil
      have HC : Aside0 (∀ (w' : World), Below w.heap.size w w' → Calls Tryz.prog 14 #[.agg (lC (rd_T29 l4 (i : Int)) A4 c4)] w' fun e w'' => ∃ v, e = .returned v ∧ Kd.R (Kd.int .i64) 3 w'' w'.heap.size (fun _ => True) v (rs (rd_T29 l4 (i : Int))) ∧ Below w'.heap.size w' w'') :=
        ⟨fun w' hb => HK.out.1 i hil A4 c4 w' K.len (Kd.C_below K.has hb)⟩
      cases e
      generalize rs (rd_T29 l4 (i : Int)) = r at *
      generalize rd_T29 l4 (i : Int) = y at *
      obtain ⟨Y0, Y1, Y2, Y3, l5⟩ := y
      obtain ⟨h0, h1, h2, h3, h4, _, _⟩ := K
      unfold lC at HC
      dsimp only at HC h0 h1 h2 h3 h4
      generalize l5.length = n5 at *
      have HST := Aside0.mk hstep
      have HZ := Aside0.mk (Nat.le_trans hle HK.out.2.2.1)
      have q0 := pw_cell_below HX.out.below h0
      have q1 := pw_cell_below HX.out.below h1
      have q2 := pw_cell_below HX.out.below h2
      have q3 := pw_cell_below HX.out.below h3
      have q4 := pw_cell_below HX.out.below h4
      cases hq
      have d1 : decide ((i : Int) < (n4 : Int)) = true := decide_eq_true (by omega)
      have p0 : (0 ≤ (i : Int)) = True := eq_true (by omega)
      have p1 : ((i : Int) < (n4 : Int)) = True := eq_true (by omega)
      have p2 : (i < n4) = True := eq_true hi
      have hln : n4 ≤ 1000 := by rw [← HN.out]; exact HK.out.2.2.2.1
      have w2 : IntKind.i64.wrap ((i : Int) + 1) = (i : Int) + 1 := by rw [IntKind.wrap_i64]; omega
      clear hstep hle h0 h1 h2 h3 h4 hln
      go_upto_region 7 with (first | ((with_reducible refine gate_dst (N := 5) rfl ?_); refine bx_newB (w := w) ?hg (N := 5) ?hd (cs := #[.int .i64 0, .int .i64 0, .int .i64 0, .string (⟨#[]⟩ : ByteArray), .slice none 0 0]) (t := 29) HX.out ?hr ?_; (case hd => rfl); (case hg => rfl); (case hr => first | (go_simp; done) | (go_simp; rfl)); intro g5 W5 hx hb; have HO2 := Aside0.mk (Kd.R_below HO.out hb); clear HX HO hb; have HX := Aside0.mk hx; clear hx; refine bx_putB (w := w) rfl 29 (.tmp 5) (.tmp 19) rfl rfl (L1 := []) (cells := #[.int .i64 Y0, .int .i64 Y1, .int .i64 Y2, .string Y3, .slice A4 n5 c4]) HX.out rfl rfl info29s rfl rfl ?_; intro W6 hx hk; have HO := Aside0.mk (R_keep2 HO2.out (HX.out.at 0 rfl) (by decide) hk); clear HX HO2 hk; have HX := Aside0.mk hx; clear hx))
      try simp only [Act.put, List.setIfInBounds_toArray, List.set_cons_zero, List.set_cons_succ]
      have u0 : W6.cell? ⟨g5, 0, none⟩ = some (.int .i64 Y0) := HX.out.cell 0 0 rfl rfl
      have u1 : W6.cell? ⟨g5, 1, none⟩ = some (.int .i64 Y1) := HX.out.cell 0 1 rfl rfl
      have u2 : W6.cell? ⟨g5, 2, none⟩ = some (.int .i64 Y2) := HX.out.cell 0 2 rfl rfl
      have u3 : W6.cell? ⟨g5, 3, none⟩ = some (.string Y3) := HX.out.cell 0 3 rfl rfl
      have u4 : W6.cell? ⟨g5, 4, none⟩ = some (.slice A4 n5 c4) := HX.out.cell 0 4 rfl rfl
      clear q0 q1 q2 q3 q4
      go_upto_region 8 with (first | (go_at_call 14; (with_reducible refine (HC.out _ HX.out.below).mono ?_); rintro e WW ⟨v22, rfl, hr, hb⟩; have HO2 := Aside0.mk (Kd.R_below HO.out hb); have hx := HX.out.call hb; clear HO HX hb u0 u1 u2 u3 u4; have HO := HO2; clear HO2; have HX := Aside0.mk hx; clear hx; obtain ⟨A22, c22, rfl⟩ := Kd.R_slice hr; obtain ⟨_, _, hC22⟩ := Kd.R_reads' hr; have HC22 := Aside0.mk hC22; clear hC22 hr) | ((with_reducible refine gate_builtin (b := .append) (xs := #[.tmp 20, .tmp 22]) rfl ?_); at_builtin; refine Kd.R_append_rows (Kd.int .i64) (Rr := (Kd.int .i64).K _) (w0 := w) w.heap.size rfl (.tmp 20) (.tmp 22) 45 3 (.int .i64 0) 8 rfl Tryz.underlying45 infoI rfl (by decide) (by decide) _ ((l4.take i).flatMap rs) r A22 r.length c22 (fun _ => True) (fun _ => False) rfl rfl HO.out HC22.out (fun _ _ h => h) (fun _ hk => hk.elim) (fun _ _ => trivial) HX.out.below HX.out.below.size (by have h1 := HZ.out; rw [HST.out, List.length_append] at h1; omega) ?_; intro v23 W23 hr1 hb1 hg1 hat1; have hx := HX.out.app HO.out hg1 (by simp); clear HX HO hg1 hb1 hat1; have HX := Aside0.mk hx; clear hx; have HO := Aside0.mk hr1; clear hr1))
      go_wp2_with fail
      cases gk with | zero => exact absurd HKQ.out (by omega) | succ gk1 =>
      go_roundg gk1
      case measure => omega
      case rel => exact ⟨i + 1, by simp, ⟨by have := HKQ.out; omega⟩, ⟨by rw [HST.out]; exact HO.out⟩, ⟨by
        have h := HX.out
        exact ⟨h.below, fun p hp => h.blk p (List.mem_cons_of_mem _ hp), (List.nodup_cons.1 h.apart).2⟩⟩⟩
    · have hall : l4.take i = l4 := List.take_of_length_le (by rw [HN.out]; omega)
      have HO2 := Aside0.mk HO.out
      rw [hall] at HO2
      have d1 : decide ((i : Int) < (n4 : Int)) = false := decide_eq_false (by omega)
      have d2 : ((i : Int) < (n4 : Int)) = False := eq_false (by omega)
      have d3 : (i < n4) = False := eq_false hi
      have HZ := Aside0.mk (And.intro HK.out.2.1 HK.out.2.2.1)
      clear HO hall hi HKQ HK
      obtain ⟨xs, hxs⟩ : ∃ xs, l4.flatMap rs = xs := ⟨_, rfl⟩
      rw [hxs] at HO2 HZ
      have HXS := Aside0.mk hxs
      clear hxs
      have HM : Aside0 ((xs.mergeSort fun a b => decide (a ≤ b)) ≠ [] ∧ (xs.mergeSort fun a b => decide (a ≤ b)).length ≤ 1000000) := ⟨fun e => HZ.out.1 (List.length_eq_zero_iff.1 (by
        have h1 := List.length_mergeSort (le := fun a b => decide (a ≤ b)) xs
        rw [e] at h1; exact h1.symm)), by rw [List.length_mergeSort]; exact HZ.out.2⟩
      go_wp2_with (first | (go_at_call 34; (with_reducible refine (sort_R _ _ _ _ HO2.out HZ.out.1 HZ.out.2).mono ?_); rintro e WW ⟨rfl, hr, hg⟩; have hx := HX.out.app HO2.out hg (by simp); clear HX HO2 hg; have HX := Aside0.mk hx; clear hx; have HO := Aside0.mk hr; clear hr) | (go_at_call 35; (with_reducible refine (compact_R _ _ _ _ HO.out HM.out.2 HM.out.1).mono ?_); rintro e WW ⟨v28, rfl, hr, hg⟩; have hx := HX.out.app HO.out hg (by simp); clear HX HO hg; have HX := Aside0.mk hx; clear hx; have HO := Aside0.mk hr; clear hr))
      go_ret
      rw [HXS.out]
      exact ⟨v28, rfl, HO.out, HX.out.below⟩
end Go.Proofs.YtmebkjdknhknbaaGreatDoor.H
end
section
namespace Go.Proofs.YtmebkjdknhknbaaGreatDoor.H
open Go.RowKit Go.Proofs.YtmebkjdknhknbaaGreatDoorW.PrintWords Go.Proofs.YtmebkjdknhknbaaGreatDoorW.PrintLast Go.Proofs.YtmebkjdknhknbaaGreatDoorW.PrintMore
def wOk : Nat → S29 → Prop
  | 0, _ => False
  | k + 1, x => x.f4.length ≤ 2 ∧ ∀ i : Nat, i < x.f4.length → wOk k (rd_T29 x.f4 (i : Int))
theorem compact_ne {l : List Int} (h : l ≠ []) : Lib.compact l ≠ [] := by
  cases l with
  | nil => exact absurd rfl h
  | cons a l =>
    intro e
    unfold Lib.compact Lib.compactUpTo at e
    have h1 := List.map_eq_nil_iff.1 e
    have h2 : 0 ∈ (List.range (a :: l).length).filter (Lib.keeps (a :: l).toArray) := List.mem_filter.2 ⟨List.mem_range.2 (by simp), Lib.keeps_lt_one _ 0 (by decide)⟩
    rw [h1] at h2
    cases h2
theorem attrs_ne : ∀ (k : Nat) (x : S29), wOk k x → attrsV k x ≠ [] := by
  intro k
  induction k with
  | zero => intro x h; exact h.elim
  | succ k ih =>
    intro x h
    unfold attrsV
    split
    · simp
    · rename_i hx
      refine compact_ne fun e => ?_
      have h1 := List.length_mergeSort (le := fun a b => decide (a ≤ b)) (x.f4.flatMap (attrsV k))
      rw [e] at h1
      have h2 : x.f4.flatMap (attrsV k) = [] := List.length_eq_zero_iff.1 h1.symm
      have hl : 0 < x.f4.length := List.length_pos_iff.2 hx
      have h3 := (List.flatMap_eq_nil_iff.1 h2) (x.f4[0]) (List.getElem_mem hl)
      rw [← rd_get x.f4 0 hl] at h3
      exact ih _ (h.2 0 hl) h3
theorem compact_len : ∀ l : List Int, (Lib.compact l).length ≤ l.length := Lib.compact_length_le
theorem attrs_len : ∀ (k : Nat) (x : S29), wOk k x → (attrsV k x).length ≤ 2 ^ k ∧ (x.f4.flatMap (attrsV (k - 1))).length ≤ 2 ^ k := by
  intro k
  induction k with
  | zero => intro x h; exact h.elim
  | succ k ih =>
    intro x h
    have hp : 1 ≤ 2 ^ k := Nat.one_le_two_pow
    have hf : (x.f4.flatMap (attrsV k)).length ≤ 2 ^ (k + 1) := by
      have h0 := h.1
      have hk := h.2
      rcases x with ⟨_, _, _, _, l⟩
      dsimp only at h0 hk ⊢
      match l, h0, hk with
      | [], _, _ => simp
      | [a], _, hk =>
        have := (ih _ (hk 0 (by simp))).1
        simp [rd_T29] at this ⊢
        rw [Nat.pow_succ]; omega
      | [a, b], _, hk =>
        have h1 := (ih _ (hk 0 (by simp))).1
        have h2 := (ih _ (hk 1 (by simp))).1
        simp [rd_T29] at h1 h2 ⊢
        rw [Nat.pow_succ]; omega
      | _ :: _ :: _ :: _, h0, _ => simp at h0
    refine ⟨?_, hf⟩
    unfold attrsV
    split
    · simp; omega
    · exact Nat.le_trans (compact_len _) (by rw [List.length_mergeSort]; exact hf)
theorem Attrs_all : ∀ (k : Nat) (x : S29), k ≤ 19 → wOk k x → AttTo x (attrsV k x) := by
  intro k
  induction k with
  | zero => intro x _ h; exact h.elim
  | succ k ih =>
    intro x hk h
    unfold attrsV
    split
    · rename_i hx; exact Attrs_leaf x hx
    · rename_i hx
      have hl : 0 < x.f4.length := List.length_pos_iff.2 hx
      have hb : (x.f4.flatMap (attrsV k)).length ≤ 2 ^ (k + 1) := (attrs_len (k + 1) x h).2
      have hp : 2 ^ (k + 1) ≤ 2 ^ 19 := Nat.pow_le_pow_right (by decide) hk
      refine Attrs_parts x (attrsV k) hx (by have := h.1; omega) (fun i hi => ih _ (by omega) (h.2 i hi)) (fun e => ?_) (by omega)
      have h3 := (List.flatMap_eq_nil_iff.1 e) (x.f4[0]) (List.getElem_mem hl)
      rw [← rd_get x.f4 0 hl] at h3
      exact attrs_ne _ _ (h.2 0 hl) h3
end Go.Proofs.YtmebkjdknhknbaaGreatDoor.H
end
section
namespace Go.Proofs.YtmebkjdknhknbaaGreatDoor.H
open Go.RowKit Go.Proofs.YtmebkjdknhknbaaGreatDoorW.PrintWords Go.Proofs.YtmebkjdknhknbaaGreatDoorW.PrintLast Go.Proofs.YtmebkjdknhknbaaGreatDoorW.PrintMore
theorem info85s : (Tryz.prog.info? 85).map (·.size) = some 4 := by kernel_rfl
set_option maxHeartbeats 16000000 in
set_option maxRecDepth 100000 in
theorem ofRa (k a s : Int) (HK : Aside0 (k = 1 ∨ k = 2 ∨ k = 3)) (sep : ByteArray) (A A0 : Option Addr) (n4 c n0 c0 : Nat) (T0 T1 : Int) (T2 : Bool) (w : World)
    (HD : Aside0 (∀ w', Below w.heap.size w w' → Calls Tryz.prog 48 #[.agg #[.int .i64 k, .int .i64 a, .int .i64 s, .string sep, .slice A n4 c], .int .i64 3] w' fun e w'' => e = .returned (.bool false) ∧ Below w'.heap.size w' w''))
    (HP : Aside0 (∀ w', Below w.heap.size w w' → Calls Tryz.prog 59 #[.slice A0 n0 c0, .agg #[.int .i64 k, .int .i64 a, .int .i64 s, .string sep, .slice A n4 c]] w' fun e w'' => e = .returned (.agg #[.int .i64 T0, .int .i64 T1, .bool T2, .bool true]) ∧ Below w'.heap.size w' w'')) :
    Calls Tryz.prog 40 #[.slice A0 n0 c0, .agg #[.int .i64 k, .int .i64 a, .int .i64 s, .string sep, .slice A n4 c]] w fun e w' => e = .returned (.agg #[.int .i64 T0, .int .i64 T1, .bool T2, .bool true]) ∧ Below w.heap.size w w' := by
  have hu := Tryz.underlying85
  have hu2 := Tryz.underlying29
  have hu3 := Tryz.underlying49
  obtain ⟨c1, hc1⟩ : ∃ b, (k == 1) = b := ⟨_, rfl⟩
  obtain ⟨c2, hc2⟩ : ∃ b, (k == 2) = b := ⟨_, rfl⟩
  have C1 := Aside0.mk hc1
  have C2 := Aside0.mk hc2
  clear hc1 hc2
  have HX := Aside0.mk (Bxs.start w)
  go_enter Tryz.func40, Tryz.ntmps40
  go_upto_region 0 with (fail)
  refine Reg.det [(some 3, Reg.Dv.box 3 29 (fun _ => #[.int .i64 k, .int .i64 a, .int .i64 s, .string sep, .slice A n4 c]) [] true), (some 4, Reg.Dv.box 4 85 (fun _ => #[.int .i64 0, .int .i64 0, .bool false, .bool false]) [] true)] [] 25 rfl (by kernel_rfl) (by kernel_rfl) ?s1 ?_
  case s1 =>
    intro iq oq pq hiq hoq hpq ρ ev W S hE hO ec ef hB hft hΦ
    have e1 : ev (.tmp 1) = .agg #[.int .i64 k, .int .i64 a, .int .i64 s, .string sep, .slice A n4 c] := hO 1 rfl
    simp only [Reg.SV] at hE
    obtain ⟨e3, e4, _⟩ := hE
    rcases Reg.lt2 hiq with rfl | rfl
    all_goals (cases hoq; cases hpq)
    rotate_left 1
    · refine Reg.D.box hB ?_
      go_simp
      try rfl
    rotate_right 1
    · refine Reg.D.box hB ?_
      go_simp
      try rfl
  intro ρ W0 S hB hft hap hΦ
  simp only [Reg.SV, Reg.SF, Nat.reduceAdd]
  obtain ⟨g3, e3, s3, hg3, _, b3⟩ := hΦ 0 _ rfl rfl
  replace e3 : ρ 3 = .pointer (some ⟨g3, 0, none⟩) := e3
  obtain ⟨g4, e4, s4, hg4, _, b4⟩ := hΦ 1 _ rfl rfl
  replace e4 : ρ 4 = .pointer (some ⟨g4, 0, none⟩) := e4
  try simp only [e3, e4]
  replace b3 : W0.heap[g3]? = some (.cells #[.int .i64 k, .int .i64 a, .int .i64 s, .string sep, .slice A n4 c] 29 (0, 0)) := b3
  replace b4 : W0.heap[g4]? = some (.cells #[.int .i64 0, .int .i64 0, .bool false, .bool false] 85 (0, 0)) := b4
  have HX := Aside0.mk (HX.out.join ((Bxs.one hB hg3 b3).more hg4 b4 (by intro p hp; simp only [List.mem_cons, List.mem_singleton, List.not_mem_nil, or_false] at hp; rcases hp with rfl <;> (intro e; dsimp only at e; subst e; first | exact absurd (hap _ _ _ s3 s4) (by decide)))))
  clear hΦ hft hap 
  go_upto_region 1 with (fail)
  try simp only [Reg.SF]
  have mg3_0 : _ = some (.int .i64 k : Value) := HX.out.cell 1 0 rfl rfl
  have mg3_1 : _ = some (.int .i64 a : Value) := HX.out.cell 1 1 rfl rfl
  have mg3_2 : _ = some (.int .i64 s : Value) := HX.out.cell 1 2 rfl rfl
  have mg3_3 : _ = some (.string sep : Value) := HX.out.cell 1 3 rfl rfl
  have mg3_4 : _ = some (.slice A n4 c : Value) := HX.out.cell 1 4 rfl rfl
  refine Reg.det [(some 5, Reg.Dv.c (.agg #[.int .i64 k, .int .i64 a, .int .i64 s, .string sep, .slice A n4 c])), (some 6, Reg.Dv.c (.bool false))] [] 25 rfl (by kernel_rfl) (by kernel_rfl) ?s2 ?_
  case s2 =>
    intro iq oq pq hiq hoq hpq ρ ev W S hE hO ec ef hB hft hΦ
    have e3 : ev (.tmp 3) = .pointer (some ⟨g3, 0, none⟩) := hO 3 rfl
    have mg3_0' := pw_cell_below hB mg3_0
    have mg3_1' := pw_cell_below hB mg3_1
    have mg3_2' := pw_cell_below hB mg3_2
    have mg3_3' := pw_cell_below hB mg3_3
    have mg3_4' := pw_cell_below hB mg3_4
    simp only [Reg.SV] at hE
    obtain ⟨e5, e6, _⟩ := hE
    rcases Reg.lt2 hiq with rfl | rfl
    all_goals (cases hoq; cases hpq)
    rotate_left 1
    · refine Reg.D.cc (g := 48) (args := #[.agg #[.int .i64 k, .int .i64 a, .int .i64 s, .string sep, .slice A n4 c], .int .i64 3]) hB (by go_simp; try rfl) ?_
      exact HD.out W (below_step HX.out.below hB)
    rotate_right 1
    all_goals (refine Reg.D.cv hB ?_; go_simp; try (first | done | rfl | (simp; done) | (intro h; omega)))
  intro ρ W1 S hB hft hap hΦ
  simp only [Reg.SV, Reg.SF, Nat.reduceAdd]
  have HX := Aside0.mk (HX.out.call hB)
  clear hΦ hft hap mg3_0 mg3_1 mg3_2 mg3_3 mg3_4
  go_upto_region 3 with (fail)
  try simp only [Reg.SF]
  have mg3_0 : _ = some (.int .i64 k : Value) := HX.out.cell 1 0 rfl rfl
  refine Reg.det [(some 8, Reg.Dv.c (.pointer (some ⟨g3, 0, none⟩))), (some 9, Reg.Dv.c (.int .i64 k))] [] 25 rfl (by kernel_rfl) (by kernel_rfl) ?s3 ?_
  case s3 =>
    intro iq oq pq hiq hoq hpq ρ ev W S hE hO ec ef hB hft hΦ
    have e3 : ev (.tmp 3) = .pointer (some ⟨g3, 0, none⟩) := hO 3 rfl
    have mg3_0' := pw_cell_below hB mg3_0
    simp only [Reg.SV] at hE
    obtain ⟨e8, e9, _⟩ := hE
    rcases Reg.lt2 hiq with rfl | rfl
    all_goals (cases hoq; cases hpq)
    all_goals (refine Reg.D.cv hB ?_; go_simp; try (first | done | rfl | (simp; done) | (intro h; omega)))
  intro ρ W3 S hB hft hap hΦ
  simp only [Reg.SV, Reg.SF, Nat.reduceAdd]
  have HX := Aside0.mk (HX.out.call hB)
  clear hΦ hft hap mg3_0
  go_upto_region 4 with (fail)
  try simp only [Reg.SF]
  refine Reg.det [(some 11, Reg.Dv.c (.bool c1)), (some 10, Reg.Dv.c (.bool c1))] [] 25 rfl (by kernel_rfl) (by kernel_rfl) ?s4 ?_
  case s4 =>
    intro iq oq pq hiq hoq hpq ρ ev W S hE hO ec ef hB hft hΦ
    have e9 : ev (.tmp 9) = .int .i64 k := hO 9 rfl
    simp only [Reg.SV] at hE
    obtain ⟨e11, e10, _⟩ := hE
    rcases Reg.lt2 hiq with rfl | rfl
    all_goals (cases hoq; cases hpq)
    all_goals (first | exact Reg.D.mv hB | skip)
    all_goals (refine Reg.D.cv hB ?_; go_simp; try (first | done | rfl | (exact C1.out) | (exact C2.out) | (have h1 := HK.out; have h2 := C1.out; have h3 := C2.out; simp at h2 h3 ⊢; omega) | (have h1 := HK.out; simp; omega)))
  intro ρ W4 S hB hft hap hΦ
  simp only [Reg.SV, Reg.SF, Nat.reduceAdd]
  have HX := Aside0.mk (HX.out.call hB)
  clear hΦ hft hap 
  cases c1 with
  | true =>
    go_upto_region 7 with (fail)
    try simp only [Reg.SF]
    have mg3_0 : _ = some (.int .i64 k : Value) := HX.out.cell 1 0 rfl rfl
    have mg3_1 : _ = some (.int .i64 a : Value) := HX.out.cell 1 1 rfl rfl
    have mg3_2 : _ = some (.int .i64 s : Value) := HX.out.cell 1 2 rfl rfl
    have mg3_3 : _ = some (.string sep : Value) := HX.out.cell 1 3 rfl rfl
    have mg3_4 : _ = some (.slice A n4 c : Value) := HX.out.cell 1 4 rfl rfl
    refine Reg.det [(some 14, Reg.Dv.c (.slice A0 n0 c0)), (some 15, Reg.Dv.c (.agg #[.int .i64 k, .int .i64 a, .int .i64 s, .string sep, .slice A n4 c])), (some 16, Reg.Dv.c (.agg #[.int .i64 T0, .int .i64 T1, .bool T2, .bool true]))] [] 25 rfl (by kernel_rfl) (by kernel_rfl) ?s5 ?_
    case s5 =>
      intro iq oq pq hiq hoq hpq ρ ev W S hE hO ec ef hB hft hΦ
      have e0 : ev (.tmp 0) = .slice A0 n0 c0 := hO 0 rfl
      have e3 : ev (.tmp 3) = .pointer (some ⟨g3, 0, none⟩) := hO 3 rfl
      have mg3_0' := pw_cell_below hB mg3_0
      have mg3_1' := pw_cell_below hB mg3_1
      have mg3_2' := pw_cell_below hB mg3_2
      have mg3_3' := pw_cell_below hB mg3_3
      have mg3_4' := pw_cell_below hB mg3_4
      simp only [Reg.SV] at hE
      obtain ⟨e14, e15, e16, _⟩ := hE
      rcases Reg.lt3 hiq with rfl | rfl | rfl
      all_goals (cases hoq; cases hpq)
      rotate_left 2
      · refine Reg.D.cc (g := 59) (args := #[.slice A0 n0 c0, .agg #[.int .i64 k, .int .i64 a, .int .i64 s, .string sep, .slice A n4 c]]) hB (by go_simp; try rfl) ?_
        exact HP.out W (below_step HX.out.below hB)
      rotate_right 2
      all_goals (first | exact Reg.D.mv hB | skip)
      all_goals (refine Reg.D.cv hB ?_; go_simp; try (first | done | rfl | (simp; done) | (intro h; omega)))
    intro ρ W7 S hB hft hap hΦ
    simp only [Reg.SV, Reg.SF, Nat.reduceAdd]
    have HX := Aside0.mk (HX.out.call hB)
    clear hΦ hft hap mg3_0 mg3_1 mg3_2 mg3_3 mg3_4
    refine bx_put (w := w) rfl 85 (.tmp 4) (.tmp 16) rfl rfl (L1 := []) (cells := #[.int .i64 T0, .int .i64 T1, .bool T2, .bool true]) HX.out rfl rfl (by kernel_rfl) rfl rfl ?_
    intro Wp hx
    have HX := Aside0.mk hx
    clear hx
    go_wp2_with fail
    refine bodyPost_ret (results_cell_row rfl _ _ g4 85 #[.int .i64 T0, .int .i64 T1, .bool T2, .bool true] (0, 0) _ rfl (HX.out.at 0 rfl) hu rfl (by kernel_rfl)) rfl ?_
    exact ⟨rfl, HX.out.below⟩
  | false =>
    go_upto_region 5 with (fail)
    try simp only [Reg.SF]
    refine Reg.det [(some 12, Reg.Dv.c (.bool c2)), (some 10, Reg.Dv.c (.bool c2))] [] 25 rfl (by kernel_rfl) (by kernel_rfl) ?s6 ?_
    case s6 =>
      intro iq oq pq hiq hoq hpq ρ ev W S hE hO ec ef hB hft hΦ
      have e9 : ev (.tmp 9) = .int .i64 k := hO 9 rfl
      simp only [Reg.SV] at hE
      obtain ⟨e12, e10, _⟩ := hE
      rcases Reg.lt2 hiq with rfl | rfl
      all_goals (cases hoq; cases hpq)
      all_goals (first | exact Reg.D.mv hB | skip)
      all_goals (refine Reg.D.cv hB ?_; go_simp; try (first | done | rfl | (exact C1.out) | (exact C2.out) | (have h1 := HK.out; have h2 := C1.out; have h3 := C2.out; simp at h2 h3 ⊢; omega) | (have h1 := HK.out; simp; omega)))
    intro ρ W5 S hB hft hap hΦ
    simp only [Reg.SV, Reg.SF, Nat.reduceAdd]
    have HX := Aside0.mk (HX.out.call hB)
    clear hΦ hft hap 
    cases c2 with
    | true =>
      go_upto_region 7 with (fail)
      try simp only [Reg.SF]
      have mg3_0 : _ = some (.int .i64 k : Value) := HX.out.cell 1 0 rfl rfl
      have mg3_1 : _ = some (.int .i64 a : Value) := HX.out.cell 1 1 rfl rfl
      have mg3_2 : _ = some (.int .i64 s : Value) := HX.out.cell 1 2 rfl rfl
      have mg3_3 : _ = some (.string sep : Value) := HX.out.cell 1 3 rfl rfl
      have mg3_4 : _ = some (.slice A n4 c : Value) := HX.out.cell 1 4 rfl rfl
      refine Reg.det [(some 14, Reg.Dv.c (.slice A0 n0 c0)), (some 15, Reg.Dv.c (.agg #[.int .i64 k, .int .i64 a, .int .i64 s, .string sep, .slice A n4 c])), (some 16, Reg.Dv.c (.agg #[.int .i64 T0, .int .i64 T1, .bool T2, .bool true]))] [] 25 rfl (by kernel_rfl) (by kernel_rfl) ?s7 ?_
      case s7 =>
        intro iq oq pq hiq hoq hpq ρ ev W S hE hO ec ef hB hft hΦ
        have e0 : ev (.tmp 0) = .slice A0 n0 c0 := hO 0 rfl
        have e3 : ev (.tmp 3) = .pointer (some ⟨g3, 0, none⟩) := hO 3 rfl
        have mg3_0' := pw_cell_below hB mg3_0
        have mg3_1' := pw_cell_below hB mg3_1
        have mg3_2' := pw_cell_below hB mg3_2
        have mg3_3' := pw_cell_below hB mg3_3
        have mg3_4' := pw_cell_below hB mg3_4
        simp only [Reg.SV] at hE
        obtain ⟨e14, e15, e16, _⟩ := hE
        rcases Reg.lt3 hiq with rfl | rfl | rfl
        all_goals (cases hoq; cases hpq)
        rotate_left 2
        · refine Reg.D.cc (g := 59) (args := #[.slice A0 n0 c0, .agg #[.int .i64 k, .int .i64 a, .int .i64 s, .string sep, .slice A n4 c]]) hB (by go_simp; try rfl) ?_
          exact HP.out W (below_step HX.out.below hB)
        rotate_right 2
        all_goals (first | exact Reg.D.mv hB | skip)
        all_goals (refine Reg.D.cv hB ?_; go_simp; try (first | done | rfl | (simp; done) | (intro h; omega)))
      intro ρ W7 S hB hft hap hΦ
      simp only [Reg.SV, Reg.SF, Nat.reduceAdd]
      have HX := Aside0.mk (HX.out.call hB)
      clear hΦ hft hap mg3_0 mg3_1 mg3_2 mg3_3 mg3_4
      refine bx_put (w := w) rfl 85 (.tmp 4) (.tmp 16) rfl rfl (L1 := []) (cells := #[.int .i64 T0, .int .i64 T1, .bool T2, .bool true]) HX.out rfl rfl (by kernel_rfl) rfl rfl ?_
      intro Wp hx
      have HX := Aside0.mk hx
      clear hx
      go_wp2_with fail
      refine bodyPost_ret (results_cell_row rfl _ _ g4 85 #[.int .i64 T0, .int .i64 T1, .bool T2, .bool true] (0, 0) _ rfl (HX.out.at 0 rfl) hu rfl (by kernel_rfl)) rfl ?_
      exact ⟨rfl, HX.out.below⟩
    | false =>
      go_upto_region 6 with (fail)
      try simp only [Reg.SF]
      refine Reg.det [(some 13, Reg.Dv.c (.bool true)), (some 10, Reg.Dv.c (.bool true))] [] 25 rfl (by kernel_rfl) (by kernel_rfl) ?s8 ?_
      case s8 =>
        intro iq oq pq hiq hoq hpq ρ ev W S hE hO ec ef hB hft hΦ
        have e9 : ev (.tmp 9) = .int .i64 k := hO 9 rfl
        simp only [Reg.SV] at hE
        obtain ⟨e13, e10, _⟩ := hE
        rcases Reg.lt2 hiq with rfl | rfl
        all_goals (cases hoq; cases hpq)
        all_goals (first | exact Reg.D.mv hB | skip)
        all_goals (refine Reg.D.cv hB ?_; go_simp; try (first | done | rfl | (exact C1.out) | (exact C2.out) | (have h1 := HK.out; have h2 := C1.out; have h3 := C2.out; simp at h2 h3 ⊢; omega) | (have h1 := HK.out; simp; omega)))
      intro ρ W6 S hB hft hap hΦ
      simp only [Reg.SV, Reg.SF, Nat.reduceAdd]
      have HX := Aside0.mk (HX.out.call hB)
      clear hΦ hft hap 
      go_upto_region 7 with (fail)
      try simp only [Reg.SF]
      have mg3_0 : _ = some (.int .i64 k : Value) := HX.out.cell 1 0 rfl rfl
      have mg3_1 : _ = some (.int .i64 a : Value) := HX.out.cell 1 1 rfl rfl
      have mg3_2 : _ = some (.int .i64 s : Value) := HX.out.cell 1 2 rfl rfl
      have mg3_3 : _ = some (.string sep : Value) := HX.out.cell 1 3 rfl rfl
      have mg3_4 : _ = some (.slice A n4 c : Value) := HX.out.cell 1 4 rfl rfl
      refine Reg.det [(some 14, Reg.Dv.c (.slice A0 n0 c0)), (some 15, Reg.Dv.c (.agg #[.int .i64 k, .int .i64 a, .int .i64 s, .string sep, .slice A n4 c])), (some 16, Reg.Dv.c (.agg #[.int .i64 T0, .int .i64 T1, .bool T2, .bool true]))] [] 25 rfl (by kernel_rfl) (by kernel_rfl) ?s9 ?_
      case s9 =>
        intro iq oq pq hiq hoq hpq ρ ev W S hE hO ec ef hB hft hΦ
        have e0 : ev (.tmp 0) = .slice A0 n0 c0 := hO 0 rfl
        have e3 : ev (.tmp 3) = .pointer (some ⟨g3, 0, none⟩) := hO 3 rfl
        have mg3_0' := pw_cell_below hB mg3_0
        have mg3_1' := pw_cell_below hB mg3_1
        have mg3_2' := pw_cell_below hB mg3_2
        have mg3_3' := pw_cell_below hB mg3_3
        have mg3_4' := pw_cell_below hB mg3_4
        simp only [Reg.SV] at hE
        obtain ⟨e14, e15, e16, _⟩ := hE
        rcases Reg.lt3 hiq with rfl | rfl | rfl
        all_goals (cases hoq; cases hpq)
        rotate_left 2
        · refine Reg.D.cc (g := 59) (args := #[.slice A0 n0 c0, .agg #[.int .i64 k, .int .i64 a, .int .i64 s, .string sep, .slice A n4 c]]) hB (by go_simp; try rfl) ?_
          exact HP.out W (below_step HX.out.below hB)
        rotate_right 2
        all_goals (first | exact Reg.D.mv hB | skip)
        all_goals (refine Reg.D.cv hB ?_; go_simp; try (first | done | rfl | (simp; done) | (intro h; omega)))
      intro ρ W7 S hB hft hap hΦ
      simp only [Reg.SV, Reg.SF, Nat.reduceAdd]
      have HX := Aside0.mk (HX.out.call hB)
      clear hΦ hft hap mg3_0 mg3_1 mg3_2 mg3_3 mg3_4
      refine bx_put (w := w) rfl 85 (.tmp 4) (.tmp 16) rfl rfl (L1 := []) (cells := #[.int .i64 T0, .int .i64 T1, .bool T2, .bool true]) HX.out rfl rfl (by kernel_rfl) rfl rfl ?_
      intro Wp hx
      have HX := Aside0.mk hx
      clear hx
      go_wp2_with fail
      refine bodyPost_ret (results_cell_row rfl _ _ g4 85 #[.int .i64 T0, .int .i64 T1, .bool T2, .bool true] (0, 0) _ rfl (HX.out.at 0 rfl) hu rfl (by kernel_rfl)) rfl ?_
      exact ⟨rfl, HX.out.below⟩
set_option maxHeartbeats 16000000 in
set_option maxRecDepth 100000 in
theorem ofRb (k a s : Int) (HK : Aside0 (k = 4 ∨ k = 5 ∨ k = 6)) (sep : ByteArray) (A A0 : Option Addr) (n4 c n0 c0 : Nat) (T0 T1 : Int) (T2 : Bool) (w : World)
    (HD : Aside0 (∀ w', Below w.heap.size w w' → Calls Tryz.prog 48 #[.agg #[.int .i64 k, .int .i64 a, .int .i64 s, .string sep, .slice A n4 c], .int .i64 3] w' fun e w'' => e = .returned (.bool false) ∧ Below w'.heap.size w' w''))
    (HP : Aside0 (∀ w', Below w.heap.size w w' → Calls Tryz.prog 60 #[.slice A0 n0 c0, .agg #[.int .i64 k, .int .i64 a, .int .i64 s, .string sep, .slice A n4 c]] w' fun e w'' => e = .returned (.agg #[.int .i64 T0, .int .i64 T1, .bool T2, .bool true]) ∧ Below w'.heap.size w' w'')) :
    Calls Tryz.prog 40 #[.slice A0 n0 c0, .agg #[.int .i64 k, .int .i64 a, .int .i64 s, .string sep, .slice A n4 c]] w fun e w' => e = .returned (.agg #[.int .i64 T0, .int .i64 T1, .bool T2, .bool true]) ∧ Below w.heap.size w w' := by
  have hu := Tryz.underlying85
  have hu2 := Tryz.underlying29
  have hu3 := Tryz.underlying49
  obtain ⟨c1, hc1⟩ : ∃ b, (k == 4) = b := ⟨_, rfl⟩
  obtain ⟨c2, hc2⟩ : ∃ b, (k == 5) = b := ⟨_, rfl⟩
  have C1 := Aside0.mk hc1
  have C2 := Aside0.mk hc2
  clear hc1 hc2
  have HX := Aside0.mk (Bxs.start w)
  go_enter Tryz.func40, Tryz.ntmps40
  go_upto_region 0 with (fail)
  refine Reg.det [(some 3, Reg.Dv.box 3 29 (fun _ => #[.int .i64 k, .int .i64 a, .int .i64 s, .string sep, .slice A n4 c]) [] true), (some 4, Reg.Dv.box 4 85 (fun _ => #[.int .i64 0, .int .i64 0, .bool false, .bool false]) [] true)] [] 25 rfl (by kernel_rfl) (by kernel_rfl) ?s10 ?_
  case s10 =>
    intro iq oq pq hiq hoq hpq ρ ev W S hE hO ec ef hB hft hΦ
    have e1 : ev (.tmp 1) = .agg #[.int .i64 k, .int .i64 a, .int .i64 s, .string sep, .slice A n4 c] := hO 1 rfl
    simp only [Reg.SV] at hE
    obtain ⟨e3, e4, _⟩ := hE
    rcases Reg.lt2 hiq with rfl | rfl
    all_goals (cases hoq; cases hpq)
    rotate_left 1
    · refine Reg.D.box hB ?_
      go_simp
      try rfl
    rotate_right 1
    · refine Reg.D.box hB ?_
      go_simp
      try rfl
  intro ρ W0 S hB hft hap hΦ
  simp only [Reg.SV, Reg.SF, Nat.reduceAdd]
  obtain ⟨g3, e3, s3, hg3, _, b3⟩ := hΦ 0 _ rfl rfl
  replace e3 : ρ 3 = .pointer (some ⟨g3, 0, none⟩) := e3
  obtain ⟨g4, e4, s4, hg4, _, b4⟩ := hΦ 1 _ rfl rfl
  replace e4 : ρ 4 = .pointer (some ⟨g4, 0, none⟩) := e4
  try simp only [e3, e4]
  replace b3 : W0.heap[g3]? = some (.cells #[.int .i64 k, .int .i64 a, .int .i64 s, .string sep, .slice A n4 c] 29 (0, 0)) := b3
  replace b4 : W0.heap[g4]? = some (.cells #[.int .i64 0, .int .i64 0, .bool false, .bool false] 85 (0, 0)) := b4
  have HX := Aside0.mk (HX.out.join ((Bxs.one hB hg3 b3).more hg4 b4 (by intro p hp; simp only [List.mem_cons, List.mem_singleton, List.not_mem_nil, or_false] at hp; rcases hp with rfl <;> (intro e; dsimp only at e; subst e; first | exact absurd (hap _ _ _ s3 s4) (by decide)))))
  clear hΦ hft hap 
  go_upto_region 1 with (fail)
  try simp only [Reg.SF]
  have mg3_0 : _ = some (.int .i64 k : Value) := HX.out.cell 1 0 rfl rfl
  have mg3_1 : _ = some (.int .i64 a : Value) := HX.out.cell 1 1 rfl rfl
  have mg3_2 : _ = some (.int .i64 s : Value) := HX.out.cell 1 2 rfl rfl
  have mg3_3 : _ = some (.string sep : Value) := HX.out.cell 1 3 rfl rfl
  have mg3_4 : _ = some (.slice A n4 c : Value) := HX.out.cell 1 4 rfl rfl
  refine Reg.det [(some 5, Reg.Dv.c (.agg #[.int .i64 k, .int .i64 a, .int .i64 s, .string sep, .slice A n4 c])), (some 6, Reg.Dv.c (.bool false))] [] 25 rfl (by kernel_rfl) (by kernel_rfl) ?s11 ?_
  case s11 =>
    intro iq oq pq hiq hoq hpq ρ ev W S hE hO ec ef hB hft hΦ
    have e3 : ev (.tmp 3) = .pointer (some ⟨g3, 0, none⟩) := hO 3 rfl
    have mg3_0' := pw_cell_below hB mg3_0
    have mg3_1' := pw_cell_below hB mg3_1
    have mg3_2' := pw_cell_below hB mg3_2
    have mg3_3' := pw_cell_below hB mg3_3
    have mg3_4' := pw_cell_below hB mg3_4
    simp only [Reg.SV] at hE
    obtain ⟨e5, e6, _⟩ := hE
    rcases Reg.lt2 hiq with rfl | rfl
    all_goals (cases hoq; cases hpq)
    rotate_left 1
    · refine Reg.D.cc (g := 48) (args := #[.agg #[.int .i64 k, .int .i64 a, .int .i64 s, .string sep, .slice A n4 c], .int .i64 3]) hB (by go_simp; try rfl) ?_
      exact HD.out W (below_step HX.out.below hB)
    rotate_right 1
    all_goals (refine Reg.D.cv hB ?_; go_simp; try (first | done | rfl | (simp; done) | (intro h; omega)))
  intro ρ W1 S hB hft hap hΦ
  simp only [Reg.SV, Reg.SF, Nat.reduceAdd]
  have HX := Aside0.mk (HX.out.call hB)
  clear hΦ hft hap mg3_0 mg3_1 mg3_2 mg3_3 mg3_4
  go_upto_region 3 with (fail)
  try simp only [Reg.SF]
  have mg3_0 : _ = some (.int .i64 k : Value) := HX.out.cell 1 0 rfl rfl
  refine Reg.det [(some 8, Reg.Dv.c (.pointer (some ⟨g3, 0, none⟩))), (some 9, Reg.Dv.c (.int .i64 k))] [] 25 rfl (by kernel_rfl) (by kernel_rfl) ?s12 ?_
  case s12 =>
    intro iq oq pq hiq hoq hpq ρ ev W S hE hO ec ef hB hft hΦ
    have e3 : ev (.tmp 3) = .pointer (some ⟨g3, 0, none⟩) := hO 3 rfl
    have mg3_0' := pw_cell_below hB mg3_0
    simp only [Reg.SV] at hE
    obtain ⟨e8, e9, _⟩ := hE
    rcases Reg.lt2 hiq with rfl | rfl
    all_goals (cases hoq; cases hpq)
    all_goals (refine Reg.D.cv hB ?_; go_simp; try (first | done | rfl | (simp; done) | (intro h; omega)))
  intro ρ W3 S hB hft hap hΦ
  simp only [Reg.SV, Reg.SF, Nat.reduceAdd]
  have HX := Aside0.mk (HX.out.call hB)
  clear hΦ hft hap mg3_0
  go_upto_region 4 with (fail)
  try simp only [Reg.SF]
  refine Reg.det [(some 11, Reg.Dv.c (.bool false)), (some 10, Reg.Dv.c (.bool false))] [] 25 rfl (by kernel_rfl) (by kernel_rfl) ?s13 ?_
  case s13 =>
    intro iq oq pq hiq hoq hpq ρ ev W S hE hO ec ef hB hft hΦ
    have e9 : ev (.tmp 9) = .int .i64 k := hO 9 rfl
    simp only [Reg.SV] at hE
    obtain ⟨e11, e10, _⟩ := hE
    rcases Reg.lt2 hiq with rfl | rfl
    all_goals (cases hoq; cases hpq)
    all_goals (first | exact Reg.D.mv hB | skip)
    all_goals (refine Reg.D.cv hB ?_; go_simp; try (first | done | rfl | (exact C1.out) | (exact C2.out) | (have h1 := HK.out; have h2 := C1.out; have h3 := C2.out; simp at h2 h3 ⊢; omega) | (have h1 := HK.out; simp; omega)))
  intro ρ W4 S hB hft hap hΦ
  simp only [Reg.SV, Reg.SF, Nat.reduceAdd]
  have HX := Aside0.mk (HX.out.call hB)
  clear hΦ hft hap 
  go_upto_region 5 with (fail)
  try simp only [Reg.SF]
  refine Reg.det [(some 12, Reg.Dv.c (.bool false)), (some 10, Reg.Dv.c (.bool false))] [] 25 rfl (by kernel_rfl) (by kernel_rfl) ?s14 ?_
  case s14 =>
    intro iq oq pq hiq hoq hpq ρ ev W S hE hO ec ef hB hft hΦ
    have e9 : ev (.tmp 9) = .int .i64 k := hO 9 rfl
    simp only [Reg.SV] at hE
    obtain ⟨e12, e10, _⟩ := hE
    rcases Reg.lt2 hiq with rfl | rfl
    all_goals (cases hoq; cases hpq)
    all_goals (first | exact Reg.D.mv hB | skip)
    all_goals (refine Reg.D.cv hB ?_; go_simp; try (first | done | rfl | (exact C1.out) | (exact C2.out) | (have h1 := HK.out; have h2 := C1.out; have h3 := C2.out; simp at h2 h3 ⊢; omega) | (have h1 := HK.out; simp; omega)))
  intro ρ W5 S hB hft hap hΦ
  simp only [Reg.SV, Reg.SF, Nat.reduceAdd]
  have HX := Aside0.mk (HX.out.call hB)
  clear hΦ hft hap 
  go_upto_region 6 with (fail)
  try simp only [Reg.SF]
  refine Reg.det [(some 13, Reg.Dv.c (.bool false)), (some 10, Reg.Dv.c (.bool false))] [] 25 rfl (by kernel_rfl) (by kernel_rfl) ?s15 ?_
  case s15 =>
    intro iq oq pq hiq hoq hpq ρ ev W S hE hO ec ef hB hft hΦ
    have e9 : ev (.tmp 9) = .int .i64 k := hO 9 rfl
    simp only [Reg.SV] at hE
    obtain ⟨e13, e10, _⟩ := hE
    rcases Reg.lt2 hiq with rfl | rfl
    all_goals (cases hoq; cases hpq)
    all_goals (first | exact Reg.D.mv hB | skip)
    all_goals (refine Reg.D.cv hB ?_; go_simp; try (first | done | rfl | (exact C1.out) | (exact C2.out) | (have h1 := HK.out; have h2 := C1.out; have h3 := C2.out; simp at h2 h3 ⊢; omega) | (have h1 := HK.out; simp; omega)))
  intro ρ W6 S hB hft hap hΦ
  simp only [Reg.SV, Reg.SF, Nat.reduceAdd]
  have HX := Aside0.mk (HX.out.call hB)
  clear hΦ hft hap 
  go_upto_region 8 with (fail)
  try simp only [Reg.SF]
  refine Reg.det [(some 18, Reg.Dv.c (.bool c1)), (some 17, Reg.Dv.c (.bool c1))] [] 25 rfl (by kernel_rfl) (by kernel_rfl) ?s16 ?_
  case s16 =>
    intro iq oq pq hiq hoq hpq ρ ev W S hE hO ec ef hB hft hΦ
    have e9 : ev (.tmp 9) = .int .i64 k := hO 9 rfl
    simp only [Reg.SV] at hE
    obtain ⟨e18, e17, _⟩ := hE
    rcases Reg.lt2 hiq with rfl | rfl
    all_goals (cases hoq; cases hpq)
    all_goals (first | exact Reg.D.mv hB | skip)
    all_goals (refine Reg.D.cv hB ?_; go_simp; try (first | done | rfl | (exact C1.out) | (exact C2.out) | (have h1 := HK.out; have h2 := C1.out; have h3 := C2.out; simp at h2 h3 ⊢; omega) | (have h1 := HK.out; simp; omega)))
  intro ρ W8 S hB hft hap hΦ
  simp only [Reg.SV, Reg.SF, Nat.reduceAdd]
  have HX := Aside0.mk (HX.out.call hB)
  clear hΦ hft hap 
  cases c1 with
  | true =>
    go_upto_region 11 with (fail)
    try simp only [Reg.SF]
    have mg3_0 : _ = some (.int .i64 k : Value) := HX.out.cell 1 0 rfl rfl
    have mg3_1 : _ = some (.int .i64 a : Value) := HX.out.cell 1 1 rfl rfl
    have mg3_2 : _ = some (.int .i64 s : Value) := HX.out.cell 1 2 rfl rfl
    have mg3_3 : _ = some (.string sep : Value) := HX.out.cell 1 3 rfl rfl
    have mg3_4 : _ = some (.slice A n4 c : Value) := HX.out.cell 1 4 rfl rfl
    refine Reg.det [(some 21, Reg.Dv.c (.slice A0 n0 c0)), (some 22, Reg.Dv.c (.agg #[.int .i64 k, .int .i64 a, .int .i64 s, .string sep, .slice A n4 c])), (some 23, Reg.Dv.c (.agg #[.int .i64 T0, .int .i64 T1, .bool T2, .bool true]))] [] 25 rfl (by kernel_rfl) (by kernel_rfl) ?s17 ?_
    case s17 =>
      intro iq oq pq hiq hoq hpq ρ ev W S hE hO ec ef hB hft hΦ
      have e0 : ev (.tmp 0) = .slice A0 n0 c0 := hO 0 rfl
      have e3 : ev (.tmp 3) = .pointer (some ⟨g3, 0, none⟩) := hO 3 rfl
      have mg3_0' := pw_cell_below hB mg3_0
      have mg3_1' := pw_cell_below hB mg3_1
      have mg3_2' := pw_cell_below hB mg3_2
      have mg3_3' := pw_cell_below hB mg3_3
      have mg3_4' := pw_cell_below hB mg3_4
      simp only [Reg.SV] at hE
      obtain ⟨e21, e22, e23, _⟩ := hE
      rcases Reg.lt3 hiq with rfl | rfl | rfl
      all_goals (cases hoq; cases hpq)
      rotate_left 2
      · refine Reg.D.cc (g := 60) (args := #[.slice A0 n0 c0, .agg #[.int .i64 k, .int .i64 a, .int .i64 s, .string sep, .slice A n4 c]]) hB (by go_simp; try rfl) ?_
        exact HP.out W (below_step HX.out.below hB)
      rotate_right 2
      all_goals (first | exact Reg.D.mv hB | skip)
      all_goals (refine Reg.D.cv hB ?_; go_simp; try (first | done | rfl | (simp; done) | (intro h; omega)))
    intro ρ W11 S hB hft hap hΦ
    simp only [Reg.SV, Reg.SF, Nat.reduceAdd]
    have HX := Aside0.mk (HX.out.call hB)
    clear hΦ hft hap mg3_0 mg3_1 mg3_2 mg3_3 mg3_4
    refine bx_put (w := w) rfl 85 (.tmp 4) (.tmp 23) rfl rfl (L1 := []) (cells := #[.int .i64 T0, .int .i64 T1, .bool T2, .bool true]) HX.out rfl rfl (by kernel_rfl) rfl rfl ?_
    intro Wp hx
    have HX := Aside0.mk hx
    clear hx
    go_wp2_with fail
    refine bodyPost_ret (results_cell_row rfl _ _ g4 85 #[.int .i64 T0, .int .i64 T1, .bool T2, .bool true] (0, 0) _ rfl (HX.out.at 0 rfl) hu rfl (by kernel_rfl)) rfl ?_
    exact ⟨rfl, HX.out.below⟩
  | false =>
    go_upto_region 9 with (fail)
    try simp only [Reg.SF]
    refine Reg.det [(some 19, Reg.Dv.c (.bool c2)), (some 17, Reg.Dv.c (.bool c2))] [] 25 rfl (by kernel_rfl) (by kernel_rfl) ?s18 ?_
    case s18 =>
      intro iq oq pq hiq hoq hpq ρ ev W S hE hO ec ef hB hft hΦ
      have e9 : ev (.tmp 9) = .int .i64 k := hO 9 rfl
      simp only [Reg.SV] at hE
      obtain ⟨e19, e17, _⟩ := hE
      rcases Reg.lt2 hiq with rfl | rfl
      all_goals (cases hoq; cases hpq)
      all_goals (first | exact Reg.D.mv hB | skip)
      all_goals (refine Reg.D.cv hB ?_; go_simp; try (first | done | rfl | (exact C1.out) | (exact C2.out) | (have h1 := HK.out; have h2 := C1.out; have h3 := C2.out; simp at h2 h3 ⊢; omega) | (have h1 := HK.out; simp; omega)))
    intro ρ W9 S hB hft hap hΦ
    simp only [Reg.SV, Reg.SF, Nat.reduceAdd]
    have HX := Aside0.mk (HX.out.call hB)
    clear hΦ hft hap 
    cases c2 with
    | true =>
      go_upto_region 11 with (fail)
      try simp only [Reg.SF]
      have mg3_0 : _ = some (.int .i64 k : Value) := HX.out.cell 1 0 rfl rfl
      have mg3_1 : _ = some (.int .i64 a : Value) := HX.out.cell 1 1 rfl rfl
      have mg3_2 : _ = some (.int .i64 s : Value) := HX.out.cell 1 2 rfl rfl
      have mg3_3 : _ = some (.string sep : Value) := HX.out.cell 1 3 rfl rfl
      have mg3_4 : _ = some (.slice A n4 c : Value) := HX.out.cell 1 4 rfl rfl
      refine Reg.det [(some 21, Reg.Dv.c (.slice A0 n0 c0)), (some 22, Reg.Dv.c (.agg #[.int .i64 k, .int .i64 a, .int .i64 s, .string sep, .slice A n4 c])), (some 23, Reg.Dv.c (.agg #[.int .i64 T0, .int .i64 T1, .bool T2, .bool true]))] [] 25 rfl (by kernel_rfl) (by kernel_rfl) ?s19 ?_
      case s19 =>
        intro iq oq pq hiq hoq hpq ρ ev W S hE hO ec ef hB hft hΦ
        have e0 : ev (.tmp 0) = .slice A0 n0 c0 := hO 0 rfl
        have e3 : ev (.tmp 3) = .pointer (some ⟨g3, 0, none⟩) := hO 3 rfl
        have mg3_0' := pw_cell_below hB mg3_0
        have mg3_1' := pw_cell_below hB mg3_1
        have mg3_2' := pw_cell_below hB mg3_2
        have mg3_3' := pw_cell_below hB mg3_3
        have mg3_4' := pw_cell_below hB mg3_4
        simp only [Reg.SV] at hE
        obtain ⟨e21, e22, e23, _⟩ := hE
        rcases Reg.lt3 hiq with rfl | rfl | rfl
        all_goals (cases hoq; cases hpq)
        rotate_left 2
        · refine Reg.D.cc (g := 60) (args := #[.slice A0 n0 c0, .agg #[.int .i64 k, .int .i64 a, .int .i64 s, .string sep, .slice A n4 c]]) hB (by go_simp; try rfl) ?_
          exact HP.out W (below_step HX.out.below hB)
        rotate_right 2
        all_goals (first | exact Reg.D.mv hB | skip)
        all_goals (refine Reg.D.cv hB ?_; go_simp; try (first | done | rfl | (simp; done) | (intro h; omega)))
      intro ρ W11 S hB hft hap hΦ
      simp only [Reg.SV, Reg.SF, Nat.reduceAdd]
      have HX := Aside0.mk (HX.out.call hB)
      clear hΦ hft hap mg3_0 mg3_1 mg3_2 mg3_3 mg3_4
      refine bx_put (w := w) rfl 85 (.tmp 4) (.tmp 23) rfl rfl (L1 := []) (cells := #[.int .i64 T0, .int .i64 T1, .bool T2, .bool true]) HX.out rfl rfl (by kernel_rfl) rfl rfl ?_
      intro Wp hx
      have HX := Aside0.mk hx
      clear hx
      go_wp2_with fail
      refine bodyPost_ret (results_cell_row rfl _ _ g4 85 #[.int .i64 T0, .int .i64 T1, .bool T2, .bool true] (0, 0) _ rfl (HX.out.at 0 rfl) hu rfl (by kernel_rfl)) rfl ?_
      exact ⟨rfl, HX.out.below⟩
    | false =>
      go_upto_region 10 with (fail)
      try simp only [Reg.SF]
      refine Reg.det [(some 20, Reg.Dv.c (.bool true)), (some 17, Reg.Dv.c (.bool true))] [] 25 rfl (by kernel_rfl) (by kernel_rfl) ?s20 ?_
      case s20 =>
        intro iq oq pq hiq hoq hpq ρ ev W S hE hO ec ef hB hft hΦ
        have e9 : ev (.tmp 9) = .int .i64 k := hO 9 rfl
        simp only [Reg.SV] at hE
        obtain ⟨e20, e17, _⟩ := hE
        rcases Reg.lt2 hiq with rfl | rfl
        all_goals (cases hoq; cases hpq)
        all_goals (first | exact Reg.D.mv hB | skip)
        all_goals (refine Reg.D.cv hB ?_; go_simp; try (first | done | rfl | (exact C1.out) | (exact C2.out) | (have h1 := HK.out; have h2 := C1.out; have h3 := C2.out; simp at h2 h3 ⊢; omega) | (have h1 := HK.out; simp; omega)))
      intro ρ W10 S hB hft hap hΦ
      simp only [Reg.SV, Reg.SF, Nat.reduceAdd]
      have HX := Aside0.mk (HX.out.call hB)
      clear hΦ hft hap 
      go_upto_region 11 with (fail)
      try simp only [Reg.SF]
      have mg3_0 : _ = some (.int .i64 k : Value) := HX.out.cell 1 0 rfl rfl
      have mg3_1 : _ = some (.int .i64 a : Value) := HX.out.cell 1 1 rfl rfl
      have mg3_2 : _ = some (.int .i64 s : Value) := HX.out.cell 1 2 rfl rfl
      have mg3_3 : _ = some (.string sep : Value) := HX.out.cell 1 3 rfl rfl
      have mg3_4 : _ = some (.slice A n4 c : Value) := HX.out.cell 1 4 rfl rfl
      refine Reg.det [(some 21, Reg.Dv.c (.slice A0 n0 c0)), (some 22, Reg.Dv.c (.agg #[.int .i64 k, .int .i64 a, .int .i64 s, .string sep, .slice A n4 c])), (some 23, Reg.Dv.c (.agg #[.int .i64 T0, .int .i64 T1, .bool T2, .bool true]))] [] 25 rfl (by kernel_rfl) (by kernel_rfl) ?s21 ?_
      case s21 =>
        intro iq oq pq hiq hoq hpq ρ ev W S hE hO ec ef hB hft hΦ
        have e0 : ev (.tmp 0) = .slice A0 n0 c0 := hO 0 rfl
        have e3 : ev (.tmp 3) = .pointer (some ⟨g3, 0, none⟩) := hO 3 rfl
        have mg3_0' := pw_cell_below hB mg3_0
        have mg3_1' := pw_cell_below hB mg3_1
        have mg3_2' := pw_cell_below hB mg3_2
        have mg3_3' := pw_cell_below hB mg3_3
        have mg3_4' := pw_cell_below hB mg3_4
        simp only [Reg.SV] at hE
        obtain ⟨e21, e22, e23, _⟩ := hE
        rcases Reg.lt3 hiq with rfl | rfl | rfl
        all_goals (cases hoq; cases hpq)
        rotate_left 2
        · refine Reg.D.cc (g := 60) (args := #[.slice A0 n0 c0, .agg #[.int .i64 k, .int .i64 a, .int .i64 s, .string sep, .slice A n4 c]]) hB (by go_simp; try rfl) ?_
          exact HP.out W (below_step HX.out.below hB)
        rotate_right 2
        all_goals (first | exact Reg.D.mv hB | skip)
        all_goals (refine Reg.D.cv hB ?_; go_simp; try (first | done | rfl | (simp; done) | (intro h; omega)))
      intro ρ W11 S hB hft hap hΦ
      simp only [Reg.SV, Reg.SF, Nat.reduceAdd]
      have HX := Aside0.mk (HX.out.call hB)
      clear hΦ hft hap mg3_0 mg3_1 mg3_2 mg3_3 mg3_4
      refine bx_put (w := w) rfl 85 (.tmp 4) (.tmp 23) rfl rfl (L1 := []) (cells := #[.int .i64 T0, .int .i64 T1, .bool T2, .bool true]) HX.out rfl rfl (by kernel_rfl) rfl rfl ?_
      intro Wp hx
      have HX := Aside0.mk hx
      clear hx
      go_wp2_with fail
      refine bodyPost_ret (results_cell_row rfl _ _ g4 85 #[.int .i64 T0, .int .i64 T1, .bool T2, .bool true] (0, 0) _ rfl (HX.out.at 0 rfl) hu rfl (by kernel_rfl)) rfl ?_
      exact ⟨rfl, HX.out.below⟩
end Go.Proofs.YtmebkjdknhknbaaGreatDoor.H
end
section
namespace Go.Proofs.YtmebkjdknhknbaaGreatDoor.H
open Go.RowKit Go.Proofs.YtmebkjdknhknbaaGreatDoorW.PrintWords Go.Proofs.YtmebkjdknhknbaaGreatDoorW.PrintLast Go.Proofs.YtmebkjdknhknbaaGreatDoorW.PrintMore
structure KidC (w : World) (q : Addr) (v0 v1 v2 v3 v4 : Value) : Prop where
  k0 : w.cell? q = some v0
  k1 : w.cell? ⟨q.block, q.off + 1, none⟩ = some v1
  k2 : w.cell? ⟨q.block, q.off + 2, none⟩ = some v2
  k3 : w.cell? ⟨q.block, q.off + 3, none⟩ = some v3
  k4 : w.cell? ⟨q.block, q.off + 4, none⟩ = some v4
set_option maxHeartbeats 16000000 in
set_option maxRecDepth 100000 in
theorem partsR4 (sep : ByteArray) (ad q0 q1 : Addr) (A0 : Option Addr) (c n0 c0 : Nat) (u v : Int) (N M : Bool) (y0 y1 y2 : Int) (y3 : ByteArray) (yA : Option Addr) (yn yc : Nat) (w : World)
    (HS : Aside0 (∀ w', Below w.heap.size w w' → Calls Tryz.prog 93 #[.string sep] w' fun e w'' => e = .returned (.bool true) ∧ Below w'.heap.size w' w''))
    (Q0 : Aside0 (KidC w q0 (.int .i64 y0) (.int .i64 y1) (.int .i64 y2) (.string y3) (.slice yA yn yc))) (e0 : ad.add (0 * 5) = q0) (H0 : Aside0 (∀ w', Below w.heap.size w w' → Calls Tryz.prog 40 #[.slice A0 n0 c0, .agg #[.int .i64 y0, .int .i64 y1, .int .i64 y2, .string y3, .slice yA yn yc]] w' fun e w'' => e = .returned (.agg #[.int .i64 3, .int .i64 u, .bool N, .bool true]) ∧ Below w'.heap.size w' w'')) :
    Calls Tryz.prog 60 #[.slice A0 n0 c0, .agg #[.int .i64 4, .int .i64 0, .int .i64 0, .string sep, .slice (some ad) 1 c]] w fun e w' => e = .returned (.agg #[.int .i64 3, .int .i64 0, .bool N, .bool true]) ∧ Below w.heap.size w w' := by
  have hu := Tryz.underlying85
  have hu2 := Tryz.underlying29
  have hu3 := Tryz.underlying49
  have HX := Aside0.mk (Bxs.start w)
  go_enter Tryz.func60, Tryz.ntmps60
  go_upto_region 0 with (fail)
  refine Reg.det [(some 3, Reg.Dv.box 3 29 (fun _ => #[.int .i64 4, .int .i64 0, .int .i64 0, .string sep, .slice (some ad) 1 c]) [] true), (some 4, Reg.Dv.box 4 85 (fun _ => #[.int .i64 0, .int .i64 0, .bool false, .bool false]) [] true)] [] 93 rfl (by kernel_rfl) (by kernel_rfl) ?s46 ?_
  case s46 =>
    intro iq oq pq hiq hoq hpq ρ ev W S hE hO ec ef hB hft hΦ
    have e1 : ev (.tmp 1) = .agg #[.int .i64 4, .int .i64 0, .int .i64 0, .string sep, .slice (some ad) 1 c] := hO 1 rfl
    simp only [Reg.SV] at hE
    obtain ⟨e3, e4, _⟩ := hE
    rcases Reg.lt2 hiq with rfl | rfl
    all_goals (cases hoq; cases hpq)
    rotate_left 1
    · refine Reg.D.box hB ?_
      go_simp
      try rfl
    rotate_right 1
    · refine Reg.D.box hB ?_
      go_simp
      try rfl
  intro ρ W0 S hB hft hap hΦ
  simp only [Reg.SV, Reg.SF, Nat.reduceAdd]
  obtain ⟨g3, e3, s3, hg3, _, b3⟩ := hΦ 0 _ rfl rfl
  replace e3 : ρ 3 = .pointer (some ⟨g3, 0, none⟩) := e3
  obtain ⟨g4, e4, s4, hg4, _, b4⟩ := hΦ 1 _ rfl rfl
  replace e4 : ρ 4 = .pointer (some ⟨g4, 0, none⟩) := e4
  try simp only [e3, e4]
  replace b3 : W0.heap[g3]? = some (.cells #[.int .i64 4, .int .i64 0, .int .i64 0, .string sep, .slice (some ad) 1 c] 29 (0, 0)) := b3
  replace b4 : W0.heap[g4]? = some (.cells #[.int .i64 0, .int .i64 0, .bool false, .bool false] 85 (0, 0)) := b4
  have HX := Aside0.mk (HX.out.join ((Bxs.one hB hg3 b3).more hg4 b4 (by intro p hp; simp only [List.mem_cons, List.mem_singleton, List.not_mem_nil, or_false] at hp; rcases hp with rfl <;> (intro e; dsimp only at e; subst e; first | exact absurd (hap _ _ _ s3 s4) (by decide)))))
  clear hΦ hft hap 
  go_upto_region 1 with (fail)
  try simp only [Reg.SF]
  refine Reg.det [(some 5, Reg.Dv.c (.int .i64 1))] [] 93 rfl (by kernel_rfl) (by kernel_rfl) ?s47 ?_
  case s47 =>
    intro iq oq pq hiq hoq hpq ρ ev W S hE hO ec ef hB hft hΦ
    simp only [Reg.SV] at hE
    obtain ⟨e5, _⟩ := hE
    obtain rfl : iq = 0 := by have : iq < 1 := hiq; omega
    cases hoq; cases hpq
    all_goals (first | exact Reg.D.mv hB | skip)
    all_goals (refine Reg.D.cv hB ?_; go_simp; try (first | done | rfl | (simp; done) | (intro h; omega)))
  intro ρ W1 S hB hft hap hΦ
  simp only [Reg.SV, Reg.SF, Nat.reduceAdd]
  have HX := Aside0.mk (HX.out.call hB)
  clear hΦ hft hap 
  go_upto_region 2 with (fail)
  try simp only [Reg.SF]
  have mg3_0 : _ = some (.int .i64 4 : Value) := HX.out.cell 1 0 rfl rfl
  refine Reg.det [(some 8, Reg.Dv.c (.pointer (some ⟨g3, 0, none⟩))), (some 9, Reg.Dv.c (.int .i64 4)), (some 10, Reg.Dv.c (.bool false))] [] 93 rfl (by kernel_rfl) (by kernel_rfl) ?s48 ?_
  case s48 =>
    intro iq oq pq hiq hoq hpq ρ ev W S hE hO ec ef hB hft hΦ
    have e3 : ev (.tmp 3) = .pointer (some ⟨g3, 0, none⟩) := hO 3 rfl
    have mg3_0' := pw_cell_below hB mg3_0
    simp only [Reg.SV] at hE
    obtain ⟨e8, e9, e10, _⟩ := hE
    rcases Reg.lt3 hiq with rfl | rfl | rfl
    all_goals (cases hoq; cases hpq)
    all_goals (refine Reg.D.cv hB ?_; go_simp; try (first | done | rfl | (simp; done) | (intro h; omega)))
  intro ρ W2 S hB hft hap hΦ
  simp only [Reg.SV, Reg.SF, Nat.reduceAdd]
  have HX := Aside0.mk (HX.out.call hB)
  clear hΦ hft hap mg3_0
  go_upto_region 4 with (fail)
  try simp only [Reg.SF]
  have mg3_1 : _ = some (.int .i64 0 : Value) := HX.out.cell 1 1 rfl rfl
  have mg3_2 : _ = some (.int .i64 0 : Value) := HX.out.cell 1 2 rfl rfl
  have mg3_3 : _ = some (.string sep : Value) := HX.out.cell 1 3 rfl rfl
  have mg3_4 : _ = some (.slice (some ad) 1 c : Value) := HX.out.cell 1 4 rfl rfl
  refine Reg.det [(some 11, Reg.Dv.c (.pointer (some ⟨g3, 1, none⟩))), (some 12, Reg.Dv.c (.int .i64 0)), (some 13, Reg.Dv.c (.bool false)), (some 14, Reg.Dv.c (.bool false)), (some 15, Reg.Dv.c (.pointer (some ⟨g3, 2, none⟩))), (some 16, Reg.Dv.c (.int .i64 0)), (some 17, Reg.Dv.c (.bool false)), (some 18, Reg.Dv.c (.bool false)), (some 19, Reg.Dv.c (.bool false)), (some 20, Reg.Dv.c (.pointer (some ⟨g3, 3, none⟩))), (some 21, Reg.Dv.c (.string sep)), (some 22, Reg.Dv.c (.bool true)), (some 23, Reg.Dv.c (.bool false)), (some 24, Reg.Dv.c (.bool false)), (some 25, Reg.Dv.c (.bool false)), (some 26, Reg.Dv.c (.pointer (some ⟨g3, 4, none⟩))), (some 27, Reg.Dv.c (.slice (some ad) 1 c)), (some 28, Reg.Dv.c (.int .i64 1)), (some 29, Reg.Dv.c (.int .i64 1)), (some 30, Reg.Dv.c (.bool false)), (some 31, Reg.Dv.c (.bool false))] [] 93 rfl (by kernel_rfl) (by kernel_rfl) ?s49 ?_
  case s49 =>
    intro iq oq pq hiq hoq hpq ρ ev W S hE hO ec ef hB hft hΦ
    have e3 : ev (.tmp 3) = .pointer (some ⟨g3, 0, none⟩) := hO 3 rfl
    have e5 : ev (.tmp 5) = .int .i64 1 := hO 5 rfl
    have mg3_1' := pw_cell_below hB mg3_1
    have mg3_2' := pw_cell_below hB mg3_2
    have mg3_3' := pw_cell_below hB mg3_3
    have mg3_4' := pw_cell_below hB mg3_4
    simp only [Reg.SV] at hE
    obtain ⟨e11, e12, e13, e14, e15, e16, e17, e18, e19, e20, e21, e22, e23, e24, e25, e26, e27, e28, e29, e30, e31, _⟩ := hE
    rcases Reg.lt21 hiq with rfl | rfl | rfl | rfl | rfl | rfl | rfl | rfl | rfl | rfl | rfl | rfl | rfl | rfl | rfl | rfl | rfl | rfl | rfl | rfl | rfl
    all_goals (cases hoq; cases hpq)
    rotate_left 11
    · refine Reg.D.cc (g := 93) (args := #[.string sep]) hB (by go_simp; try rfl) ?_
      exact HS.out W (below_step HX.out.below hB)
    rotate_right 11
    all_goals (first | exact Reg.D.mv hB | skip)
    all_goals (refine Reg.D.cv hB ?_; go_simp; try (first | done | rfl | (simp; done) | (intro h; omega)))
  intro ρ W4 S hB hft hap hΦ
  simp only [Reg.SV, Reg.SF, Nat.reduceAdd]
  have HX := Aside0.mk (HX.out.call hB)
  clear hΦ hft hap mg3_1 mg3_2 mg3_3 mg3_4
  have m0_0 := pw_cell_below HX.out.below Q0.out.k0
  have m0_1 := pw_cell_below HX.out.below Q0.out.k1
  have m0_2 := pw_cell_below HX.out.below Q0.out.k2
  have m0_3 := pw_cell_below HX.out.below Q0.out.k3
  have m0_4 := pw_cell_below HX.out.below Q0.out.k4
  go_upto_region 6 with (fail)
  try simp only [Reg.SF]
  have mg3_4 : _ = some (.slice (some ad) 1 c : Value) := HX.out.cell 1 4 rfl rfl
  refine Reg.det [(some 33, Reg.Dv.c (.slice A0 n0 c0)), (some 34, Reg.Dv.c (.pointer (some ⟨g3, 4, none⟩))), (some 35, Reg.Dv.c (.slice (some ad) 1 c)), (some 36, Reg.Dv.c (.pointer (some q0))), (some 37, Reg.Dv.c (.agg #[.int .i64 y0, .int .i64 y1, .int .i64 y2, .string y3, .slice yA yn yc])), (some 38, Reg.Dv.c (.agg #[.int .i64 3, .int .i64 u, .bool N, .bool true])), (some 39, Reg.Dv.c (.slice A0 n0 c0)), (some 40, Reg.Dv.c (.pointer (some ⟨g3, 4, none⟩))), (some 41, Reg.Dv.c (.slice (some ad) 1 c)), (some 42, Reg.Dv.c (.int .i64 1)), (some 43, Reg.Dv.c (.int .i64 0)), (some 44, Reg.Dv.c (.pointer (some q0))), (some 45, Reg.Dv.c (.agg #[.int .i64 y0, .int .i64 y1, .int .i64 y2, .string y3, .slice yA yn yc])), (some 46, Reg.Dv.c (.agg #[.int .i64 3, .int .i64 u, .bool N, .bool true])), (some 6, Reg.Dv.box 6 85 (fun _ => #[.int .i64 0, .int .i64 0, .bool false, .bool false]) [] true), (some 7, Reg.Dv.box 7 85 (fun _ => #[.int .i64 0, .int .i64 0, .bool false, .bool false]) [] true), (none, Reg.Dv.box 6 85 (fun _ => #[.int .i64 3, .int .i64 u, .bool N, .bool true]) [] false), (none, Reg.Dv.box 7 85 (fun _ => #[.int .i64 3, .int .i64 u, .bool N, .bool true]) [] false)] [(14, 16), (15, 17)] 93 rfl (by kernel_rfl) (by kernel_rfl) ?s50 ?_
  case s50 =>
    intro iq oq pq hiq hoq hpq ρ ev W S hE hO ec ef hB hft hΦ
    have e0 : ev (.tmp 0) = .slice A0 n0 c0 := hO 0 rfl
    have e3 : ev (.tmp 3) = .pointer (some ⟨g3, 0, none⟩) := hO 3 rfl
    have e5 : ev (.tmp 5) = .int .i64 1 := hO 5 rfl
    have mg3_4' := pw_cell_below hB mg3_4
    have m0_0' := pw_cell_below hB m0_0
    have m0_1' := pw_cell_below hB m0_1
    have m0_2' := pw_cell_below hB m0_2
    have m0_3' := pw_cell_below hB m0_3
    have m0_4' := pw_cell_below hB m0_4
    simp only [Reg.SV] at hE
    obtain ⟨e33, e34, e35, e36, e37, e38, e39, e40, e41, e42, e43, e44, e45, e46, e6, e7, _⟩ := hE
    rcases Reg.lt18 hiq with rfl | rfl | rfl | rfl | rfl | rfl | rfl | rfl | rfl | rfl | rfl | rfl | rfl | rfl | rfl | rfl | rfl | rfl
    all_goals (cases hoq; cases hpq)
    rotate_left 17
    · exact Reg.D.fill 15 85 (.tmp 7) (.tmp 46) hB e7 (by first | assumption | rfl | (simp [*]; done)) (hΦ 15 _ rfl rfl rfl) info85s (by first | rfl | (simp only [Reg.SV]; rfl))
    rotate_right 17
    rotate_left 16
    · exact Reg.D.fill 14 85 (.tmp 6) (.tmp 38) hB e6 (by first | assumption | rfl | (simp [*]; done)) (hΦ 14 _ rfl rfl rfl) info85s (by first | rfl | (simp only [Reg.SV]; rfl))
    rotate_right 16
    rotate_left 15
    · refine Reg.D.box hB ?_
      go_simp
      try rfl
    rotate_right 15
    rotate_left 14
    · refine Reg.D.box hB ?_
      go_simp
      try rfl
    rotate_right 14
    rotate_left 13
    · refine Reg.D.cc (g := 40) (args := #[.slice A0 n0 c0, .agg #[.int .i64 y0, .int .i64 y1, .int .i64 y2, .string y3, .slice yA yn yc]]) hB (by go_simp; try rfl) ?_
      exact H0.out W (below_step HX.out.below hB)
    rotate_right 13
    rotate_left 5
    · refine Reg.D.cc (g := 40) (args := #[.slice A0 n0 c0, .agg #[.int .i64 y0, .int .i64 y1, .int .i64 y2, .string y3, .slice yA yn yc]]) hB (by go_simp; try rfl) ?_
      exact H0.out W (below_step HX.out.below hB)
    rotate_right 5
    all_goals (first | exact Reg.D.mv hB | skip)
    all_goals (refine Reg.D.cv hB ?_; go_simp; try (first | done | rfl | (rw [← e0]; rfl) | (simp; done)))
  intro ρ W6 S hB hft hap hΦ
  simp only [Reg.SV, Reg.SF, Nat.reduceAdd]
  obtain ⟨g6, e6, s6, hg6, _, b6⟩ := hΦ 16 _ rfl rfl
  replace e6 : ρ 6 = .pointer (some ⟨g6, 0, none⟩) := e6
  obtain ⟨g7, e7, s7, hg7, _, b7⟩ := hΦ 17 _ rfl rfl
  replace e7 : ρ 7 = .pointer (some ⟨g7, 0, none⟩) := e7
  try simp only [e6, e7]
  replace b6 : W6.heap[g6]? = some (.cells #[.int .i64 3, .int .i64 u, .bool N, .bool true] 85 (0, 0)) := b6
  replace b7 : W6.heap[g7]? = some (.cells #[.int .i64 3, .int .i64 u, .bool N, .bool true] 85 (0, 0)) := b7
  have HX := Aside0.mk (HX.out.join ((Bxs.one hB hg6 b6).more hg7 b7 (by intro p hp; simp only [List.mem_cons, List.mem_singleton, List.not_mem_nil, or_false] at hp; rcases hp with rfl <;> (intro e; dsimp only at e; subst e; first | exact absurd (hap _ _ _ s6 s7) (by decide)))))
  clear hΦ hft hap mg3_4
  clear m0_0 m0_1 m0_2 m0_3 m0_4
  go_upto_region 7 with (fail)
  try simp only [Reg.SF]
  have mg6_3 : _ = some (.bool true : Value) := HX.out.cell 1 3 rfl rfl
  have mg7_3 : _ = some (.bool true : Value) := HX.out.cell 0 3 rfl rfl
  have mg6_0 : _ = some (.int .i64 3 : Value) := HX.out.cell 1 0 rfl rfl
  have mg7_0 : _ = some (.int .i64 3 : Value) := HX.out.cell 0 0 rfl rfl
  have mg3_0 : _ = some (.int .i64 4 : Value) := HX.out.cell 3 0 rfl rfl
  refine Reg.det [(some 47, Reg.Dv.c (.pointer (some ⟨g6, 3, none⟩))), (some 48, Reg.Dv.c (.bool true)), (some 49, Reg.Dv.c (.bool false)), (some 50, Reg.Dv.c (.bool false)), (some 51, Reg.Dv.c (.pointer (some ⟨g7, 3, none⟩))), (some 52, Reg.Dv.c (.bool true)), (some 53, Reg.Dv.c (.bool false)), (some 54, Reg.Dv.c (.bool false)), (some 55, Reg.Dv.c (.bool false)), (some 56, Reg.Dv.c (.pointer (some ⟨g6, 0, none⟩))), (some 57, Reg.Dv.c (.pointer (some ⟨g6, 0, none⟩))), (some 58, Reg.Dv.c (.int .i64 3)), (some 59, Reg.Dv.c (.bool false)), (some 60, Reg.Dv.c (.bool false)), (some 61, Reg.Dv.c (.bool false)), (some 62, Reg.Dv.c (.pointer (some ⟨g7, 0, none⟩))), (some 63, Reg.Dv.c (.pointer (some ⟨g7, 0, none⟩))), (some 64, Reg.Dv.c (.int .i64 3)), (some 65, Reg.Dv.c (.bool false)), (some 66, Reg.Dv.c (.bool false)), (some 67, Reg.Dv.c (.bool false)), (some 68, Reg.Dv.c (.pointer (some ⟨g3, 0, none⟩))), (some 69, Reg.Dv.c (.int .i64 4)), (some 70, Reg.Dv.c (.bool false)), (some 71, Reg.Dv.c (.bool false)), (some 72, Reg.Dv.c undef), (some 73, Reg.Dv.c undef), (some 74, Reg.Dv.c undef), (some 75, Reg.Dv.c (.bool false)), (some 76, Reg.Dv.c (.bool false))] [] 93 rfl (by kernel_rfl) (by kernel_rfl) ?s51 ?_
  case s51 =>
    intro iq oq pq hiq hoq hpq ρ ev W S hE hO ec ef hB hft hΦ
    have e3 : ev (.tmp 3) = .pointer (some ⟨g3, 0, none⟩) := hO 3 rfl
    have e6 : ev (.tmp 6) = .pointer (some ⟨g6, 0, none⟩) := hO 6 rfl
    have e7 : ev (.tmp 7) = .pointer (some ⟨g7, 0, none⟩) := hO 7 rfl
    have mg6_3' := pw_cell_below hB mg6_3
    have mg7_3' := pw_cell_below hB mg7_3
    have mg6_0' := pw_cell_below hB mg6_0
    have mg7_0' := pw_cell_below hB mg7_0
    have mg3_0' := pw_cell_below hB mg3_0
    simp only [Reg.SV] at hE
    obtain ⟨e47, e48, e49, e50, e51, e52, e53, e54, e55, e56, e57, e58, e59, e60, e61, e62, e63, e64, e65, e66, e67, e68, e69, e70, e71, e72, e73, e74, e75, e76, _⟩ := hE
    rcases Reg.lt30 hiq with rfl | rfl | rfl | rfl | rfl | rfl | rfl | rfl | rfl | rfl | rfl | rfl | rfl | rfl | rfl | rfl | rfl | rfl | rfl | rfl | rfl | rfl | rfl | rfl | rfl | rfl | rfl | rfl | rfl | rfl
    all_goals (cases hoq; cases hpq)
    all_goals (first | exact Reg.D.sk hB | skip)
    all_goals (first | exact Reg.D.mv hB | skip)
    all_goals (refine Reg.D.cv hB ?_; go_simp; try (first | done | rfl | (simp; done) | (intro h; omega)))
  intro ρ W7 S hB hft hap hΦ
  simp only [Reg.SV, Reg.SF, Nat.reduceAdd]
  have HX := Aside0.mk (HX.out.call hB)
  clear hΦ hft hap mg6_3 mg7_3 mg6_0 mg7_0 mg3_0
  go_upto_region 9 with (fail)
  try simp only [Reg.SF]
  have mg3_0 : _ = some (.int .i64 4 : Value) := HX.out.cell 3 0 rfl rfl
  have mg6_2 : _ = some (.bool N : Value) := HX.out.cell 1 2 rfl rfl
  refine Reg.det [(some 78, Reg.Dv.c (.pointer (some ⟨g3, 0, none⟩))), (some 79, Reg.Dv.c (.int .i64 4)), (some 80, Reg.Dv.c (.bool false)), (some 81, Reg.Dv.c (.bool false)), (some 82, Reg.Dv.c (.pointer (some ⟨g3, 0, none⟩))), (some 83, Reg.Dv.c (.int .i64 4)), (some 84, Reg.Dv.c (.bool true)), (some 85, Reg.Dv.c (.bool true)), (some 86, Reg.Dv.c (.pointer (some ⟨g6, 0, none⟩))), (some 87, Reg.Dv.c (.pointer (some ⟨g6, 2, none⟩))), (some 88, Reg.Dv.c (.bool N)), (some 89, Reg.Dv.c (.bool N)), (some 90, Reg.Dv.c (.bool N)), (some 91, Reg.Dv.c (.agg #[.int .i64 3, .int .i64 0, .bool N])), (some 92, Reg.Dv.c (.agg #[.int .i64 3, .int .i64 0, .bool N, .bool true]))] [] 93 rfl (by kernel_rfl) (by kernel_rfl) ?s52 ?_
  case s52 =>
    intro iq oq pq hiq hoq hpq ρ ev W S hE hO ec ef hB hft hΦ
    have e3 : ev (.tmp 3) = .pointer (some ⟨g3, 0, none⟩) := hO 3 rfl
    have e6 : ev (.tmp 6) = .pointer (some ⟨g6, 0, none⟩) := hO 6 rfl
    have mg3_0' := pw_cell_below hB mg3_0
    have mg6_2' := pw_cell_below hB mg6_2
    simp only [Reg.SV] at hE
    obtain ⟨e78, e79, e80, e81, e82, e83, e84, e85, e86, e87, e88, e89, e90, e91, e92, _⟩ := hE
    rcases Reg.lt15 hiq with rfl | rfl | rfl | rfl | rfl | rfl | rfl | rfl | rfl | rfl | rfl | rfl | rfl | rfl | rfl
    all_goals (cases hoq; cases hpq)
    all_goals (first | exact Reg.D.mv hB | skip)
    all_goals (refine Reg.D.cv hB ?_; go_simp; try (first | done | rfl | (simp; done) | (intro h; omega)))
  intro ρ W9 S hB hft hap hΦ
  simp only [Reg.SV, Reg.SF, Nat.reduceAdd]
  have HX := Aside0.mk (HX.out.call hB)
  clear hΦ hft hap mg3_0 mg6_2
  refine bx_put (w := w) rfl 85 (.tmp 4) (.tmp 92) rfl rfl (L1 := [_, _]) (cells := #[.int .i64 3, .int .i64 0, .bool N, .bool true]) HX.out rfl rfl (by kernel_rfl) rfl rfl ?_
  intro Wp hx
  have HX := Aside0.mk hx
  clear hx
  go_wp2_with fail
  refine bodyPost_ret (results_cell_row rfl _ _ g4 85 #[.int .i64 3, .int .i64 0, .bool N, .bool true] (0, 0) _ rfl (HX.out.at 2 rfl) hu rfl (by kernel_rfl)) rfl ?_
  exact ⟨rfl, HX.out.below⟩
set_option maxHeartbeats 16000000 in
set_option maxRecDepth 100000 in
theorem partsR5 (sep : ByteArray) (ad q0 q1 : Addr) (A0 : Option Addr) (c n0 c0 : Nat) (u v : Int) (N M : Bool) (y0 y1 y2 : Int) (y3 : ByteArray) (yA : Option Addr) (yn yc : Nat) (w : World)
    (HS : Aside0 (∀ w', Below w.heap.size w w' → Calls Tryz.prog 93 #[.string sep] w' fun e w'' => e = .returned (.bool true) ∧ Below w'.heap.size w' w''))
    (Q0 : Aside0 (KidC w q0 (.int .i64 y0) (.int .i64 y1) (.int .i64 y2) (.string y3) (.slice yA yn yc))) (e0 : ad.add (0 * 5) = q0) (H0 : Aside0 (∀ w', Below w.heap.size w w' → Calls Tryz.prog 40 #[.slice A0 n0 c0, .agg #[.int .i64 y0, .int .i64 y1, .int .i64 y2, .string y3, .slice yA yn yc]] w' fun e w'' => e = .returned (.agg #[.int .i64 3, .int .i64 u, .bool N, .bool true]) ∧ Below w'.heap.size w' w'')) :
    Calls Tryz.prog 60 #[.slice A0 n0 c0, .agg #[.int .i64 5, .int .i64 0, .int .i64 0, .string sep, .slice (some ad) 1 c]] w fun e w' => e = .returned (.agg #[.int .i64 3, .int .i64 0, .bool true, .bool true]) ∧ Below w.heap.size w w' := by
  have hu := Tryz.underlying85
  have hu2 := Tryz.underlying29
  have hu3 := Tryz.underlying49
  have HX := Aside0.mk (Bxs.start w)
  go_enter Tryz.func60, Tryz.ntmps60
  go_upto_region 0 with (fail)
  refine Reg.det [(some 3, Reg.Dv.box 3 29 (fun _ => #[.int .i64 5, .int .i64 0, .int .i64 0, .string sep, .slice (some ad) 1 c]) [] true), (some 4, Reg.Dv.box 4 85 (fun _ => #[.int .i64 0, .int .i64 0, .bool false, .bool false]) [] true)] [] 93 rfl (by kernel_rfl) (by kernel_rfl) ?s53 ?_
  case s53 =>
    intro iq oq pq hiq hoq hpq ρ ev W S hE hO ec ef hB hft hΦ
    have e1 : ev (.tmp 1) = .agg #[.int .i64 5, .int .i64 0, .int .i64 0, .string sep, .slice (some ad) 1 c] := hO 1 rfl
    simp only [Reg.SV] at hE
    obtain ⟨e3, e4, _⟩ := hE
    rcases Reg.lt2 hiq with rfl | rfl
    all_goals (cases hoq; cases hpq)
    rotate_left 1
    · refine Reg.D.box hB ?_
      go_simp
      try rfl
    rotate_right 1
    · refine Reg.D.box hB ?_
      go_simp
      try rfl
  intro ρ W0 S hB hft hap hΦ
  simp only [Reg.SV, Reg.SF, Nat.reduceAdd]
  obtain ⟨g3, e3, s3, hg3, _, b3⟩ := hΦ 0 _ rfl rfl
  replace e3 : ρ 3 = .pointer (some ⟨g3, 0, none⟩) := e3
  obtain ⟨g4, e4, s4, hg4, _, b4⟩ := hΦ 1 _ rfl rfl
  replace e4 : ρ 4 = .pointer (some ⟨g4, 0, none⟩) := e4
  try simp only [e3, e4]
  replace b3 : W0.heap[g3]? = some (.cells #[.int .i64 5, .int .i64 0, .int .i64 0, .string sep, .slice (some ad) 1 c] 29 (0, 0)) := b3
  replace b4 : W0.heap[g4]? = some (.cells #[.int .i64 0, .int .i64 0, .bool false, .bool false] 85 (0, 0)) := b4
  have HX := Aside0.mk (HX.out.join ((Bxs.one hB hg3 b3).more hg4 b4 (by intro p hp; simp only [List.mem_cons, List.mem_singleton, List.not_mem_nil, or_false] at hp; rcases hp with rfl <;> (intro e; dsimp only at e; subst e; first | exact absurd (hap _ _ _ s3 s4) (by decide)))))
  clear hΦ hft hap 
  go_upto_region 1 with (fail)
  try simp only [Reg.SF]
  refine Reg.det [(some 5, Reg.Dv.c (.int .i64 1))] [] 93 rfl (by kernel_rfl) (by kernel_rfl) ?s54 ?_
  case s54 =>
    intro iq oq pq hiq hoq hpq ρ ev W S hE hO ec ef hB hft hΦ
    simp only [Reg.SV] at hE
    obtain ⟨e5, _⟩ := hE
    obtain rfl : iq = 0 := by have : iq < 1 := hiq; omega
    cases hoq; cases hpq
    all_goals (first | exact Reg.D.mv hB | skip)
    all_goals (refine Reg.D.cv hB ?_; go_simp; try (first | done | rfl | (simp; done) | (intro h; omega)))
  intro ρ W1 S hB hft hap hΦ
  simp only [Reg.SV, Reg.SF, Nat.reduceAdd]
  have HX := Aside0.mk (HX.out.call hB)
  clear hΦ hft hap 
  go_upto_region 2 with (fail)
  try simp only [Reg.SF]
  have mg3_0 : _ = some (.int .i64 5 : Value) := HX.out.cell 1 0 rfl rfl
  refine Reg.det [(some 8, Reg.Dv.c (.pointer (some ⟨g3, 0, none⟩))), (some 9, Reg.Dv.c (.int .i64 5)), (some 10, Reg.Dv.c (.bool false))] [] 93 rfl (by kernel_rfl) (by kernel_rfl) ?s55 ?_
  case s55 =>
    intro iq oq pq hiq hoq hpq ρ ev W S hE hO ec ef hB hft hΦ
    have e3 : ev (.tmp 3) = .pointer (some ⟨g3, 0, none⟩) := hO 3 rfl
    have mg3_0' := pw_cell_below hB mg3_0
    simp only [Reg.SV] at hE
    obtain ⟨e8, e9, e10, _⟩ := hE
    rcases Reg.lt3 hiq with rfl | rfl | rfl
    all_goals (cases hoq; cases hpq)
    all_goals (refine Reg.D.cv hB ?_; go_simp; try (first | done | rfl | (simp; done) | (intro h; omega)))
  intro ρ W2 S hB hft hap hΦ
  simp only [Reg.SV, Reg.SF, Nat.reduceAdd]
  have HX := Aside0.mk (HX.out.call hB)
  clear hΦ hft hap mg3_0
  go_upto_region 4 with (fail)
  try simp only [Reg.SF]
  have mg3_1 : _ = some (.int .i64 0 : Value) := HX.out.cell 1 1 rfl rfl
  have mg3_2 : _ = some (.int .i64 0 : Value) := HX.out.cell 1 2 rfl rfl
  have mg3_3 : _ = some (.string sep : Value) := HX.out.cell 1 3 rfl rfl
  have mg3_4 : _ = some (.slice (some ad) 1 c : Value) := HX.out.cell 1 4 rfl rfl
  refine Reg.det [(some 11, Reg.Dv.c (.pointer (some ⟨g3, 1, none⟩))), (some 12, Reg.Dv.c (.int .i64 0)), (some 13, Reg.Dv.c (.bool false)), (some 14, Reg.Dv.c (.bool false)), (some 15, Reg.Dv.c (.pointer (some ⟨g3, 2, none⟩))), (some 16, Reg.Dv.c (.int .i64 0)), (some 17, Reg.Dv.c (.bool false)), (some 18, Reg.Dv.c (.bool false)), (some 19, Reg.Dv.c (.bool false)), (some 20, Reg.Dv.c (.pointer (some ⟨g3, 3, none⟩))), (some 21, Reg.Dv.c (.string sep)), (some 22, Reg.Dv.c (.bool true)), (some 23, Reg.Dv.c (.bool false)), (some 24, Reg.Dv.c (.bool false)), (some 25, Reg.Dv.c (.bool false)), (some 26, Reg.Dv.c (.pointer (some ⟨g3, 4, none⟩))), (some 27, Reg.Dv.c (.slice (some ad) 1 c)), (some 28, Reg.Dv.c (.int .i64 1)), (some 29, Reg.Dv.c (.int .i64 1)), (some 30, Reg.Dv.c (.bool false)), (some 31, Reg.Dv.c (.bool false))] [] 93 rfl (by kernel_rfl) (by kernel_rfl) ?s56 ?_
  case s56 =>
    intro iq oq pq hiq hoq hpq ρ ev W S hE hO ec ef hB hft hΦ
    have e3 : ev (.tmp 3) = .pointer (some ⟨g3, 0, none⟩) := hO 3 rfl
    have e5 : ev (.tmp 5) = .int .i64 1 := hO 5 rfl
    have mg3_1' := pw_cell_below hB mg3_1
    have mg3_2' := pw_cell_below hB mg3_2
    have mg3_3' := pw_cell_below hB mg3_3
    have mg3_4' := pw_cell_below hB mg3_4
    simp only [Reg.SV] at hE
    obtain ⟨e11, e12, e13, e14, e15, e16, e17, e18, e19, e20, e21, e22, e23, e24, e25, e26, e27, e28, e29, e30, e31, _⟩ := hE
    rcases Reg.lt21 hiq with rfl | rfl | rfl | rfl | rfl | rfl | rfl | rfl | rfl | rfl | rfl | rfl | rfl | rfl | rfl | rfl | rfl | rfl | rfl | rfl | rfl
    all_goals (cases hoq; cases hpq)
    rotate_left 11
    · refine Reg.D.cc (g := 93) (args := #[.string sep]) hB (by go_simp; try rfl) ?_
      exact HS.out W (below_step HX.out.below hB)
    rotate_right 11
    all_goals (first | exact Reg.D.mv hB | skip)
    all_goals (refine Reg.D.cv hB ?_; go_simp; try (first | done | rfl | (simp; done) | (intro h; omega)))
  intro ρ W4 S hB hft hap hΦ
  simp only [Reg.SV, Reg.SF, Nat.reduceAdd]
  have HX := Aside0.mk (HX.out.call hB)
  clear hΦ hft hap mg3_1 mg3_2 mg3_3 mg3_4
  have m0_0 := pw_cell_below HX.out.below Q0.out.k0
  have m0_1 := pw_cell_below HX.out.below Q0.out.k1
  have m0_2 := pw_cell_below HX.out.below Q0.out.k2
  have m0_3 := pw_cell_below HX.out.below Q0.out.k3
  have m0_4 := pw_cell_below HX.out.below Q0.out.k4
  go_upto_region 6 with (fail)
  try simp only [Reg.SF]
  have mg3_4 : _ = some (.slice (some ad) 1 c : Value) := HX.out.cell 1 4 rfl rfl
  refine Reg.det [(some 33, Reg.Dv.c (.slice A0 n0 c0)), (some 34, Reg.Dv.c (.pointer (some ⟨g3, 4, none⟩))), (some 35, Reg.Dv.c (.slice (some ad) 1 c)), (some 36, Reg.Dv.c (.pointer (some q0))), (some 37, Reg.Dv.c (.agg #[.int .i64 y0, .int .i64 y1, .int .i64 y2, .string y3, .slice yA yn yc])), (some 38, Reg.Dv.c (.agg #[.int .i64 3, .int .i64 u, .bool N, .bool true])), (some 39, Reg.Dv.c (.slice A0 n0 c0)), (some 40, Reg.Dv.c (.pointer (some ⟨g3, 4, none⟩))), (some 41, Reg.Dv.c (.slice (some ad) 1 c)), (some 42, Reg.Dv.c (.int .i64 1)), (some 43, Reg.Dv.c (.int .i64 0)), (some 44, Reg.Dv.c (.pointer (some q0))), (some 45, Reg.Dv.c (.agg #[.int .i64 y0, .int .i64 y1, .int .i64 y2, .string y3, .slice yA yn yc])), (some 46, Reg.Dv.c (.agg #[.int .i64 3, .int .i64 u, .bool N, .bool true])), (some 6, Reg.Dv.box 6 85 (fun _ => #[.int .i64 0, .int .i64 0, .bool false, .bool false]) [] true), (some 7, Reg.Dv.box 7 85 (fun _ => #[.int .i64 0, .int .i64 0, .bool false, .bool false]) [] true), (none, Reg.Dv.box 6 85 (fun _ => #[.int .i64 3, .int .i64 u, .bool N, .bool true]) [] false), (none, Reg.Dv.box 7 85 (fun _ => #[.int .i64 3, .int .i64 u, .bool N, .bool true]) [] false)] [(14, 16), (15, 17)] 93 rfl (by kernel_rfl) (by kernel_rfl) ?s57 ?_
  case s57 =>
    intro iq oq pq hiq hoq hpq ρ ev W S hE hO ec ef hB hft hΦ
    have e0 : ev (.tmp 0) = .slice A0 n0 c0 := hO 0 rfl
    have e3 : ev (.tmp 3) = .pointer (some ⟨g3, 0, none⟩) := hO 3 rfl
    have e5 : ev (.tmp 5) = .int .i64 1 := hO 5 rfl
    have mg3_4' := pw_cell_below hB mg3_4
    have m0_0' := pw_cell_below hB m0_0
    have m0_1' := pw_cell_below hB m0_1
    have m0_2' := pw_cell_below hB m0_2
    have m0_3' := pw_cell_below hB m0_3
    have m0_4' := pw_cell_below hB m0_4
    simp only [Reg.SV] at hE
    obtain ⟨e33, e34, e35, e36, e37, e38, e39, e40, e41, e42, e43, e44, e45, e46, e6, e7, _⟩ := hE
    rcases Reg.lt18 hiq with rfl | rfl | rfl | rfl | rfl | rfl | rfl | rfl | rfl | rfl | rfl | rfl | rfl | rfl | rfl | rfl | rfl | rfl
    all_goals (cases hoq; cases hpq)
    rotate_left 17
    · exact Reg.D.fill 15 85 (.tmp 7) (.tmp 46) hB e7 (by first | assumption | rfl | (simp [*]; done)) (hΦ 15 _ rfl rfl rfl) info85s (by first | rfl | (simp only [Reg.SV]; rfl))
    rotate_right 17
    rotate_left 16
    · exact Reg.D.fill 14 85 (.tmp 6) (.tmp 38) hB e6 (by first | assumption | rfl | (simp [*]; done)) (hΦ 14 _ rfl rfl rfl) info85s (by first | rfl | (simp only [Reg.SV]; rfl))
    rotate_right 16
    rotate_left 15
    · refine Reg.D.box hB ?_
      go_simp
      try rfl
    rotate_right 15
    rotate_left 14
    · refine Reg.D.box hB ?_
      go_simp
      try rfl
    rotate_right 14
    rotate_left 13
    · refine Reg.D.cc (g := 40) (args := #[.slice A0 n0 c0, .agg #[.int .i64 y0, .int .i64 y1, .int .i64 y2, .string y3, .slice yA yn yc]]) hB (by go_simp; try rfl) ?_
      exact H0.out W (below_step HX.out.below hB)
    rotate_right 13
    rotate_left 5
    · refine Reg.D.cc (g := 40) (args := #[.slice A0 n0 c0, .agg #[.int .i64 y0, .int .i64 y1, .int .i64 y2, .string y3, .slice yA yn yc]]) hB (by go_simp; try rfl) ?_
      exact H0.out W (below_step HX.out.below hB)
    rotate_right 5
    all_goals (first | exact Reg.D.mv hB | skip)
    all_goals (refine Reg.D.cv hB ?_; go_simp; try (first | done | rfl | (rw [← e0]; rfl) | (simp; done)))
  intro ρ W6 S hB hft hap hΦ
  simp only [Reg.SV, Reg.SF, Nat.reduceAdd]
  obtain ⟨g6, e6, s6, hg6, _, b6⟩ := hΦ 16 _ rfl rfl
  replace e6 : ρ 6 = .pointer (some ⟨g6, 0, none⟩) := e6
  obtain ⟨g7, e7, s7, hg7, _, b7⟩ := hΦ 17 _ rfl rfl
  replace e7 : ρ 7 = .pointer (some ⟨g7, 0, none⟩) := e7
  try simp only [e6, e7]
  replace b6 : W6.heap[g6]? = some (.cells #[.int .i64 3, .int .i64 u, .bool N, .bool true] 85 (0, 0)) := b6
  replace b7 : W6.heap[g7]? = some (.cells #[.int .i64 3, .int .i64 u, .bool N, .bool true] 85 (0, 0)) := b7
  have HX := Aside0.mk (HX.out.join ((Bxs.one hB hg6 b6).more hg7 b7 (by intro p hp; simp only [List.mem_cons, List.mem_singleton, List.not_mem_nil, or_false] at hp; rcases hp with rfl <;> (intro e; dsimp only at e; subst e; first | exact absurd (hap _ _ _ s6 s7) (by decide)))))
  clear hΦ hft hap mg3_4
  clear m0_0 m0_1 m0_2 m0_3 m0_4
  go_upto_region 7 with (fail)
  try simp only [Reg.SF]
  have mg6_3 : _ = some (.bool true : Value) := HX.out.cell 1 3 rfl rfl
  have mg7_3 : _ = some (.bool true : Value) := HX.out.cell 0 3 rfl rfl
  have mg6_0 : _ = some (.int .i64 3 : Value) := HX.out.cell 1 0 rfl rfl
  have mg7_0 : _ = some (.int .i64 3 : Value) := HX.out.cell 0 0 rfl rfl
  have mg3_0 : _ = some (.int .i64 5 : Value) := HX.out.cell 3 0 rfl rfl
  refine Reg.det [(some 47, Reg.Dv.c (.pointer (some ⟨g6, 3, none⟩))), (some 48, Reg.Dv.c (.bool true)), (some 49, Reg.Dv.c (.bool false)), (some 50, Reg.Dv.c (.bool false)), (some 51, Reg.Dv.c (.pointer (some ⟨g7, 3, none⟩))), (some 52, Reg.Dv.c (.bool true)), (some 53, Reg.Dv.c (.bool false)), (some 54, Reg.Dv.c (.bool false)), (some 55, Reg.Dv.c (.bool false)), (some 56, Reg.Dv.c (.pointer (some ⟨g6, 0, none⟩))), (some 57, Reg.Dv.c (.pointer (some ⟨g6, 0, none⟩))), (some 58, Reg.Dv.c (.int .i64 3)), (some 59, Reg.Dv.c (.bool false)), (some 60, Reg.Dv.c (.bool false)), (some 61, Reg.Dv.c (.bool false)), (some 62, Reg.Dv.c (.pointer (some ⟨g7, 0, none⟩))), (some 63, Reg.Dv.c (.pointer (some ⟨g7, 0, none⟩))), (some 64, Reg.Dv.c (.int .i64 3)), (some 65, Reg.Dv.c (.bool false)), (some 66, Reg.Dv.c (.bool false)), (some 67, Reg.Dv.c (.bool false)), (some 68, Reg.Dv.c (.pointer (some ⟨g3, 0, none⟩))), (some 69, Reg.Dv.c (.int .i64 5)), (some 70, Reg.Dv.c (.bool false)), (some 71, Reg.Dv.c (.bool false)), (some 72, Reg.Dv.c undef), (some 73, Reg.Dv.c undef), (some 74, Reg.Dv.c undef), (some 75, Reg.Dv.c (.bool false)), (some 76, Reg.Dv.c (.bool false))] [] 93 rfl (by kernel_rfl) (by kernel_rfl) ?s58 ?_
  case s58 =>
    intro iq oq pq hiq hoq hpq ρ ev W S hE hO ec ef hB hft hΦ
    have e3 : ev (.tmp 3) = .pointer (some ⟨g3, 0, none⟩) := hO 3 rfl
    have e6 : ev (.tmp 6) = .pointer (some ⟨g6, 0, none⟩) := hO 6 rfl
    have e7 : ev (.tmp 7) = .pointer (some ⟨g7, 0, none⟩) := hO 7 rfl
    have mg6_3' := pw_cell_below hB mg6_3
    have mg7_3' := pw_cell_below hB mg7_3
    have mg6_0' := pw_cell_below hB mg6_0
    have mg7_0' := pw_cell_below hB mg7_0
    have mg3_0' := pw_cell_below hB mg3_0
    simp only [Reg.SV] at hE
    obtain ⟨e47, e48, e49, e50, e51, e52, e53, e54, e55, e56, e57, e58, e59, e60, e61, e62, e63, e64, e65, e66, e67, e68, e69, e70, e71, e72, e73, e74, e75, e76, _⟩ := hE
    rcases Reg.lt30 hiq with rfl | rfl | rfl | rfl | rfl | rfl | rfl | rfl | rfl | rfl | rfl | rfl | rfl | rfl | rfl | rfl | rfl | rfl | rfl | rfl | rfl | rfl | rfl | rfl | rfl | rfl | rfl | rfl | rfl | rfl
    all_goals (cases hoq; cases hpq)
    all_goals (first | exact Reg.D.sk hB | skip)
    all_goals (first | exact Reg.D.mv hB | skip)
    all_goals (refine Reg.D.cv hB ?_; go_simp; try (first | done | rfl | (simp; done) | (intro h; omega)))
  intro ρ W7 S hB hft hap hΦ
  simp only [Reg.SV, Reg.SF, Nat.reduceAdd]
  have HX := Aside0.mk (HX.out.call hB)
  clear hΦ hft hap mg6_3 mg7_3 mg6_0 mg7_0 mg3_0
  go_upto_region 9 with (fail)
  try simp only [Reg.SF]
  have mg3_0 : _ = some (.int .i64 5 : Value) := HX.out.cell 3 0 rfl rfl
  refine Reg.det [(some 78, Reg.Dv.c (.pointer (some ⟨g3, 0, none⟩))), (some 79, Reg.Dv.c (.int .i64 5)), (some 80, Reg.Dv.c (.bool true)), (some 81, Reg.Dv.c (.bool true)), (some 82, Reg.Dv.c undef), (some 83, Reg.Dv.c undef), (some 84, Reg.Dv.c undef), (some 85, Reg.Dv.c undef), (some 86, Reg.Dv.c undef), (some 87, Reg.Dv.c undef), (some 88, Reg.Dv.c undef), (some 89, Reg.Dv.c undef), (some 90, Reg.Dv.c (.bool true)), (some 91, Reg.Dv.c (.agg #[.int .i64 3, .int .i64 0, .bool true])), (some 92, Reg.Dv.c (.agg #[.int .i64 3, .int .i64 0, .bool true, .bool true]))] [] 93 rfl (by kernel_rfl) (by kernel_rfl) ?s59 ?_
  case s59 =>
    intro iq oq pq hiq hoq hpq ρ ev W S hE hO ec ef hB hft hΦ
    have e3 : ev (.tmp 3) = .pointer (some ⟨g3, 0, none⟩) := hO 3 rfl
    have e6 : ev (.tmp 6) = .pointer (some ⟨g6, 0, none⟩) := hO 6 rfl
    have mg3_0' := pw_cell_below hB mg3_0
    simp only [Reg.SV] at hE
    obtain ⟨e78, e79, e80, e81, e82, e83, e84, e85, e86, e87, e88, e89, e90, e91, e92, _⟩ := hE
    rcases Reg.lt15 hiq with rfl | rfl | rfl | rfl | rfl | rfl | rfl | rfl | rfl | rfl | rfl | rfl | rfl | rfl | rfl
    all_goals (cases hoq; cases hpq)
    all_goals (first | exact Reg.D.sk hB | skip)
    all_goals (first | exact Reg.D.mv hB | skip)
    all_goals (refine Reg.D.cv hB ?_; go_simp; try (first | done | rfl | (simp; done) | (intro h; omega)))
  intro ρ W9 S hB hft hap hΦ
  simp only [Reg.SV, Reg.SF, Nat.reduceAdd]
  have HX := Aside0.mk (HX.out.call hB)
  clear hΦ hft hap mg3_0
  refine bx_put (w := w) rfl 85 (.tmp 4) (.tmp 92) rfl rfl (L1 := [_, _]) (cells := #[.int .i64 3, .int .i64 0, .bool true, .bool true]) HX.out rfl rfl (by kernel_rfl) rfl rfl ?_
  intro Wp hx
  have HX := Aside0.mk hx
  clear hx
  go_wp2_with fail
  refine bodyPost_ret (results_cell_row rfl _ _ g4 85 #[.int .i64 3, .int .i64 0, .bool true, .bool true] (0, 0) _ rfl (HX.out.at 2 rfl) hu rfl (by kernel_rfl)) rfl ?_
  exact ⟨rfl, HX.out.below⟩
set_option maxHeartbeats 16000000 in
set_option maxRecDepth 100000 in
theorem partsR6 (sep : ByteArray) (ad q0 q1 : Addr) (A0 : Option Addr) (c n0 c0 : Nat) (u v : Int) (N M : Bool) (y0 y1 y2 : Int) (y3 : ByteArray) (yA : Option Addr) (yn yc : Nat) (z0 z1 z2 : Int) (z3 : ByteArray) (zA : Option Addr) (zn zc : Nat) (w : World)
    (HS : Aside0 (∀ w', Below w.heap.size w w' → Calls Tryz.prog 93 #[.string sep] w' fun e w'' => e = .returned (.bool true) ∧ Below w'.heap.size w' w''))
    (Q0 : Aside0 (KidC w q0 (.int .i64 y0) (.int .i64 y1) (.int .i64 y2) (.string y3) (.slice yA yn yc))) (e0 : ad.add (0 * 5) = q0) (H0 : Aside0 (∀ w', Below w.heap.size w w' → Calls Tryz.prog 40 #[.slice A0 n0 c0, .agg #[.int .i64 y0, .int .i64 y1, .int .i64 y2, .string y3, .slice yA yn yc]] w' fun e w'' => e = .returned (.agg #[.int .i64 3, .int .i64 u, .bool false, .bool true]) ∧ Below w'.heap.size w' w'')) (Q1 : Aside0 (KidC w q1 (.int .i64 z0) (.int .i64 z1) (.int .i64 z2) (.string z3) (.slice zA zn zc))) (e1 : ad.add (1 * 5) = q1) (H1 : Aside0 (∀ w', Below w.heap.size w w' → Calls Tryz.prog 40 #[.slice A0 n0 c0, .agg #[.int .i64 z0, .int .i64 z1, .int .i64 z2, .string z3, .slice zA zn zc]] w' fun e w'' => e = .returned (.agg #[.int .i64 3, .int .i64 v, .bool M, .bool true]) ∧ Below w'.heap.size w' w'')) :
    Calls Tryz.prog 60 #[.slice A0 n0 c0, .agg #[.int .i64 6, .int .i64 0, .int .i64 0, .string sep, .slice (some ad) 2 c]] w fun e w' => e = .returned (.agg #[.int .i64 3, .int .i64 0, .bool false, .bool true]) ∧ Below w.heap.size w w' := by
  have hu := Tryz.underlying85
  have hu2 := Tryz.underlying29
  have hu3 := Tryz.underlying49
  have HX := Aside0.mk (Bxs.start w)
  go_enter Tryz.func60, Tryz.ntmps60
  go_upto_region 0 with (fail)
  refine Reg.det [(some 3, Reg.Dv.box 3 29 (fun _ => #[.int .i64 6, .int .i64 0, .int .i64 0, .string sep, .slice (some ad) 2 c]) [] true), (some 4, Reg.Dv.box 4 85 (fun _ => #[.int .i64 0, .int .i64 0, .bool false, .bool false]) [] true)] [] 93 rfl (by kernel_rfl) (by kernel_rfl) ?s60 ?_
  case s60 =>
    intro iq oq pq hiq hoq hpq ρ ev W S hE hO ec ef hB hft hΦ
    have e1 : ev (.tmp 1) = .agg #[.int .i64 6, .int .i64 0, .int .i64 0, .string sep, .slice (some ad) 2 c] := hO 1 rfl
    simp only [Reg.SV] at hE
    obtain ⟨e3, e4, _⟩ := hE
    rcases Reg.lt2 hiq with rfl | rfl
    all_goals (cases hoq; cases hpq)
    rotate_left 1
    · refine Reg.D.box hB ?_
      go_simp
      try rfl
    rotate_right 1
    · refine Reg.D.box hB ?_
      go_simp
      try rfl
  intro ρ W0 S hB hft hap hΦ
  simp only [Reg.SV, Reg.SF, Nat.reduceAdd]
  obtain ⟨g3, e3, s3, hg3, _, b3⟩ := hΦ 0 _ rfl rfl
  replace e3 : ρ 3 = .pointer (some ⟨g3, 0, none⟩) := e3
  obtain ⟨g4, e4, s4, hg4, _, b4⟩ := hΦ 1 _ rfl rfl
  replace e4 : ρ 4 = .pointer (some ⟨g4, 0, none⟩) := e4
  try simp only [e3, e4]
  replace b3 : W0.heap[g3]? = some (.cells #[.int .i64 6, .int .i64 0, .int .i64 0, .string sep, .slice (some ad) 2 c] 29 (0, 0)) := b3
  replace b4 : W0.heap[g4]? = some (.cells #[.int .i64 0, .int .i64 0, .bool false, .bool false] 85 (0, 0)) := b4
  have HX := Aside0.mk (HX.out.join ((Bxs.one hB hg3 b3).more hg4 b4 (by intro p hp; simp only [List.mem_cons, List.mem_singleton, List.not_mem_nil, or_false] at hp; rcases hp with rfl <;> (intro e; dsimp only at e; subst e; first | exact absurd (hap _ _ _ s3 s4) (by decide)))))
  clear hΦ hft hap 
  go_upto_region 1 with (fail)
  try simp only [Reg.SF]
  refine Reg.det [(some 5, Reg.Dv.c (.int .i64 1))] [] 93 rfl (by kernel_rfl) (by kernel_rfl) ?s61 ?_
  case s61 =>
    intro iq oq pq hiq hoq hpq ρ ev W S hE hO ec ef hB hft hΦ
    simp only [Reg.SV] at hE
    obtain ⟨e5, _⟩ := hE
    obtain rfl : iq = 0 := by have : iq < 1 := hiq; omega
    cases hoq; cases hpq
    all_goals (first | exact Reg.D.mv hB | skip)
    all_goals (refine Reg.D.cv hB ?_; go_simp; try (first | done | rfl | (simp; done) | (intro h; omega)))
  intro ρ W1 S hB hft hap hΦ
  simp only [Reg.SV, Reg.SF, Nat.reduceAdd]
  have HX := Aside0.mk (HX.out.call hB)
  clear hΦ hft hap 
  go_upto_region 2 with (fail)
  try simp only [Reg.SF]
  have mg3_0 : _ = some (.int .i64 6 : Value) := HX.out.cell 1 0 rfl rfl
  refine Reg.det [(some 8, Reg.Dv.c (.pointer (some ⟨g3, 0, none⟩))), (some 9, Reg.Dv.c (.int .i64 6)), (some 10, Reg.Dv.c (.bool true))] [] 93 rfl (by kernel_rfl) (by kernel_rfl) ?s62 ?_
  case s62 =>
    intro iq oq pq hiq hoq hpq ρ ev W S hE hO ec ef hB hft hΦ
    have e3 : ev (.tmp 3) = .pointer (some ⟨g3, 0, none⟩) := hO 3 rfl
    have mg3_0' := pw_cell_below hB mg3_0
    simp only [Reg.SV] at hE
    obtain ⟨e8, e9, e10, _⟩ := hE
    rcases Reg.lt3 hiq with rfl | rfl | rfl
    all_goals (cases hoq; cases hpq)
    all_goals (refine Reg.D.cv hB ?_; go_simp; try (first | done | rfl | (simp; done) | (intro h; omega)))
  intro ρ W2 S hB hft hap hΦ
  simp only [Reg.SV, Reg.SF, Nat.reduceAdd]
  have HX := Aside0.mk (HX.out.call hB)
  clear hΦ hft hap mg3_0
  go_upto_region 3 with (fail)
  try simp only [Reg.SF]
  refine Reg.det [(some 5, Reg.Dv.c (.int .i64 2))] [] 93 rfl (by kernel_rfl) (by kernel_rfl) ?s63 ?_
  case s63 =>
    intro iq oq pq hiq hoq hpq ρ ev W S hE hO ec ef hB hft hΦ
    simp only [Reg.SV] at hE
    obtain ⟨e5, _⟩ := hE
    obtain rfl : iq = 0 := by have : iq < 1 := hiq; omega
    cases hoq; cases hpq
    all_goals (first | exact Reg.D.mv hB | skip)
    all_goals (refine Reg.D.cv hB ?_; go_simp; try (first | done | rfl | (simp; done) | (intro h; omega)))
  intro ρ W3 S hB hft hap hΦ
  simp only [Reg.SV, Reg.SF, Nat.reduceAdd]
  have HX := Aside0.mk (HX.out.call hB)
  clear hΦ hft hap 
  go_upto_region 4 with (fail)
  try simp only [Reg.SF]
  have mg3_1 : _ = some (.int .i64 0 : Value) := HX.out.cell 1 1 rfl rfl
  have mg3_2 : _ = some (.int .i64 0 : Value) := HX.out.cell 1 2 rfl rfl
  have mg3_3 : _ = some (.string sep : Value) := HX.out.cell 1 3 rfl rfl
  have mg3_4 : _ = some (.slice (some ad) 2 c : Value) := HX.out.cell 1 4 rfl rfl
  refine Reg.det [(some 11, Reg.Dv.c (.pointer (some ⟨g3, 1, none⟩))), (some 12, Reg.Dv.c (.int .i64 0)), (some 13, Reg.Dv.c (.bool false)), (some 14, Reg.Dv.c (.bool false)), (some 15, Reg.Dv.c (.pointer (some ⟨g3, 2, none⟩))), (some 16, Reg.Dv.c (.int .i64 0)), (some 17, Reg.Dv.c (.bool false)), (some 18, Reg.Dv.c (.bool false)), (some 19, Reg.Dv.c (.bool false)), (some 20, Reg.Dv.c (.pointer (some ⟨g3, 3, none⟩))), (some 21, Reg.Dv.c (.string sep)), (some 22, Reg.Dv.c (.bool true)), (some 23, Reg.Dv.c (.bool false)), (some 24, Reg.Dv.c (.bool false)), (some 25, Reg.Dv.c (.bool false)), (some 26, Reg.Dv.c (.pointer (some ⟨g3, 4, none⟩))), (some 27, Reg.Dv.c (.slice (some ad) 2 c)), (some 28, Reg.Dv.c (.int .i64 2)), (some 29, Reg.Dv.c (.int .i64 2)), (some 30, Reg.Dv.c (.bool false)), (some 31, Reg.Dv.c (.bool false))] [] 93 rfl (by kernel_rfl) (by kernel_rfl) ?s64 ?_
  case s64 =>
    intro iq oq pq hiq hoq hpq ρ ev W S hE hO ec ef hB hft hΦ
    have e3 : ev (.tmp 3) = .pointer (some ⟨g3, 0, none⟩) := hO 3 rfl
    have e5 : ev (.tmp 5) = .int .i64 2 := hO 5 rfl
    have mg3_1' := pw_cell_below hB mg3_1
    have mg3_2' := pw_cell_below hB mg3_2
    have mg3_3' := pw_cell_below hB mg3_3
    have mg3_4' := pw_cell_below hB mg3_4
    simp only [Reg.SV] at hE
    obtain ⟨e11, e12, e13, e14, e15, e16, e17, e18, e19, e20, e21, e22, e23, e24, e25, e26, e27, e28, e29, e30, e31, _⟩ := hE
    rcases Reg.lt21 hiq with rfl | rfl | rfl | rfl | rfl | rfl | rfl | rfl | rfl | rfl | rfl | rfl | rfl | rfl | rfl | rfl | rfl | rfl | rfl | rfl | rfl
    all_goals (cases hoq; cases hpq)
    rotate_left 11
    · refine Reg.D.cc (g := 93) (args := #[.string sep]) hB (by go_simp; try rfl) ?_
      exact HS.out W (below_step HX.out.below hB)
    rotate_right 11
    all_goals (first | exact Reg.D.mv hB | skip)
    all_goals (refine Reg.D.cv hB ?_; go_simp; try (first | done | rfl | (simp; done) | (intro h; omega)))
  intro ρ W4 S hB hft hap hΦ
  simp only [Reg.SV, Reg.SF, Nat.reduceAdd]
  have HX := Aside0.mk (HX.out.call hB)
  clear hΦ hft hap mg3_1 mg3_2 mg3_3 mg3_4
  have m0_0 := pw_cell_below HX.out.below Q0.out.k0
  have m0_1 := pw_cell_below HX.out.below Q0.out.k1
  have m0_2 := pw_cell_below HX.out.below Q0.out.k2
  have m0_3 := pw_cell_below HX.out.below Q0.out.k3
  have m0_4 := pw_cell_below HX.out.below Q0.out.k4
  have m1_0 := pw_cell_below HX.out.below Q1.out.k0
  have m1_1 := pw_cell_below HX.out.below Q1.out.k1
  have m1_2 := pw_cell_below HX.out.below Q1.out.k2
  have m1_3 := pw_cell_below HX.out.below Q1.out.k3
  have m1_4 := pw_cell_below HX.out.below Q1.out.k4
  go_upto_region 6 with (fail)
  try simp only [Reg.SF]
  have mg3_4 : _ = some (.slice (some ad) 2 c : Value) := HX.out.cell 1 4 rfl rfl
  refine Reg.det [(some 33, Reg.Dv.c (.slice A0 n0 c0)), (some 34, Reg.Dv.c (.pointer (some ⟨g3, 4, none⟩))), (some 35, Reg.Dv.c (.slice (some ad) 2 c)), (some 36, Reg.Dv.c (.pointer (some q0))), (some 37, Reg.Dv.c (.agg #[.int .i64 y0, .int .i64 y1, .int .i64 y2, .string y3, .slice yA yn yc])), (some 38, Reg.Dv.c (.agg #[.int .i64 3, .int .i64 u, .bool false, .bool true])), (some 39, Reg.Dv.c (.slice A0 n0 c0)), (some 40, Reg.Dv.c (.pointer (some ⟨g3, 4, none⟩))), (some 41, Reg.Dv.c (.slice (some ad) 2 c)), (some 42, Reg.Dv.c (.int .i64 2)), (some 43, Reg.Dv.c (.int .i64 1)), (some 44, Reg.Dv.c (.pointer (some q1))), (some 45, Reg.Dv.c (.agg #[.int .i64 z0, .int .i64 z1, .int .i64 z2, .string z3, .slice zA zn zc])), (some 46, Reg.Dv.c (.agg #[.int .i64 3, .int .i64 v, .bool M, .bool true])), (some 6, Reg.Dv.box 6 85 (fun _ => #[.int .i64 0, .int .i64 0, .bool false, .bool false]) [] true), (some 7, Reg.Dv.box 7 85 (fun _ => #[.int .i64 0, .int .i64 0, .bool false, .bool false]) [] true), (none, Reg.Dv.box 6 85 (fun _ => #[.int .i64 3, .int .i64 u, .bool false, .bool true]) [] false), (none, Reg.Dv.box 7 85 (fun _ => #[.int .i64 3, .int .i64 v, .bool M, .bool true]) [] false)] [(14, 16), (15, 17)] 93 rfl (by kernel_rfl) (by kernel_rfl) ?s65 ?_
  case s65 =>
    intro iq oq pq hiq hoq hpq ρ ev W S hE hO ec ef hB hft hΦ
    have e0 : ev (.tmp 0) = .slice A0 n0 c0 := hO 0 rfl
    have e3 : ev (.tmp 3) = .pointer (some ⟨g3, 0, none⟩) := hO 3 rfl
    have e5 : ev (.tmp 5) = .int .i64 2 := hO 5 rfl
    have mg3_4' := pw_cell_below hB mg3_4
    have m0_0' := pw_cell_below hB m0_0
    have m0_1' := pw_cell_below hB m0_1
    have m0_2' := pw_cell_below hB m0_2
    have m0_3' := pw_cell_below hB m0_3
    have m0_4' := pw_cell_below hB m0_4
    have m1_0' := pw_cell_below hB m1_0
    have m1_1' := pw_cell_below hB m1_1
    have m1_2' := pw_cell_below hB m1_2
    have m1_3' := pw_cell_below hB m1_3
    have m1_4' := pw_cell_below hB m1_4
    simp only [Reg.SV] at hE
    obtain ⟨e33, e34, e35, e36, e37, e38, e39, e40, e41, e42, e43, e44, e45, e46, e6, e7, _⟩ := hE
    rcases Reg.lt18 hiq with rfl | rfl | rfl | rfl | rfl | rfl | rfl | rfl | rfl | rfl | rfl | rfl | rfl | rfl | rfl | rfl | rfl | rfl
    all_goals (cases hoq; cases hpq)
    rotate_left 17
    · exact Reg.D.fill 15 85 (.tmp 7) (.tmp 46) hB e7 (by first | assumption | rfl | (simp [*]; done)) (hΦ 15 _ rfl rfl rfl) info85s (by first | rfl | (simp only [Reg.SV]; rfl))
    rotate_right 17
    rotate_left 16
    · exact Reg.D.fill 14 85 (.tmp 6) (.tmp 38) hB e6 (by first | assumption | rfl | (simp [*]; done)) (hΦ 14 _ rfl rfl rfl) info85s (by first | rfl | (simp only [Reg.SV]; rfl))
    rotate_right 16
    rotate_left 15
    · refine Reg.D.box hB ?_
      go_simp
      try rfl
    rotate_right 15
    rotate_left 14
    · refine Reg.D.box hB ?_
      go_simp
      try rfl
    rotate_right 14
    rotate_left 13
    · refine Reg.D.cc (g := 40) (args := #[.slice A0 n0 c0, .agg #[.int .i64 z0, .int .i64 z1, .int .i64 z2, .string z3, .slice zA zn zc]]) hB (by go_simp; try rfl) ?_
      exact H1.out W (below_step HX.out.below hB)
    rotate_right 13
    rotate_left 5
    · refine Reg.D.cc (g := 40) (args := #[.slice A0 n0 c0, .agg #[.int .i64 y0, .int .i64 y1, .int .i64 y2, .string y3, .slice yA yn yc]]) hB (by go_simp; try rfl) ?_
      exact H0.out W (below_step HX.out.below hB)
    rotate_right 5
    all_goals (first | exact Reg.D.mv hB | skip)
    all_goals (refine Reg.D.cv hB ?_; go_simp; try (first | done | rfl | (rw [← e0]; rfl) | (rw [← e1]; rfl) | (simp; done)))
  intro ρ W6 S hB hft hap hΦ
  simp only [Reg.SV, Reg.SF, Nat.reduceAdd]
  obtain ⟨g6, e6, s6, hg6, _, b6⟩ := hΦ 16 _ rfl rfl
  replace e6 : ρ 6 = .pointer (some ⟨g6, 0, none⟩) := e6
  obtain ⟨g7, e7, s7, hg7, _, b7⟩ := hΦ 17 _ rfl rfl
  replace e7 : ρ 7 = .pointer (some ⟨g7, 0, none⟩) := e7
  try simp only [e6, e7]
  replace b6 : W6.heap[g6]? = some (.cells #[.int .i64 3, .int .i64 u, .bool false, .bool true] 85 (0, 0)) := b6
  replace b7 : W6.heap[g7]? = some (.cells #[.int .i64 3, .int .i64 v, .bool M, .bool true] 85 (0, 0)) := b7
  have HX := Aside0.mk (HX.out.join ((Bxs.one hB hg6 b6).more hg7 b7 (by intro p hp; simp only [List.mem_cons, List.mem_singleton, List.not_mem_nil, or_false] at hp; rcases hp with rfl <;> (intro e; dsimp only at e; subst e; first | exact absurd (hap _ _ _ s6 s7) (by decide)))))
  clear hΦ hft hap mg3_4
  clear m0_0 m0_1 m0_2 m0_3 m0_4 m1_0 m1_1 m1_2 m1_3 m1_4
  go_upto_region 7 with (fail)
  try simp only [Reg.SF]
  have mg6_3 : _ = some (.bool true : Value) := HX.out.cell 1 3 rfl rfl
  have mg7_3 : _ = some (.bool true : Value) := HX.out.cell 0 3 rfl rfl
  have mg6_0 : _ = some (.int .i64 3 : Value) := HX.out.cell 1 0 rfl rfl
  have mg7_0 : _ = some (.int .i64 3 : Value) := HX.out.cell 0 0 rfl rfl
  have mg3_0 : _ = some (.int .i64 6 : Value) := HX.out.cell 3 0 rfl rfl
  have mg6_2 : _ = some (.bool false : Value) := HX.out.cell 1 2 rfl rfl
  refine Reg.det [(some 47, Reg.Dv.c (.pointer (some ⟨g6, 3, none⟩))), (some 48, Reg.Dv.c (.bool true)), (some 49, Reg.Dv.c (.bool false)), (some 50, Reg.Dv.c (.bool false)), (some 51, Reg.Dv.c (.pointer (some ⟨g7, 3, none⟩))), (some 52, Reg.Dv.c (.bool true)), (some 53, Reg.Dv.c (.bool false)), (some 54, Reg.Dv.c (.bool false)), (some 55, Reg.Dv.c (.bool false)), (some 56, Reg.Dv.c (.pointer (some ⟨g6, 0, none⟩))), (some 57, Reg.Dv.c (.pointer (some ⟨g6, 0, none⟩))), (some 58, Reg.Dv.c (.int .i64 3)), (some 59, Reg.Dv.c (.bool false)), (some 60, Reg.Dv.c (.bool false)), (some 61, Reg.Dv.c (.bool false)), (some 62, Reg.Dv.c (.pointer (some ⟨g7, 0, none⟩))), (some 63, Reg.Dv.c (.pointer (some ⟨g7, 0, none⟩))), (some 64, Reg.Dv.c (.int .i64 3)), (some 65, Reg.Dv.c (.bool false)), (some 66, Reg.Dv.c (.bool false)), (some 67, Reg.Dv.c (.bool false)), (some 68, Reg.Dv.c (.pointer (some ⟨g3, 0, none⟩))), (some 69, Reg.Dv.c (.int .i64 6)), (some 70, Reg.Dv.c (.bool true)), (some 71, Reg.Dv.c (.bool true)), (some 72, Reg.Dv.c (.pointer (some ⟨g6, 0, none⟩))), (some 73, Reg.Dv.c (.pointer (some ⟨g6, 2, none⟩))), (some 74, Reg.Dv.c (.bool false)), (some 75, Reg.Dv.c (.bool false)), (some 76, Reg.Dv.c (.bool false))] [] 93 rfl (by kernel_rfl) (by kernel_rfl) ?s66 ?_
  case s66 =>
    intro iq oq pq hiq hoq hpq ρ ev W S hE hO ec ef hB hft hΦ
    have e3 : ev (.tmp 3) = .pointer (some ⟨g3, 0, none⟩) := hO 3 rfl
    have e6 : ev (.tmp 6) = .pointer (some ⟨g6, 0, none⟩) := hO 6 rfl
    have e7 : ev (.tmp 7) = .pointer (some ⟨g7, 0, none⟩) := hO 7 rfl
    have mg6_3' := pw_cell_below hB mg6_3
    have mg7_3' := pw_cell_below hB mg7_3
    have mg6_0' := pw_cell_below hB mg6_0
    have mg7_0' := pw_cell_below hB mg7_0
    have mg3_0' := pw_cell_below hB mg3_0
    have mg6_2' := pw_cell_below hB mg6_2
    simp only [Reg.SV] at hE
    obtain ⟨e47, e48, e49, e50, e51, e52, e53, e54, e55, e56, e57, e58, e59, e60, e61, e62, e63, e64, e65, e66, e67, e68, e69, e70, e71, e72, e73, e74, e75, e76, _⟩ := hE
    rcases Reg.lt30 hiq with rfl | rfl | rfl | rfl | rfl | rfl | rfl | rfl | rfl | rfl | rfl | rfl | rfl | rfl | rfl | rfl | rfl | rfl | rfl | rfl | rfl | rfl | rfl | rfl | rfl | rfl | rfl | rfl | rfl | rfl
    all_goals (cases hoq; cases hpq)
    all_goals (first | exact Reg.D.mv hB | skip)
    all_goals (refine Reg.D.cv hB ?_; go_simp; try (first | done | rfl | (simp; done) | (intro h; omega)))
  intro ρ W7 S hB hft hap hΦ
  simp only [Reg.SV, Reg.SF, Nat.reduceAdd]
  have HX := Aside0.mk (HX.out.call hB)
  clear hΦ hft hap mg6_3 mg7_3 mg6_0 mg7_0 mg3_0 mg6_2
  go_upto_region 9 with (fail)
  try simp only [Reg.SF]
  have mg3_0 : _ = some (.int .i64 6 : Value) := HX.out.cell 3 0 rfl rfl
  refine Reg.det [(some 78, Reg.Dv.c (.pointer (some ⟨g3, 0, none⟩))), (some 79, Reg.Dv.c (.int .i64 6)), (some 80, Reg.Dv.c (.bool false)), (some 81, Reg.Dv.c (.bool false)), (some 82, Reg.Dv.c (.pointer (some ⟨g3, 0, none⟩))), (some 83, Reg.Dv.c (.int .i64 6)), (some 84, Reg.Dv.c (.bool false)), (some 85, Reg.Dv.c (.bool false)), (some 86, Reg.Dv.c undef), (some 87, Reg.Dv.c undef), (some 88, Reg.Dv.c undef), (some 89, Reg.Dv.c (.bool false)), (some 90, Reg.Dv.c (.bool false)), (some 91, Reg.Dv.c (.agg #[.int .i64 3, .int .i64 0, .bool false])), (some 92, Reg.Dv.c (.agg #[.int .i64 3, .int .i64 0, .bool false, .bool true]))] [] 93 rfl (by kernel_rfl) (by kernel_rfl) ?s67 ?_
  case s67 =>
    intro iq oq pq hiq hoq hpq ρ ev W S hE hO ec ef hB hft hΦ
    have e3 : ev (.tmp 3) = .pointer (some ⟨g3, 0, none⟩) := hO 3 rfl
    have e6 : ev (.tmp 6) = .pointer (some ⟨g6, 0, none⟩) := hO 6 rfl
    have mg3_0' := pw_cell_below hB mg3_0
    simp only [Reg.SV] at hE
    obtain ⟨e78, e79, e80, e81, e82, e83, e84, e85, e86, e87, e88, e89, e90, e91, e92, _⟩ := hE
    rcases Reg.lt15 hiq with rfl | rfl | rfl | rfl | rfl | rfl | rfl | rfl | rfl | rfl | rfl | rfl | rfl | rfl | rfl
    all_goals (cases hoq; cases hpq)
    all_goals (first | exact Reg.D.sk hB | skip)
    all_goals (first | exact Reg.D.mv hB | skip)
    all_goals (refine Reg.D.cv hB ?_; go_simp; try (first | done | rfl | (simp; done) | (intro h; omega)))
  intro ρ W9 S hB hft hap hΦ
  simp only [Reg.SV, Reg.SF, Nat.reduceAdd]
  have HX := Aside0.mk (HX.out.call hB)
  clear hΦ hft hap mg3_0
  refine bx_put (w := w) rfl 85 (.tmp 4) (.tmp 92) rfl rfl (L1 := [_, _]) (cells := #[.int .i64 3, .int .i64 0, .bool false, .bool true]) HX.out rfl rfl (by kernel_rfl) rfl rfl ?_
  intro Wp hx
  have HX := Aside0.mk hx
  clear hx
  go_wp2_with fail
  refine bodyPost_ret (results_cell_row rfl _ _ g4 85 #[.int .i64 3, .int .i64 0, .bool false, .bool true] (0, 0) _ rfl (HX.out.at 2 rfl) hu rfl (by kernel_rfl)) rfl ?_
  exact ⟨rfl, HX.out.below⟩
end Go.Proofs.YtmebkjdknhknbaaGreatDoor.H
end
section
namespace Go.Proofs.YtmebkjdknhknbaaGreatDoor.H
open Go.RowKit Go.Proofs.YtmebkjdknhknbaaGreatDoor.G Go.Proofs.YtmebkjdknhknbaaGreatDoorW.PrintWords Go.Proofs.YtmebkjdknhknbaaGreatDoorW.PrintLast Go.Proofs.YtmebkjdknhknbaaGreatDoorW.PrintMore
def toR (l0 : List S57) (x : S29) (T : S49) : Prop := ∀ (A0 : Option Addr) (c0 : Nat) (A : Option Addr) (c : Nat) (w : World), l0.length ≤ c0 → Kd.C k57 w A0 l0.length l0 → x.f4.length ≤ c → k29.C w A x.f4.length x.f4 →
  Calls Tryz.prog 40 #[.slice A0 l0.length c0, .agg (lC x A c)] w fun e w' => e = .returned (.agg #[.int .i64 T.f0, .int .i64 T.f1, .bool T.f2, .bool true]) ∧ Below w.heap.size w w'
theorem OfR_all (l0 : List S57) : ∀ (k : Nat) (x : S29), k ≤ 3 → vOk k l0 x → toR l0 x (tailV (k - 1) l0 x).1 := by
  intro k
  induction k with
  | zero => intro x _ h; exact h.1.elim
  | succ k ih =>
    intro x hk h A0 c0 A c w hc0 hr0 hlc hC
    have HD : ∀ w', Below w.heap.size w w' → Calls Tryz.prog 48 #[.agg (lC x A c), .int .i64 3] w' fun e w'' => e = .returned (.bool false) ∧ Below w'.heap.size w' w'' := fun w' hb => by
      obtain ⟨K, hK⟩ := deeper_no (k + 1) x h.1 3 (by omega) (by decide)
      exact chapmanref16_deeper.calls K x.f0 x.f1 x.f2 x.f3 A c x.f4 3 false w' (Kd.C_below hC hb) hlc hK
    rw [show k + 1 - 1 = k from rfl]
    by_cases hx : x.f0 ≤ 3
    · have hp := plain_f h hx
      have HP : ∀ w', Below w.heap.size w w' → Calls Tryz.prog 59 #[.slice A0 l0.length c0, .agg (lC x A c)] w' fun e w'' => e = .returned (.agg #[.int .i64 (tailV k l0 x).1.f0, .int .i64 (tailV k l0 x).1.f1, .bool (tailV k l0 x).1.f2, .bool true]) ∧ Below w'.heap.size w' w'' := fun w' hb =>
        chapmanref16_plain.calls 2 A0 c0 l0 x.f0 x.f1 x.f2 x.f3 A c x.f4 _ _ _ true w' (Kd.C_below hr0 hb) hc0 (Kd.C_below hC hb) hlc hp.2
      have h1 := (vOk_plain h hx).1.1
      generalize (tailV k l0 x).1 = T at *
      obtain ⟨K, a, s, sep, l4⟩ := x
      dsimp only at h1 hx
      exact ofRa K a s ⟨by omega⟩ sep A A0 _ c _ c0 _ _ _ w ⟨HD⟩ ⟨HP⟩
    · obtain ⟨h4, h5, h6⟩ := vOk_parts h hx
      obtain ⟨e1, e2, hs, hkt, hnul, ht⟩ := parts_inv h (by omega) hx
      have hkid := fun (i : Nat) (hi : i < x.f4.length) => ih (rd_T29 x.f4 (i : Int)) (by omega) (vOk_kid h i hi)
      have HS : ∀ w', Below w.heap.size w w' → Calls Tryz.prog 93 #[.string x.f3] w' fun e w'' => e = .returned (.bool true) ∧ Below w'.heap.size w' w'' := fun w' hb =>
        (chapmanref16_sep.calls 2 x.f3 true w' hs).mono fun e w'' h => ⟨h.1, below_drawn h.2⟩
      rw [ht]
      generalize hT : (fun y : S29 => (tailV (k - 1) l0 y).1) = TT at *
      have hT' : ∀ y, (tailV (k - 1) l0 y).1 = TT y := fun y => by rw [← hT]
      simp only [hT'] at hkid hkt hnul ⊢
      clear hT hT' ht ih
      obtain ⟨K, a, s, sep, l4⟩ := x
      dsimp only at h4 h5 h6 e1 e2 hx hkid hkt hnul HS hlc hC ⊢
      subst e1 e2
      have h3 : K = 4 ∨ K = 5 ∨ K = 6 := by omega
      have hp0 : 0 < l4.length := by split at h6 <;> omega
      have k0 := hkid 0 hp0
      have t0 := hkt 0 hp0
      have HKw : ∀ w', Below w.heap.size w w' → Kd.C k57 w' A0 l0.length l0 ∧ k29.C w' A l4.length l4 := fun w' hb => ⟨Kd.C_below hr0 hb, Kd.C_below hC hb⟩
      have hkt' := hkt
      clear hkt
      rcases h3 with rfl | rfl | rfl
      · have hl : l4.length = 1 := by have := h6; simp at this; omega
        unfold lC at HD ⊢
        dsimp only at HD ⊢
        have HP : ∀ w', Below w.heap.size w w' → Calls Tryz.prog 60 #[.slice A0 l0.length c0, .agg #[.int .i64 4, .int .i64 0, .int .i64 0, .string sep, .slice A l4.length c]] w' fun e w'' => e = .returned (.agg #[.int .i64 3, .int .i64 0, .bool ((TT (rd_T29 l4 ((0 : Nat) : Int))).f2 || decide ((4 : Int) = 5)), .bool true]) ∧ Below w'.heap.size w' w'' := fun w' hb => by
          obtain ⟨hr0', hC'⟩ := HKw w' hb
          have HS' := fun (w'' : World) (hb' : Below w'.heap.size w' w'') => HS w'' (below_step hb hb')
          obtain ⟨ad, q, B, d, e, e0, K0⟩ := kid hC' 0 hp0
          cases e
          generalize rd_T29 l4 ((0 : Nat) : Int) = y at *
          generalize TT y = T at *
          obtain ⟨y0, y1, y2, y3, l5⟩ := y
          obtain ⟨T0, T1, T2⟩ := T
          dsimp only at t0 ⊢
          subst t0
          rw [hl]
          have R := partsR4 sep ad q q A0 c l0.length c0 T1 0 T2 false y0 y1 y2 y3 B l5.length d w' ⟨HS'⟩ ⟨⟨K0.k0, K0.k1, K0.k2, K0.k3, K0.k4⟩⟩ e0 ⟨fun w'' hb' => k0 A0 c0 B d w'' hc0 (Kd.C_below hr0' hb') K0.len (Kd.C_below K0.has hb')⟩
          rw [show (T2 || decide ((4 : Int) = 5)) = T2 from by cases T2 <;> rfl]
          exact R
        exact ofRb 4 0 0 ⟨by decide⟩ sep A A0 _ c _ c0 _ _ _ w ⟨HD⟩ ⟨HP⟩
      · have hl : l4.length = 1 := by have := h6; simp at this; omega
        unfold lC at HD ⊢
        dsimp only at HD ⊢
        have HP : ∀ w', Below w.heap.size w w' → Calls Tryz.prog 60 #[.slice A0 l0.length c0, .agg #[.int .i64 5, .int .i64 0, .int .i64 0, .string sep, .slice A l4.length c]] w' fun e w'' => e = .returned (.agg #[.int .i64 3, .int .i64 0, .bool ((TT (rd_T29 l4 ((0 : Nat) : Int))).f2 || decide ((5 : Int) = 5)), .bool true]) ∧ Below w'.heap.size w' w'' := fun w' hb => by
          obtain ⟨hr0', hC'⟩ := HKw w' hb
          have HS' := fun (w'' : World) (hb' : Below w'.heap.size w' w'') => HS w'' (below_step hb hb')
          obtain ⟨ad, q, B, d, e, e0, K0⟩ := kid hC' 0 hp0
          cases e
          generalize rd_T29 l4 ((0 : Nat) : Int) = y at *
          generalize TT y = T at *
          obtain ⟨y0, y1, y2, y3, l5⟩ := y
          obtain ⟨T0, T1, T2⟩ := T
          dsimp only at t0 ⊢
          subst t0
          rw [hl]
          have R := partsR5 sep ad q q A0 c l0.length c0 T1 0 T2 false y0 y1 y2 y3 B l5.length d w' ⟨HS'⟩ ⟨⟨K0.k0, K0.k1, K0.k2, K0.k3, K0.k4⟩⟩ e0 ⟨fun w'' hb' => k0 A0 c0 B d w'' hc0 (Kd.C_below hr0' hb') K0.len (Kd.C_below K0.has hb')⟩
          rw [show (T2 || decide ((5 : Int) = 5)) = true from by cases T2 <;> rfl]
          exact R
        exact ofRb 5 0 0 ⟨by decide⟩ sep A A0 _ c _ c0 _ _ _ w ⟨HD⟩ ⟨HP⟩
      · have hl : l4.length = 2 := by have := h6; simp at this; omega
        have k1 := hkid 1 (by omega)
        have n0 := hnul rfl
        unfold lC at HD ⊢
        dsimp only at HD ⊢
        have HP : ∀ w', Below w.heap.size w w' → Calls Tryz.prog 60 #[.slice A0 l0.length c0, .agg #[.int .i64 6, .int .i64 0, .int .i64 0, .string sep, .slice A l4.length c]] w' fun e w'' => e = .returned (.agg #[.int .i64 3, .int .i64 0, .bool ((TT (rd_T29 l4 ((0 : Nat) : Int))).f2 || decide ((6 : Int) = 5)), .bool true]) ∧ Below w'.heap.size w' w'' := fun w' hb => by
          obtain ⟨hr0', hC'⟩ := HKw w' hb
          have HS' := fun (w'' : World) (hb' : Below w'.heap.size w' w'') => HS w'' (below_step hb hb')
          obtain ⟨ad, q, B, d, e, e0, K0⟩ := kid hC' 0 hp0
          obtain ⟨ad', q', B', d', e', e1, K1⟩ := kid hC' 1 (by omega)
          have ea : ad = ad' := by rw [e] at e'; exact Option.some.inj e'
          subst ea
          have t1 := hkt' 1 (by omega)
          cases e
          generalize rd_T29 l4 ((0 : Nat) : Int) = y at *
          generalize rd_T29 l4 ((1 : Nat) : Int) = z at *
          generalize hTz : TT z = Tz at *
          obtain ⟨z0, z1, z2, z3, l6⟩ := z
          obtain ⟨U0, U1, U2⟩ := Tz
          dsimp only at t1
          subst t1
          generalize TT y = T at *
          obtain ⟨y0, y1, y2, y3, l5⟩ := y
          obtain ⟨T0, T1, T2⟩ := T
          dsimp only at t0 n0 ⊢
          subst t0 n0
          rw [hl]
          have R := partsR6 sep ad q q' A0 c l0.length c0 T1 U1 false U2 y0 y1 y2 y3 B l5.length d z0 z1 z2 z3 B' l6.length d' w' ⟨HS'⟩ ⟨⟨K0.k0, K0.k1, K0.k2, K0.k3, K0.k4⟩⟩ e0 ⟨fun w'' hb' => k0 A0 c0 B d w'' hc0 (Kd.C_below hr0' hb') K0.len (Kd.C_below K0.has hb')⟩ ⟨⟨K1.k0, K1.k1, K1.k2, K1.k3, K1.k4⟩⟩ e1 ⟨fun w'' hb' => k1 A0 c0 B' d' w'' hc0 (Kd.C_below hr0' hb') K1.len (Kd.C_below K1.has hb')⟩
          exact R
        exact ofRb 6 0 0 ⟨by decide⟩ sep A A0 _ c _ c0 _ _ _ w ⟨HD⟩ ⟨HP⟩
set_option maxHeartbeats 16000000 in
set_option maxRecDepth 100000 in
theorem TypeR_calls (l0 : List S57) (x : S29) (T : S49) (h : toR l0 x T) (A0 : Option Addr) (c0 : Nat) (A : Option Addr) (c : Nat) (w : World) (hc0 : l0.length ≤ c0) (hr0 : Kd.C k57 w A0 l0.length l0) (hlc : x.f4.length ≤ c) (hC : k29.C w A x.f4.length x.f4) :
    Calls Tryz.prog 16 #[.slice A0 l0.length c0, .agg (lC x A c)] w fun e w' => e = .returned (.agg (tyC T)) ∧ Below w.heap.size w w' := by
  have hu := Tryz.underlying85
  have hu2 := Tryz.underlying29
  have hu3 := Tryz.underlying49
  have HX := Aside0.mk (Bxs.start w)
  have HD := Aside0.mk (fun (w' : World) (hb : Below w.heap.size w w') => h A0 c0 A c w' hc0 (Kd.C_below hr0 hb) hlc (Kd.C_below hC hb))
  obtain ⟨k, a, s, sep, l4⟩ := x
  obtain ⟨T0, T1, T2⟩ := T
  unfold lC tyC at *
  dsimp only at HD ⊢
  generalize l4.length = n4 at *
  generalize l0.length = n0 at *
  clear h hr0 hlc hC hc0
  go_enter Tryz.func16, Tryz.ntmps16
  go_upto_region 0 with (fail)
  refine Reg.det [(some 3, Reg.Dv.box 3 29 (fun _ => #[.int .i64 k, .int .i64 a, .int .i64 s, .string sep, .slice A n4 c]) [] true), (some 4, Reg.Dv.box 4 49 (fun _ => #[.int .i64 0, .int .i64 0, .bool false]) [] true)] [] 9 rfl (by kernel_rfl) (by kernel_rfl) ?s44 ?_
  case s44 =>
    intro iq oq pq hiq hoq hpq ρ ev W S hE hO ec ef hB hft hΦ
    have e1 : ev (.tmp 1) = .agg #[.int .i64 k, .int .i64 a, .int .i64 s, .string sep, .slice A n4 c] := hO 1 rfl
    simp only [Reg.SV] at hE
    obtain ⟨e3, e4, _⟩ := hE
    rcases Reg.lt2 hiq with rfl | rfl
    all_goals (cases hoq; cases hpq)
    rotate_left 1
    · refine Reg.D.box hB ?_
      go_simp
      try rfl
    rotate_right 1
    · refine Reg.D.box hB ?_
      go_simp
      try rfl
  intro ρ W0 S hB hft hap hΦ
  simp only [Reg.SV, Reg.SF, Nat.reduceAdd]
  obtain ⟨g3, e3, s3, hg3, _, b3⟩ := hΦ 0 _ rfl rfl
  replace e3 : ρ 3 = .pointer (some ⟨g3, 0, none⟩) := e3
  obtain ⟨g4, e4, s4, hg4, _, b4⟩ := hΦ 1 _ rfl rfl
  replace e4 : ρ 4 = .pointer (some ⟨g4, 0, none⟩) := e4
  try simp only [e3, e4]
  replace b3 : W0.heap[g3]? = some (.cells #[.int .i64 k, .int .i64 a, .int .i64 s, .string sep, .slice A n4 c] 29 (0, 0)) := b3
  replace b4 : W0.heap[g4]? = some (.cells #[.int .i64 0, .int .i64 0, .bool false] 49 (0, 0)) := b4
  have HX := Aside0.mk (HX.out.join ((Bxs.one hB hg3 b3).more hg4 b4 (by intro p hp; simp only [List.mem_cons, List.mem_singleton, List.not_mem_nil, or_false] at hp; rcases hp with rfl <;> (intro e; dsimp only at e; subst e; first | exact absurd (hap _ _ _ s3 s4) (by decide)))))
  clear hΦ hft hap 
  go_upto_region 1 with (fail)
  try simp only [Reg.SF]
  have mg3_0 : _ = some (.int .i64 k : Value) := HX.out.cell 1 0 rfl rfl
  have mg3_1 : _ = some (.int .i64 a : Value) := HX.out.cell 1 1 rfl rfl
  have mg3_2 : _ = some (.int .i64 s : Value) := HX.out.cell 1 2 rfl rfl
  have mg3_3 : _ = some (.string sep : Value) := HX.out.cell 1 3 rfl rfl
  have mg3_4 : _ = some (.slice A n4 c : Value) := HX.out.cell 1 4 rfl rfl
  refine Reg.det [(some 5, Reg.Dv.c (.slice A0 n0 c0)), (some 6, Reg.Dv.c (.agg #[.int .i64 k, .int .i64 a, .int .i64 s, .string sep, .slice A n4 c])), (some 7, Reg.Dv.c (.agg #[.int .i64 T0, .int .i64 T1, .bool T2, .bool true])), (some 8, Reg.Dv.c (.agg #[.int .i64 T0, .int .i64 T1, .bool T2]))] [] 9 rfl (by kernel_rfl) (by kernel_rfl) ?s45 ?_
  case s45 =>
    intro iq oq pq hiq hoq hpq ρ ev W S hE hO ec ef hB hft hΦ
    have e0 : ev (.tmp 0) = .slice A0 n0 c0 := hO 0 rfl
    have e3 : ev (.tmp 3) = .pointer (some ⟨g3, 0, none⟩) := hO 3 rfl
    have mg3_0' := pw_cell_below hB mg3_0
    have mg3_1' := pw_cell_below hB mg3_1
    have mg3_2' := pw_cell_below hB mg3_2
    have mg3_3' := pw_cell_below hB mg3_3
    have mg3_4' := pw_cell_below hB mg3_4
    simp only [Reg.SV] at hE
    obtain ⟨e5, e6, e7, e8, _⟩ := hE
    rcases Reg.lt4 hiq with rfl | rfl | rfl | rfl
    all_goals (cases hoq; cases hpq)
    rotate_left 2
    · refine Reg.D.cc (g := 40) (args := #[.slice A0 n0 c0, .agg #[.int .i64 k, .int .i64 a, .int .i64 s, .string sep, .slice A n4 c]]) hB (by go_simp; try rfl) ?_
      exact HD.out W (below_step HX.out.below hB)
    rotate_right 2
    all_goals (first | exact Reg.D.mv hB | skip)
    all_goals (refine Reg.D.cv hB ?_; go_simp; try (first | done | rfl | (simp; done) | (intro h; omega)))
  intro ρ W1 S hB hft hap hΦ
  simp only [Reg.SV, Reg.SF, Nat.reduceAdd]
  have HX := Aside0.mk (HX.out.call hB)
  clear hΦ hft hap mg3_0 mg3_1 mg3_2 mg3_3 mg3_4
  refine bx_put (w := w) rfl 49 (.tmp 4) (.tmp 8) rfl rfl (L1 := []) (cells := #[.int .i64 T0, .int .i64 T1, .bool T2]) HX.out rfl rfl (by kernel_rfl) rfl rfl ?_
  intro Wp hx
  have HX := Aside0.mk hx
  clear hx
  go_wp2_with fail
  refine bodyPost_ret (results_cell_row rfl _ _ g4 49 #[.int .i64 T0, .int .i64 T1, .bool T2] (0, 0) _ rfl (HX.out.at 0 rfl) hu3 rfl (by kernel_rfl)) rfl ?_
  exact ⟨rfl, HX.out.below⟩
end Go.Proofs.YtmebkjdknhknbaaGreatDoor.H
end
section
namespace Go.Proofs.YtmebkjdknhknbaaGreatDoor.H
open Go.RowKit Go.Proofs.YtmebkjdknhknbaaGreatDoorW.PrintWords Go.Proofs.YtmebkjdknhknbaaGreatDoorW.PrintLast Go.Proofs.YtmebkjdknhknbaaGreatDoorW.PrintMore
theorem two45 {x : Int} (h : x < 2) (h2 : x = 0 ∨ x = 1 ∨ x = 2) : ∃ (J : Nat) (KD : Int), x = (J : Int) ∧ J < 2 ∧ (#[.int .i64 4, .int .i64 5] : Array Value)[J]? = some (.int .i64 KD) ∧ (KD = 4 ∨ KD = 5) := by
  rcases h2 with rfl | rfl | rfl
  · exact ⟨0, 4, rfl, by decide, rfl, .inl rfl⟩
  · exact ⟨1, 5, rfl, by decide, rfl, .inr rfl⟩
  · exact absurd h (by decide)
set_option maxHeartbeats 16000000 in
set_option maxRecDepth 100000 in
theorem composed_calls (l0 : List S57) (A0 B : Option Addr) (c0 nb cb I : Nat) (n p nm p2 p7 K KK : Int) (SP : ByteArray) (SC : Int) (Px Q : S29 → Prop) (Gd : S29 → S49 → Prop) (w : World) (hnm : IntKind.i64.wrap (n - 1) = nm) (hp2 : IntKind.i64.wrap (p + 2) = p2) (hp7 : IntKind.i64.wrap (p + 7) = p7) (hKK : IntKind.i64.wrap (Int.tdiv K 2) = KK) (hd3 : IntKind.i64.wrap (Int.tdiv KK 3) = Int.tdiv KK 3)
    (hI : Int.tmod (Int.tdiv KK 3) 4 = (I : Int)) (hI4 : I < 4) (hSP : (#[.string (⟨#[32]⟩ : ByteArray), .string (⟨#[44]⟩ : ByteArray), .string (⟨#[46]⟩ : ByteArray), .string (⟨#[97]⟩ : ByteArray)] : Array Value)[I]? = some (.string SP)) (hmode : Int.tmod KK 3 = 0 ∨ Int.tmod KK 3 = 1 ∨ Int.tmod KK 3 = 2) (hS : Int.tmod KK 7 = SC) (hPT : ∀ x, Px x → ∃ T, toR l0 x T ∧ Gd x T) (hTT : toR l0 ⟨1, 1, 0, ⟨#[]⟩, []⟩ ⟨3, 0, false⟩) (hGT : Gd ⟨1, 1, 0, ⟨#[]⟩, []⟩ ⟨3, 0, false⟩) (hGS : ∃ U, Gd ⟨3, 0, SC, ⟨#[]⟩, []⟩ U ∧ U.f0 = 3)
    (hOne : ∀ (K' : Int) x T, (K' = 4 ∨ K' = 5) → Gd x T → T.f0 = 3 → Q ⟨K', 0, 0, SP, [x]⟩) (hTwo : ∀ x T y U, Gd x T → T.f0 = 3 → T.f2 = false → Gd y U → U.f0 = 3 → Q ⟨6, 0, 0, SP, [x, y]⟩) (hc0 : l0.length ≤ c0) (hr0 : Kd.C k57 w A0 l0.length l0)
    (HK : Aside0 (∀ w', Below w.heap.size w w' → Calls Tryz.prog 36 #[.slice B nb cb, .int .i64 p] w' fun e w'' => e = .returned (.int .i64 K) ∧ Below w'.heap.size w' w''))
    (HA2 : Aside0 (∀ w', Below w.heap.size w w' → Calls Tryz.prog 31 #[.slice A0 l0.length c0, .slice B nb cb, .agg #[.int .i64 nm, .int .i64 p2]] w' fun e w'' => (∃ v, e = .returned v ∧ lnP Px v w'.heap.size w'' (fun _ => True)) ∧ Below w'.heap.size w' w''))
    (HA7 : Aside0 (∀ w', Below w.heap.size w w' → Calls Tryz.prog 31 #[.slice A0 l0.length c0, .slice B nb cb, .agg #[.int .i64 nm, .int .i64 p7]] w' fun e w'' => (∃ v, e = .returned v ∧ lnP Px v w'.heap.size w'' (fun _ => True)) ∧ Below w'.heap.size w' w'')) :
    Calls Tryz.prog 52 #[.slice A0 l0.length c0, .slice B nb cb, .agg #[.int .i64 n, .int .i64 p]] w fun e w' => (∃ v, e = .returned v ∧ lnP Q v w.heap.size w' (fun _ => True)) ∧ Below w.heap.size w w' := by
  have hu := Tryz.underlying72
  have hu2 := Tryz.underlying29
  have hu3 := Tryz.underlying49
  have hu4 := Tryz.underlying57
  obtain ⟨SU, hGS⟩ := hGS
  have HX := Aside0.mk (Bxs.start w)
  go_enter Tryz.func52, Tryz.ntmps52
  go_upto_region 0 with (fail)
  refine Reg.det [(some 5, Reg.Dv.box 5 72 (fun _ => #[.int .i64 n, .int .i64 p]) [] true), (some 6, Reg.Dv.box 6 29 (fun _ => #[.int .i64 0, .int .i64 0, .int .i64 0, .string (⟨#[]⟩ : ByteArray), .slice none 0 0]) [] true)] [] 78 rfl (by kernel_rfl) (by kernel_rfl) ?s1 ?_
  case s1 =>
    intro iq oq pq hiq hoq hpq ρ ev W S hE hO ec ef hB hft hΦ
    have e2 : ev (.tmp 2) = .agg #[.int .i64 n, .int .i64 p] := hO 2 rfl
    simp only [Reg.SV, val_ln] at hE
    obtain ⟨e5, e6, _⟩ := hE
    rcases Reg.lt2 hiq with rfl | rfl
    all_goals (cases hoq; cases hpq)
    rotate_left 1
    · refine Reg.D.box hB ?_
      go_simp
      try rfl
    rotate_right 1
    · refine Reg.D.box hB ?_
      go_simp
      try rfl
  intro ρ W0 S hB hft hap hΦ
  simp only [Reg.SV, val_ln, Reg.SF, Nat.reduceAdd]
  obtain ⟨g5, e5, s5, hg5, _, b5⟩ := hΦ 0 _ rfl rfl
  replace e5 : ρ 5 = .pointer (some ⟨g5, 0, none⟩) := e5
  obtain ⟨g6, e6, s6, hg6, _, b6⟩ := hΦ 1 _ rfl rfl
  replace e6 : ρ 6 = .pointer (some ⟨g6, 0, none⟩) := e6
  try simp only [e5, e6]
  replace b5 : W0.heap[g5]? = some (.cells #[.int .i64 n, .int .i64 p] 72 (0, 0)) := b5
  replace b6 : W0.heap[g6]? = some (.cells #[.int .i64 0, .int .i64 0, .int .i64 0, .string (⟨#[]⟩ : ByteArray), .slice none 0 0] 29 (0, 0)) := b6
  have HX := Aside0.mk (HX.out.join ((Bxs.one hB hg5 b5).more hg6 b6 (by intro p hp; simp only [List.mem_cons, List.mem_singleton, List.not_mem_nil, or_false] at hp; rcases hp with rfl <;> (intro e; dsimp only at e; subst e; first | exact absurd (hap _ _ _ s5 s6) (by decide)))))
  clear hΦ hft hap 
  go_upto_region 1 with (fail)
  try simp only [Reg.SF]
  have mg5_1 : _ = some (.int .i64 p : Value) := HX.out.cell 1 1 rfl rfl
  refine Reg.det [(some 11, Reg.Dv.c (.slice B nb cb)), (some 12, Reg.Dv.c (.pointer (some ⟨g5, 1, none⟩))), (some 13, Reg.Dv.c (.int .i64 p)), (some 14, Reg.Dv.c (.int .i64 K)), (some 15, Reg.Dv.c (.int .i64 KK)), (some 7, Reg.Dv.c (.int .i64 KK))] [] 78 rfl (by kernel_rfl) (by kernel_rfl) ?s2 ?_
  case s2 =>
    intro iq oq pq hiq hoq hpq ρ ev W S hE hO ec ef hB hft hΦ
    have e1 : ev (.tmp 1) = .slice B nb cb := hO 1 rfl
    have e5 : ev (.tmp 5) = .pointer (some ⟨g5, 0, none⟩) := hO 5 rfl
    have mg5_1' := pw_cell_below hB mg5_1
    simp only [Reg.SV, val_ln] at hE
    obtain ⟨e11, e12, e13, e14, e15, e7, _⟩ := hE
    rcases Reg.lt6 hiq with rfl | rfl | rfl | rfl | rfl | rfl
    all_goals (cases hoq; cases hpq)
    rotate_left 3
    · refine Reg.D.cc (g := 36) (args := #[.slice B nb cb, .int .i64 p]) hB (by go_simp; try rfl) ?_
      exact HK.out W (below_step HX.out.below hB)
    rotate_right 3
    all_goals (first | exact Reg.D.mv hB | skip)
    all_goals (refine Reg.D.cv hB ?_; go_simp; try (first | done | rfl | (exact hKK) | (exact hd3) | (exact hI) | (exact hp2) | (exact hp7) | (exact hnm) | (simp; done)))
  intro ρ W1 S hB hft hap hΦ
  simp only [Reg.SV, val_ln, Reg.SF, Nat.reduceAdd]
  have HX := Aside0.mk (HX.out.call hB)
  clear hΦ hft hap mg5_1
  go_upto_region 2 with (fail)
  try simp only [Reg.SF]
  refine Reg.det [(some 16, Reg.Dv.blk 16 9 4 #[.string (⟨#[32]⟩ : ByteArray), .string (⟨#[44]⟩ : ByteArray), .string (⟨#[46]⟩ : ByteArray), .string (⟨#[97]⟩ : ByteArray)]), (some 17, Reg.Dv.c (.int .i64 KK)), (some 18, Reg.Dv.c (.int .i64 (Int.tdiv KK 3))), (some 19, Reg.Dv.c (.int .i64 (I : Int))), (some 20, Reg.Dv.u [16] (fun l => elemPtr (l.headD undef) I)), (some 21, Reg.Dv.c (.string SP)), (some 8, Reg.Dv.c (.string SP))] [] 78 rfl (by kernel_rfl) (by kernel_rfl) ?s3 ?_
  case s3 =>
    intro iq oq pq hiq hoq hpq ρ ev W S hE hO ec ef hB hft hΦ
    have e7 : ev (.tmp 7) = .int .i64 KK := hO 7 rfl
    simp only [Reg.SV, val_ln] at hE
    obtain ⟨e16, e17, e18, e19, e20, e21, e8, _⟩ := hE
    rcases Reg.lt7 hiq with rfl | rfl | rfl | rfl | rfl | rfl | rfl
    all_goals (cases hoq; cases hpq)
    rotate_left 5
    · obtain ⟨gb, h16, _, _, _, hb16⟩ := hΦ 0 _ rfl rfl rfl
      replace h16 : ρ 16 = .slice (some ⟨gb, 0, none⟩) 4 4 := h16
      have hc16 : W.cell? ⟨gb, I, none⟩ = some (.string SP) := (blk_cell hb16 I).trans hSP
      rw [h16] at e20
      change ev (.tmp 20) = .pointer (some ⟨gb, 0 + I, none⟩) at e20
      refine Reg.D.cv hB ?_
      go_simp
    rotate_right 5
    rotate_left 4
    · obtain ⟨_, h16, _⟩ := hΦ 0 _ rfl rfl rfl
      replace h16 : ρ 16 = _ := h16
      refine Reg.D.uv hB ?_
      go_simp
      try (first | done | rfl | (exact hd3) | (exact hI) | (rw [h16]; rfl) | (rw [if_pos (show (I : Int) < 4 by omega)]; simp [elemPtr]; done) | (simp [h16, elemPtr, hI4]; done) | (simp; done))
    rotate_right 4
    · refine Reg.D.blk hB ?_
      go_simp
      try (first | rfl | exact ⟨rfl, rfl⟩)
    all_goals (first | exact Reg.D.mv hB | skip)
    all_goals (refine Reg.D.cv hB ?_; go_simp; try (first | done | rfl | (exact hd3) | (exact hI) | (rw [h16]; rfl) | (rw [if_pos (show (I : Int) < 4 by omega)]; simp [elemPtr]; done) | (simp [h16, elemPtr, hI4]; done) | (simp; done)))
  intro ρ W2 S hB hft hap hΦ
  simp only [Reg.SV, val_ln, Reg.SF, Nat.reduceAdd]
  obtain ⟨g16, e16, s16, hg16, _, b16⟩ := hΦ 0 _ rfl rfl
  replace e16 : ρ 16 = .slice (some ⟨g16, 0, none⟩) 4 4 := e16
  try simp only [e16]
  replace b16 : W2.heap[g16]? = some (.cells #[.string (⟨#[32]⟩ : ByteArray), .string (⟨#[44]⟩ : ByteArray), .string (⟨#[46]⟩ : ByteArray), .string (⟨#[97]⟩ : ByteArray)] 9 (0, 0)) := b16
  have HX := Aside0.mk (HX.out.join (Bxs.one hB hg16 b16))
  clear hΦ hft hap 
  have hw2 := HX.out.below.size
  have g6lt := blk_lt (HX.out.at 1 rfl)
  go_upto_region 3 with (fail)
  try simp only [Reg.SF]
  have mg5_0 : _ = some (.int .i64 n : Value) := HX.out.cell 2 0 rfl rfl
  have mg5_1 : _ = some (.int .i64 p : Value) := HX.out.cell 2 1 rfl rfl
  refine Reg.det [(some 22, Reg.Dv.c (.slice A0 l0.length c0)), (some 23, Reg.Dv.c (.slice B nb cb)), (some 24, Reg.Dv.c (.pointer (some ⟨g5, 0, none⟩))), (some 25, Reg.Dv.c (.int .i64 n)), (some 26, Reg.Dv.c (.int .i64 nm)), (some 27, Reg.Dv.c (.pointer (some ⟨g5, 1, none⟩))), (some 28, Reg.Dv.c (.int .i64 p)), (some 29, Reg.Dv.c (.int .i64 p2)), (some 30, Reg.Dv.c (.agg #[.int .i64 nm, .int .i64 p2])), (some 31, lnDv 31 Px), (some 32, Reg.Dv.c (.slice A0 l0.length c0)), (some 33, Reg.Dv.c (.slice B nb cb)), (some 34, Reg.Dv.c (.pointer (some ⟨g5, 0, none⟩))), (some 35, Reg.Dv.c (.int .i64 n)), (some 36, Reg.Dv.c (.int .i64 nm)), (some 37, Reg.Dv.c (.pointer (some ⟨g5, 1, none⟩))), (some 38, Reg.Dv.c (.int .i64 p)), (some 39, Reg.Dv.c (.int .i64 p7)), (some 40, Reg.Dv.c (.agg #[.int .i64 nm, .int .i64 p7])), (some 41, lnDv 41 Px), (some 9, Reg.Dv.box 9 29 (fun _ => #[.int .i64 0, .int .i64 0, .int .i64 0, .string (⟨#[]⟩ : ByteArray), .slice none 0 0]) [] true), (some 10, Reg.Dv.box 10 29 (fun _ => #[.int .i64 0, .int .i64 0, .int .i64 0, .string (⟨#[]⟩ : ByteArray), .slice none 0 0]) [] true), (none, Reg.Dv.box 9 29 (fun l => (l.headD undef).cells) [31] false), (none, Reg.Dv.box 10 29 (fun l => (l.headD undef).cells) [41] false)] [(20, 22), (21, 23)] 78 rfl (by kernel_rfl) (by kernel_rfl) ?s4 ?_
  case s4 =>
    intro iq oq pq hiq hoq hpq ρ ev W S hE hO ec ef hB hft hΦ
    have e0 : ev (.tmp 0) = .slice A0 l0.length c0 := hO 0 rfl
    have e1 : ev (.tmp 1) = .slice B nb cb := hO 1 rfl
    have e5 : ev (.tmp 5) = .pointer (some ⟨g5, 0, none⟩) := hO 5 rfl
    have mg5_0' := pw_cell_below hB mg5_0
    have mg5_1' := pw_cell_below hB mg5_1
    simp only [Reg.SV, val_ln] at hE
    obtain ⟨e22, e23, e24, e25, e26, e27, e28, e29, e30, e31, e32, e33, e34, e35, e36, e37, e38, e39, e40, e41, e9, e10, _⟩ := hE
    rcases Reg.lt24 hiq with rfl | rfl | rfl | rfl | rfl | rfl | rfl | rfl | rfl | rfl | rfl | rfl | rfl | rfl | rfl | rfl | rfl | rfl | rfl | rfl | rfl | rfl | rfl | rfl
    all_goals (cases hoq; cases hpq)
    rotate_left 23
    · obtain ⟨xx, vv, h41, _, hr_⟩ := hΦ 19 _ rfl rfl rfl
      obtain ⟨Ag, cg, hv_⟩ := Kd.R_slice hr_
      subst hv_
      replace h41 : ρ 41 = .agg #[.int .i64 xx.f0, .int .i64 xx.f1, .int .i64 xx.f2, .string xx.f3, .slice Ag xx.f4.length cg] := h41
      exact Reg.DStep.fill (us := [41]) (cs := fun l => (l.headD undef).cells) 21 (by decide) 29 (.tmp 10) (.tmp 41) rfl (by first | exact .inl rfl | exact .inr ⟨_, _, _, rfl, rfl, (by assumption)⟩) hB e10 (by rw [e41]; show ρ 41 = .agg (Value.cells (ρ 41)); rw [h41]; rfl) (hΦ 21 _ rfl rfl rfl) (by show _ = some (Value.cells (ρ 41)).size; rw [h41]; exact info29a) (by show _ = (Value.cells (ρ 41)).size; rw [h41]; rfl) (by show ((Value.cells (ρ 41)).toList.all _) = true; rw [h41]; rfl)
    rotate_right 23
    rotate_left 22
    · obtain ⟨xx, vv, h31, _, hr_⟩ := hΦ 9 _ rfl rfl rfl
      obtain ⟨Ag, cg, hv_⟩ := Kd.R_slice hr_
      subst hv_
      replace h31 : ρ 31 = .agg #[.int .i64 xx.f0, .int .i64 xx.f1, .int .i64 xx.f2, .string xx.f3, .slice Ag xx.f4.length cg] := h31
      exact Reg.DStep.fill (us := [31]) (cs := fun l => (l.headD undef).cells) 20 (by decide) 29 (.tmp 9) (.tmp 31) rfl (by first | exact .inl rfl | exact .inr ⟨_, _, _, rfl, rfl, (by assumption)⟩) hB e9 (by rw [e31]; show ρ 31 = .agg (Value.cells (ρ 31)); rw [h31]; rfl) (hΦ 20 _ rfl rfl rfl) (by show _ = some (Value.cells (ρ 31)).size; rw [h31]; exact info29a) (by show _ = (Value.cells (ρ 31)).size; rw [h31]; rfl) (by show ((Value.cells (ρ 31)).toList.all _) = true; rw [h31]; rfl)
    rotate_right 22
    rotate_left 21
    · refine Reg.D.box hB ?_
      go_simp
      try rfl
    rotate_right 21
    rotate_left 20
    · refine Reg.D.box hB ?_
      go_simp
      try rfl
    rotate_right 20
    rotate_left 19
    · refine Reg.D.call (g := 31) (args := #[.slice A0 l0.length c0, .slice B nb cb, .agg #[.int .i64 nm, .int .i64 p7]]) (by go_simp; try rfl) ?_
      exact ln_step hB (HA7.out W (below_step HX.out.below hB))
    rotate_right 19
    rotate_left 9
    · refine Reg.D.call (g := 31) (args := #[.slice A0 l0.length c0, .slice B nb cb, .agg #[.int .i64 nm, .int .i64 p2]]) (by go_simp; try rfl) ?_
      exact ln_step hB (HA2.out W (below_step HX.out.below hB))
    rotate_right 9
    all_goals (first | exact Reg.D.mv hB | skip)
    all_goals (refine Reg.D.cv hB ?_; go_simp; try (first | done | rfl | (exact hp2) | (exact hp7) | (exact hnm) | (simp; done)))
  intro ρ W3 S hB hft hap hΦ
  simp only [Reg.SV, val_ln, Reg.SF, Nat.reduceAdd]
  obtain ⟨x9, v9, e31, P9, r9⟩ := hΦ 9 _ rfl rfl
  obtain ⟨A9, c9, ev9⟩ := Kd.R_slice r9
  subst ev9
  replace e31 : ρ 31 = .agg #[.int .i64 x9.f0, .int .i64 x9.f1, .int .i64 x9.f2, .string x9.f3, .slice A9 x9.f4.length c9] := e31
  have RX9 := Aside0.mk (Kd.R_mono (ok' := fun k => S 9 k ∧ W2.heap.size ≤ k) (Kd.R_bound r9) (fun k hk => ⟨hk.1, hk.2.1⟩))
  clear r9
  obtain ⟨x10, v10, e41, P10, r10⟩ := hΦ 19 _ rfl rfl
  obtain ⟨A10, c10, ev10⟩ := Kd.R_slice r10
  subst ev10
  replace e41 : ρ 41 = .agg #[.int .i64 x10.f0, .int .i64 x10.f1, .int .i64 x10.f2, .string x10.f3, .slice A10 x10.f4.length c10] := e41
  have RX10 := Aside0.mk (Kd.R_mono (ok' := fun k => S 19 k ∧ W2.heap.size ≤ k) (Kd.R_bound r10) (fun k hk => ⟨hk.1, hk.2.1⟩))
  clear r10
  obtain ⟨g9, e9, s9, hg9, _, b9⟩ := hΦ 22 _ rfl rfl
  replace e9 : ρ 9 = .pointer (some ⟨g9, 0, none⟩) := e9
  obtain ⟨g10, e10, s10, hg10, _, b10⟩ := hΦ 23 _ rfl rfl
  replace e10 : ρ 10 = .pointer (some ⟨g10, 0, none⟩) := e10
  replace b9 : W3.heap[g9]? = some (.cells (Value.cells (ρ 31)) 29 (0, 0)) := b9
  rw [e31] at b9
  replace b10 : W3.heap[g10]? = some (.cells (Value.cells (ρ 41)) 29 (0, 0)) := b10
  rw [e41] at b10
  try simp only [e31, e41, e9, e10]
  replace b9 : W3.heap[g9]? = some (.cells #[.int .i64 x9.f0, .int .i64 x9.f1, .int .i64 x9.f2, .string x9.f3, .slice A9 x9.f4.length c9] 29 (0, 0)) := b9
  replace b10 : W3.heap[g10]? = some (.cells #[.int .i64 x10.f0, .int .i64 x10.f1, .int .i64 x10.f2, .string x10.f3, .slice A10 x10.f4.length c10] 29 (0, 0)) := b10
  have HX := Aside0.mk (HX.out.join ((Bxs.one hB hg9 b9).more hg10 b10 (by intro p hp; simp only [List.mem_cons, List.mem_singleton, List.not_mem_nil, or_false] at hp; rcases hp with rfl <;> (intro e; dsimp only at e; subst e; first | exact absurd (hap _ _ _ s9 s10) (by decide)))))
  replace RX9 := Aside0.mk (Kd.R_mono (ok' := fun k => k ≠ g9 ∧ k ≠ g10 ∧ W2.heap.size ≤ k) RX9.out (fun k hk => ⟨fun e => by subst e; exact absurd (hap _ _ _ hk.1 s9) (by decide), fun e => by subst e; exact absurd (hap _ _ _ hk.1 s10) (by decide), hk.2⟩))
  replace RX10 := Aside0.mk (Kd.R_mono (ok' := fun k => k ≠ g9 ∧ k ≠ g10 ∧ W2.heap.size ≤ k) RX10.out (fun k hk => ⟨fun e => by subst e; exact absurd (hap _ _ _ hk.1 s9) (by decide), fun e => by subst e; exact absurd (hap _ _ _ hk.1 s10) (by decide), hk.2⟩))
  clear hΦ hft hap mg5_0 mg5_1
  obtain ⟨⟨u0, u1, u2⟩, hT9, hG9⟩ := hPT _ P9
  obtain ⟨⟨v0, v1, v2⟩, hT10, hG10⟩ := hPT _ P10
  clear P9 P10 HK HA2 HA7
  obtain ⟨c46, hc46⟩ : ∃ b, (u0 != 3) = b := ⟨_, rfl⟩
  have C46 := Aside0.mk hc46
  clear hc46
  obtain ⟨c52, hc52⟩ : ∃ b, (v0 != 3) = b := ⟨_, rfl⟩
  have C52 := Aside0.mk hc52
  clear hc52
  go_upto_region 4 with (fail)
  try simp only [Reg.SF]
  have mg9_0 : _ = some (.int .i64 x9.f0 : Value) := HX.out.cell 1 0 rfl rfl
  have mg9_1 : _ = some (.int .i64 x9.f1 : Value) := HX.out.cell 1 1 rfl rfl
  have mg9_2 : _ = some (.int .i64 x9.f2 : Value) := HX.out.cell 1 2 rfl rfl
  have mg9_3 : _ = some (.string x9.f3 : Value) := HX.out.cell 1 3 rfl rfl
  have mg9_4 : _ = some (.slice A9 x9.f4.length c9 : Value) := HX.out.cell 1 4 rfl rfl
  refine Reg.det [(some 42, Reg.Dv.c (.slice A0 l0.length c0)), (some 43, Reg.Dv.c (.agg #[.int .i64 x9.f0, .int .i64 x9.f1, .int .i64 x9.f2, .string x9.f3, .slice A9 x9.f4.length c9])), (some 44, Reg.Dv.c (.agg #[.int .i64 u0, .int .i64 u1, .bool u2])), (some 45, Reg.Dv.c (.int .i64 u0)), (some 46, Reg.Dv.c (.bool c46))] [] 78 rfl (by kernel_rfl) (by kernel_rfl) ?s5 ?_
  case s5 =>
    intro iq oq pq hiq hoq hpq ρ ev W S hE hO ec ef hB hft hΦ
    have e0 : ev (.tmp 0) = .slice A0 l0.length c0 := hO 0 rfl
    have e9 : ev (.tmp 9) = .pointer (some ⟨g9, 0, none⟩) := hO 9 rfl
    have mg9_0' := pw_cell_below hB mg9_0
    have mg9_1' := pw_cell_below hB mg9_1
    have mg9_2' := pw_cell_below hB mg9_2
    have mg9_3' := pw_cell_below hB mg9_3
    have mg9_4' := pw_cell_below hB mg9_4
    simp only [Reg.SV, val_ln] at hE
    obtain ⟨e42, e43, e44, e45, e46, _⟩ := hE
    rcases Reg.lt5 hiq with rfl | rfl | rfl | rfl | rfl
    all_goals (cases hoq; cases hpq)
    rotate_left 2
    · refine Reg.D.cc (g := 16) (args := #[.slice A0 l0.length c0, .agg #[.int .i64 x9.f0, .int .i64 x9.f1, .int .i64 x9.f2, .string x9.f3, .slice A9 x9.f4.length c9]]) hB (by go_simp; try rfl) ?_
      exact TypeR_calls l0 x9 ⟨u0, u1, u2⟩ hT9 A0 c0 A9 c9 W hc0 (Kd.C_below hr0 (below_step HX.out.below hB)) (Kd.R_reads' RX9.out).2.1 (Kd.C_below (Kd.R_reads' RX9.out).2.2 hB)
    rotate_right 2
    all_goals (first | exact Reg.D.mv hB | skip)
    all_goals (refine Reg.D.cv hB ?_; go_simp; try (first | done | rfl | (simp [C46.out]; done) | (rw [← C46.out]; simp; done) | (rw [← C46.out, decide_not]; rfl) | (simp; omega)))
  intro ρ W4 S hB hft hap hΦ
  simp only [Reg.SV, val_ln, Reg.SF, Nat.reduceAdd]
  have HX := Aside0.mk (HX.out.call hB)
  replace RX9 := Aside0.mk (Kd.R_below RX9.out hB)
  replace RX10 := Aside0.mk (Kd.R_below RX10.out hB)
  clear hΦ hft hap mg9_0 mg9_1 mg9_2 mg9_3 mg9_4
  go_upto_if 46 with (fail)
  go_cut [] (fun wd => ∃ (X : S29) (AX : Option Addr) (cX : Nat) (U : S49), Aside0 (Bxs w wd [(g10, 29, #[.int .i64 x10.f0, .int .i64 x10.f1, .int .i64 x10.f2, .string x10.f3, .slice A10 x10.f4.length c10]), (g9, 29, #[.int .i64 X.f0, .int .i64 X.f1, .int .i64 X.f2, .string X.f3, .slice AX X.f4.length cX]), (g16, 9, #[.string (⟨#[32]⟩ : ByteArray), .string (⟨#[44]⟩ : ByteArray), .string (⟨#[46]⟩ : ByteArray), .string (⟨#[97]⟩ : ByteArray)]), (g6, 29, #[.int .i64 0, .int .i64 0, .int .i64 0, .string (⟨#[]⟩ : ByteArray), .slice none 0 0]), (g5, 72, #[.int .i64 n, .int .i64 p])]) ∧ Aside0 (Kd.R k29 29 wd W2.heap.size (fun k => k ≠ g9 ∧ k ≠ g10 ∧ W2.heap.size ≤ k) (.slice AX X.f4.length cX) X.f4) ∧ Aside0 (Kd.R k29 29 wd W2.heap.size (fun k => k ≠ g9 ∧ k ≠ g10 ∧ W2.heap.size ≤ k) (.slice A10 x10.f4.length c10) x10.f4) ∧ Aside0 (Gd X U ∧ U.f0 = 3 ∧ toR l0 X U))
  case first =>
    cases c46 with
    | false =>
      go_wp2_with fail
      go_meet
      case rel => exact ⟨x9, A9, c9, ⟨u0, u1, u2⟩, HX, RX9, RX10, ⟨hG9, by have := C46.out; simpa using this, hT9⟩⟩
    | true =>
      go_upto_region 5 with (fail)
      try simp only [Reg.SF]
      refine Reg.det [(some 47, Reg.Dv.c (.agg #[.int .i64 1, .int .i64 1, .int .i64 0, .string (⟨#[]⟩ : ByteArray), .slice none 0 0]))] [] 78 rfl (by kernel_rfl) (by kernel_rfl) ?s6 ?_
      case s6 =>
        intro iq oq pq hiq hoq hpq ρ ev W S hE hO ec ef hB hft hΦ
        simp only [Reg.SV, val_ln] at hE
        obtain ⟨e47, _⟩ := hE
        obtain rfl : iq = 0 := by have : iq < 1 := hiq; omega
        cases hoq; cases hpq
        all_goals (refine Reg.D.cv hB ?_; go_simp; try (first | done | rfl | (simp; done) | (intro h; omega)))
      intro ρ W5 S hB hft hap hΦ
      simp only [Reg.SV, val_ln, Reg.SF, Nat.reduceAdd]
      have HX := Aside0.mk (HX.out.call hB)
      replace RX9 := Aside0.mk (Kd.R_below RX9.out hB)
      replace RX10 := Aside0.mk (Kd.R_below RX10.out hB)
      clear hΦ hft hap 
      refine bx_putB (w := w) rfl 29 (.tmp 9) (.tmp 47) rfl rfl (L1 := [_]) (cells := #[.int .i64 1, .int .i64 1, .int .i64 0, .string (⟨#[]⟩ : ByteArray), .slice none 0 0]) HX.out rfl rfl (by kernel_rfl) rfl rfl ?_
      intro W5s hx hput
      have HX := Aside0.mk hx
      replace RX10 := Aside0.mk (Kd.R_step RX10.out (fun k hk _ => hput k (by exact hk.1)))
      clear hx hput
      go_wp2_with fail
      go_meet
      case rel => exact ⟨⟨1, 1, 0, ⟨#[]⟩, []⟩, none, 0, ⟨3, 0, false⟩, HX, ⟨R_none⟩, RX10, ⟨hGT, rfl, hTT⟩⟩
  clear HX RX9 RX10
  obtain ⟨X, AX, cX, ⟨t0, t1, t2⟩, HX, RXX, RX10, HXG⟩ := hcut
  generalize wc = W5c at *
  go_upto_region 6 with (fail)
  try simp only [Reg.SF]
  have mg10_0 : _ = some (.int .i64 x10.f0 : Value) := HX.out.cell 0 0 rfl rfl
  have mg10_1 : _ = some (.int .i64 x10.f1 : Value) := HX.out.cell 0 1 rfl rfl
  have mg10_2 : _ = some (.int .i64 x10.f2 : Value) := HX.out.cell 0 2 rfl rfl
  have mg10_3 : _ = some (.string x10.f3 : Value) := HX.out.cell 0 3 rfl rfl
  have mg10_4 : _ = some (.slice A10 x10.f4.length c10 : Value) := HX.out.cell 0 4 rfl rfl
  refine Reg.det [(some 48, Reg.Dv.c (.slice A0 l0.length c0)), (some 49, Reg.Dv.c (.agg #[.int .i64 x10.f0, .int .i64 x10.f1, .int .i64 x10.f2, .string x10.f3, .slice A10 x10.f4.length c10])), (some 50, Reg.Dv.c (.agg #[.int .i64 v0, .int .i64 v1, .bool v2])), (some 51, Reg.Dv.c (.int .i64 v0)), (some 52, Reg.Dv.c (.bool c52))] [] 78 rfl (by kernel_rfl) (by kernel_rfl) ?s7 ?_
  case s7 =>
    intro iq oq pq hiq hoq hpq ρ ev W S hE hO ec ef hB hft hΦ
    have e0 : ev (.tmp 0) = .slice A0 l0.length c0 := hO 0 rfl
    have e10 : ev (.tmp 10) = .pointer (some ⟨g10, 0, none⟩) := hO 10 rfl
    have mg10_0' := pw_cell_below hB mg10_0
    have mg10_1' := pw_cell_below hB mg10_1
    have mg10_2' := pw_cell_below hB mg10_2
    have mg10_3' := pw_cell_below hB mg10_3
    have mg10_4' := pw_cell_below hB mg10_4
    simp only [Reg.SV, val_ln] at hE
    obtain ⟨e48, e49, e50, e51, e52, _⟩ := hE
    rcases Reg.lt5 hiq with rfl | rfl | rfl | rfl | rfl
    all_goals (cases hoq; cases hpq)
    rotate_left 2
    · refine Reg.D.cc (g := 16) (args := #[.slice A0 l0.length c0, .agg #[.int .i64 x10.f0, .int .i64 x10.f1, .int .i64 x10.f2, .string x10.f3, .slice A10 x10.f4.length c10]]) hB (by go_simp; try rfl) ?_
      exact TypeR_calls l0 x10 ⟨v0, v1, v2⟩ hT10 A0 c0 A10 c10 W hc0 (Kd.C_below hr0 (below_step HX.out.below hB)) (Kd.R_reads' RX10.out).2.1 (Kd.C_below (Kd.R_reads' RX10.out).2.2 hB)
    rotate_right 2
    all_goals (first | exact Reg.D.mv hB | skip)
    all_goals (refine Reg.D.cv hB ?_; go_simp; try (first | done | rfl | (simp [C52.out]; done) | (rw [← C52.out]; simp; done) | (rw [← C52.out, decide_not]; rfl) | (simp; omega)))
  intro ρ W6 S hB hft hap hΦ
  simp only [Reg.SV, val_ln, Reg.SF, Nat.reduceAdd]
  have HX := Aside0.mk (HX.out.call hB)
  replace RXX := Aside0.mk (Kd.R_below RXX.out hB)
  replace RX10 := Aside0.mk (Kd.R_below RX10.out hB)
  clear hΦ hft hap mg10_0 mg10_1 mg10_2 mg10_3 mg10_4
  go_upto_if 52 with (fail)
  go_cut [] (fun wd => ∃ (Y : S29) (AY : Option Addr) (cY : Nat), Aside0 (Bxs w wd [(g10, 29, #[.int .i64 Y.f0, .int .i64 Y.f1, .int .i64 Y.f2, .string Y.f3, .slice AY Y.f4.length cY]), (g9, 29, #[.int .i64 X.f0, .int .i64 X.f1, .int .i64 X.f2, .string X.f3, .slice AX X.f4.length cX]), (g16, 9, #[.string (⟨#[32]⟩ : ByteArray), .string (⟨#[44]⟩ : ByteArray), .string (⟨#[46]⟩ : ByteArray), .string (⟨#[97]⟩ : ByteArray)]), (g6, 29, #[.int .i64 0, .int .i64 0, .int .i64 0, .string (⟨#[]⟩ : ByteArray), .slice none 0 0]), (g5, 72, #[.int .i64 n, .int .i64 p])]) ∧ Aside0 (Kd.R k29 29 wd W2.heap.size (fun k => k ≠ g9 ∧ k ≠ g10 ∧ W2.heap.size ≤ k) (.slice AX X.f4.length cX) X.f4) ∧ Aside0 (Kd.R k29 29 wd W2.heap.size (fun k => k ≠ g9 ∧ k ≠ g10 ∧ W2.heap.size ≤ k) (.slice AY Y.f4.length cY) Y.f4) ∧ Aside0 (∃ V, Gd Y V ∧ V.f0 = 3))
  case first =>
    cases c52 with
    | false =>
      go_wp2_with fail
      go_meet
      case rel => exact ⟨x10, A10, c10, HX, RXX, RX10, ⟨_, hG10, by have := C52.out; simpa using this⟩⟩
    | true =>
      go_upto_region 7 with (fail)
      try simp only [Reg.SF]
      refine Reg.det [(some 53, Reg.Dv.c (.int .i64 KK)), (some 54, Reg.Dv.c (.int .i64 SC)), (some 55, Reg.Dv.c (.agg #[.int .i64 3, .int .i64 0, .int .i64 SC, .string (⟨#[]⟩ : ByteArray), .slice none 0 0]))] [] 78 rfl (by kernel_rfl) (by kernel_rfl) ?s8 ?_
      case s8 =>
        intro iq oq pq hiq hoq hpq ρ ev W S hE hO ec ef hB hft hΦ
        have e7 : ev (.tmp 7) = .int .i64 KK := hO 7 rfl
        simp only [Reg.SV, val_ln] at hE
        obtain ⟨e53, e54, e55, _⟩ := hE
        rcases Reg.lt3 hiq with rfl | rfl | rfl
        all_goals (cases hoq; cases hpq)
        all_goals (first | exact Reg.D.mv hB | skip)
        all_goals (refine Reg.D.cv hB ?_; go_simp; try (first | done | rfl | (exact hS) | (simp [hS]; done)))
      intro ρ W7 S hB hft hap hΦ
      simp only [Reg.SV, val_ln, Reg.SF, Nat.reduceAdd]
      have HX := Aside0.mk (HX.out.call hB)
      replace RXX := Aside0.mk (Kd.R_below RXX.out hB)
      replace RX10 := Aside0.mk (Kd.R_below RX10.out hB)
      clear hΦ hft hap 
      refine bx_putB (w := w) rfl 29 (.tmp 10) (.tmp 55) rfl rfl (L1 := []) (cells := #[.int .i64 3, .int .i64 0, .int .i64 SC, .string (⟨#[]⟩ : ByteArray), .slice none 0 0]) HX.out rfl rfl (by kernel_rfl) rfl rfl ?_
      intro W7s hx hput
      have HX := Aside0.mk hx
      replace RXX := Aside0.mk (Kd.R_step RXX.out (fun k hk _ => hput k (by exact hk.2.1)))
      clear hx hput
      go_wp2_with fail
      go_meet
      case rel => exact ⟨⟨3, 0, SC, ⟨#[]⟩, []⟩, none, 0, HX, RXX, ⟨R_none⟩, ⟨SU, hGS⟩⟩
  clear HX RX10 RXX
  obtain ⟨Y, AY, cY, HX, RXX, RXY, HYG⟩ := hcut
  generalize wc = W7c at *
  obtain ⟨M, hM⟩ : ∃ M, Int.tmod KK 3 = M := ⟨_, rfl⟩
  rw [hM] at hmode
  obtain ⟨c58, hc58⟩ : ∃ b, decide (M < 2) = b := ⟨_, rfl⟩
  have C58 := Aside0.mk hc58
  clear hc58
  go_upto_region 8 with (fail)
  try simp only [Reg.SF]
  refine Reg.det [(some 56, Reg.Dv.c (.int .i64 KK)), (some 57, Reg.Dv.c (.int .i64 M)), (some 58, Reg.Dv.c (.bool c58))] [] 78 rfl (by kernel_rfl) (by kernel_rfl) ?s9 ?_
  case s9 =>
    intro iq oq pq hiq hoq hpq ρ ev W S hE hO ec ef hB hft hΦ
    have e7 : ev (.tmp 7) = .int .i64 KK := hO 7 rfl
    simp only [Reg.SV, val_ln] at hE
    obtain ⟨e56, e57, e58, _⟩ := hE
    rcases Reg.lt3 hiq with rfl | rfl | rfl
    all_goals (cases hoq; cases hpq)
    all_goals (first | exact Reg.D.mv hB | skip)
    all_goals (refine Reg.D.cv hB ?_; go_simp; try (first | done | rfl | (exact hM) | (simp [C58.out]; done) | (simp [hM]; done)))
  intro ρ W8 S hB hft hap hΦ
  simp only [Reg.SV, val_ln, Reg.SF, Nat.reduceAdd]
  have HX := Aside0.mk (HX.out.call hB)
  replace RXX := Aside0.mk (Kd.R_below RXX.out hB)
  replace RXY := Aside0.mk (Kd.R_below RXY.out hB)
  clear hΦ hft hap 
  cases c58 with
  | true =>
    obtain ⟨J, KD, hJ, hJ2, hKD, hKQ⟩ := two45 (of_decide_eq_true C58.out) hmode
    have RBX := Aside0.mk (Kd.R_mono (ok' := fun k => (k ≠ g9 ∧ k ≠ g10 ∧ W2.heap.size ≤ k) ∧ k < W8.heap.size) (Kd.R_bound RXX.out) (fun k hk => ⟨hk.1, hk.2.2.1⟩))
    have RBY := Aside0.mk (Kd.R_mono (ok' := fun k => (k ≠ g9 ∧ k ≠ g10 ∧ W2.heap.size ≤ k) ∧ k < W8.heap.size) (Kd.R_bound RXY.out) (fun k hk => ⟨hk.1, hk.2.2.1⟩))
    go_upto_region 9 with (fail)
    try simp only [Reg.SF]
    have mg9_0 : _ = some (.int .i64 X.f0 : Value) := HX.out.cell 1 0 rfl rfl
    have mg9_1 : _ = some (.int .i64 X.f1 : Value) := HX.out.cell 1 1 rfl rfl
    have mg9_2 : _ = some (.int .i64 X.f2 : Value) := HX.out.cell 1 2 rfl rfl
    have mg9_3 : _ = some (.string X.f3 : Value) := HX.out.cell 1 3 rfl rfl
    have mg9_4 : _ = some (.slice AX X.f4.length cX : Value) := HX.out.cell 1 4 rfl rfl
    refine Reg.det [(some 59, Reg.Dv.blk 59 3 2 #[.int .i64 4, .int .i64 5]), (some 60, Reg.Dv.c (.int .i64 KK)), (some 61, Reg.Dv.c (.int .i64 (J : Int))), (some 62, Reg.Dv.u [59] (fun l => elemPtr (l.headD undef) J)), (some 63, Reg.Dv.c (.int .i64 KD)), (some 64, Reg.Dv.c (.string SP)), (some 65, Reg.Dv.c (.agg #[.int .i64 X.f0, .int .i64 X.f1, .int .i64 X.f2, .string X.f3, .slice AX X.f4.length cX])), (some 66, Reg.Dv.blk 66 29 1 #[.int .i64 X.f0, .int .i64 X.f1, .int .i64 X.f2, .string X.f3, .slice AX X.f4.length cX]), (some 67, Reg.Dv.u [66] (fun l => .agg #[.int .i64 KD, .int .i64 0, .int .i64 0, .string SP, (l.headD undef)]))] [] 78 rfl (by kernel_rfl) (by kernel_rfl) ?s10 ?_
    case s10 =>
      intro iq oq pq hiq hoq hpq ρ ev W S hE hO ec ef hB hft hΦ
      have e7 : ev (.tmp 7) = .int .i64 KK := hO 7 rfl
      have e8 : ev (.tmp 8) = .string SP := hO 8 rfl
      have e9 : ev (.tmp 9) = .pointer (some ⟨g9, 0, none⟩) := hO 9 rfl
      have mg9_0' := pw_cell_below hB mg9_0
      have mg9_1' := pw_cell_below hB mg9_1
      have mg9_2' := pw_cell_below hB mg9_2
      have mg9_3' := pw_cell_below hB mg9_3
      have mg9_4' := pw_cell_below hB mg9_4
      simp only [Reg.SV, val_ln] at hE
      obtain ⟨e59, e60, e61, e62, e63, e64, e65, e66, e67, _⟩ := hE
      rcases Reg.lt9 hiq with rfl | rfl | rfl | rfl | rfl | rfl | rfl | rfl | rfl
      all_goals (cases hoq; cases hpq)
      rotate_left 8
      · obtain ⟨_, h66, _⟩ := hΦ 7 _ rfl rfl rfl
        replace h66 : ρ 66 = _ := h66
        refine Reg.D.uv hB ?_
        go_simp
        try (first | done | rfl | (rw [hM, hJ]; done) | (rw [hM]; exact congrArg _ hJ) | (rw [h59]; rfl) | (rw [if_pos (show (J : Int) < 2 by omega)]; simp [elemPtr]; done) | (simp [hM, hJ]; done) | (simp [h59, elemPtr]; done))
      rotate_right 8
      rotate_left 7
      · refine Reg.D.blk hB ?_
        go_simp
        try (first | rfl | exact ⟨rfl, rfl⟩)
      rotate_right 7
      rotate_left 4
      · obtain ⟨gb, h59, _, _, _, hb59⟩ := hΦ 0 _ rfl rfl rfl
        replace h59 : ρ 59 = .slice (some ⟨gb, 0, none⟩) 2 2 := h59
        have hc59 : W.cell? ⟨gb, J, none⟩ = some (.int .i64 KD) := (blk_cell hb59 J).trans hKD
        rw [h59] at e62
        change ev (.tmp 62) = .pointer (some ⟨gb, 0 + J, none⟩) at e62
        refine Reg.D.cv hB ?_
        go_simp
      rotate_right 4
      rotate_left 3
      · obtain ⟨_, h59, _⟩ := hΦ 0 _ rfl rfl rfl
        replace h59 : ρ 59 = _ := h59
        refine Reg.D.uv hB ?_
        go_simp
        try (first | done | rfl | (rw [hM, hJ]; done) | (rw [hM]; exact congrArg _ hJ) | (rw [h59]; rfl) | (rw [if_pos (show (J : Int) < 2 by omega)]; simp [elemPtr]; done) | (simp [hM, hJ]; done) | (simp [h59, elemPtr]; done))
      rotate_right 3
      · refine Reg.D.blk hB ?_
        go_simp
        try (first | rfl | exact ⟨rfl, rfl⟩)
      all_goals (first | exact Reg.D.mv hB | skip)
      all_goals (refine Reg.D.cv hB ?_; go_simp; try (first | done | rfl | (rw [hM, hJ]; done) | (rw [hM]; exact congrArg _ hJ) | (rw [h59]; rfl) | (rw [if_pos (show (J : Int) < 2 by omega)]; simp [elemPtr]; done) | (simp [hM, hJ]; done) | (simp [h59, elemPtr]; done)))
    intro ρ W9 S hB hft hap hΦ
    simp only [Reg.SV, val_ln, Reg.SF, Nat.reduceAdd]
    obtain ⟨g59, e59, s59, hg59, _, b59⟩ := hΦ 0 _ rfl rfl
    replace e59 : ρ 59 = .slice (some ⟨g59, 0, none⟩) 2 2 := e59
    obtain ⟨g66, e66, s66, hg66, _, b66⟩ := hΦ 7 _ rfl rfl
    replace e66 : ρ 66 = .slice (some ⟨g66, 0, none⟩) 1 1 := e66
    try simp only [e59, e66]
    replace b59 : W9.heap[g59]? = some (.cells #[.int .i64 4, .int .i64 5] 3 (0, 0)) := b59
    replace b66 : W9.heap[g66]? = some (.cells #[.int .i64 X.f0, .int .i64 X.f1, .int .i64 X.f2, .string X.f3, .slice AX X.f4.length cX] 29 (0, 0)) := b66
    have HX := Aside0.mk (HX.out.join ((Bxs.one hB hg59 b59).more hg66 b66 (by intro p hp; simp only [List.mem_cons, List.mem_singleton, List.not_mem_nil, or_false] at hp; rcases hp with rfl <;> (intro e; dsimp only at e; subst e; first | exact absurd (hap _ _ _ s59 s66) (by decide)))))
    replace RXX := Aside0.mk (Kd.R_below RXX.out hB)
    replace RXY := Aside0.mk (Kd.R_below RXY.out hB)
    replace RBX := Aside0.mk (Kd.R_below RBX.out hB)
    replace RBY := Aside0.mk (Kd.R_below RBY.out hB)
    clear hΦ hft hap mg9_0 mg9_1 mg9_2 mg9_3 mg9_4
    refine bx_putB (w := w) rfl 29 (.tmp 6) (.tmp 67) rfl rfl (L1 := [_, _, _, _, _]) (cells := #[.int .i64 KD, .int .i64 0, .int .i64 0, .string SP, .slice (some ⟨g66, 0, none⟩) 1 1]) HX.out rfl rfl (by kernel_rfl) rfl rfl ?_
    intro W9s hx hput
    have HX := Aside0.mk hx
    replace RBX := Aside0.mk (Kd.R_step RBX.out (fun k hk _ => hput k (by have := hk.1.2.2; omega)))
    replace RBY := Aside0.mk (Kd.R_step RBY.out (fun k hk _ => hput k (by have := hk.1.2.2; omega)))
    clear hx hput
    go_wp2_with fail
    refine bodyPost_ret (results_cell_row rfl _ _ g6 29 #[.int .i64 KD, .int .i64 0, .int .i64 0, .string SP, .slice (some ⟨g66, 0, none⟩) 1 1] (0, 0) _ rfl (HX.out.at 5 rfl) hu2 rfl (by kernel_rfl)) rfl ?_
    exact ⟨⟨_, rfl, ⟨KD, 0, 0, SP, [X]⟩, _, rfl, hOne KD _ _ hKQ HXG.out.1 HXG.out.2.1, R_of_blk (HX.out.at 0 rfl) (HX.out.ge 0 rfl) trivial (Reps.c5 (k29_mkM _ _ _ X (Kd.R_lower (Kd.R_mono (ok' := fun j => True ∧ j ≠ g66) RBX.out (fun j hk => ⟨trivial, by have := hk.2; omega⟩)) hw2)) (Reps.none _ _)) (show (1 : Nat) ≤ 9223372036854775807 by decide)⟩, HX.out.below⟩
  | false =>
    go_upto_region 10 with (fail)
    try simp only [Reg.SF]
    have mg9_0 : _ = some (.int .i64 X.f0 : Value) := HX.out.cell 1 0 rfl rfl
    have mg9_1 : _ = some (.int .i64 X.f1 : Value) := HX.out.cell 1 1 rfl rfl
    have mg9_2 : _ = some (.int .i64 X.f2 : Value) := HX.out.cell 1 2 rfl rfl
    have mg9_3 : _ = some (.string X.f3 : Value) := HX.out.cell 1 3 rfl rfl
    have mg9_4 : _ = some (.slice AX X.f4.length cX : Value) := HX.out.cell 1 4 rfl rfl
    refine Reg.det [(some 68, Reg.Dv.c (.slice A0 l0.length c0)), (some 69, Reg.Dv.c (.agg #[.int .i64 X.f0, .int .i64 X.f1, .int .i64 X.f2, .string X.f3, .slice AX X.f4.length cX])), (some 70, Reg.Dv.c (.agg #[.int .i64 t0, .int .i64 t1, .bool t2])), (some 71, Reg.Dv.c (.bool t2))] [] 78 rfl (by kernel_rfl) (by kernel_rfl) ?s11 ?_
    case s11 =>
      intro iq oq pq hiq hoq hpq ρ ev W S hE hO ec ef hB hft hΦ
      have e0 : ev (.tmp 0) = .slice A0 l0.length c0 := hO 0 rfl
      have e9 : ev (.tmp 9) = .pointer (some ⟨g9, 0, none⟩) := hO 9 rfl
      have mg9_0' := pw_cell_below hB mg9_0
      have mg9_1' := pw_cell_below hB mg9_1
      have mg9_2' := pw_cell_below hB mg9_2
      have mg9_3' := pw_cell_below hB mg9_3
      have mg9_4' := pw_cell_below hB mg9_4
      simp only [Reg.SV, val_ln] at hE
      obtain ⟨e68, e69, e70, e71, _⟩ := hE
      rcases Reg.lt4 hiq with rfl | rfl | rfl | rfl
      all_goals (cases hoq; cases hpq)
      rotate_left 2
      · refine Reg.D.cc (g := 16) (args := #[.slice A0 l0.length c0, .agg #[.int .i64 X.f0, .int .i64 X.f1, .int .i64 X.f2, .string X.f3, .slice AX X.f4.length cX]]) hB (by go_simp; try rfl) ?_
        exact TypeR_calls l0 X ⟨t0, t1, t2⟩ HXG.out.2.2 A0 c0 AX cX W hc0 (Kd.C_below hr0 (below_step HX.out.below hB)) (Kd.R_reads' RXX.out).2.1 (Kd.C_below (Kd.R_reads' RXX.out).2.2 hB)
      rotate_right 2
      all_goals (first | exact Reg.D.mv hB | skip)
      all_goals (refine Reg.D.cv hB ?_; go_simp; try (first | done | rfl | (simp; done)))
    intro ρ W10 S hB hft hap hΦ
    simp only [Reg.SV, val_ln, Reg.SF, Nat.reduceAdd]
    have HX := Aside0.mk (HX.out.call hB)
    replace RXX := Aside0.mk (Kd.R_below RXX.out hB)
    replace RXY := Aside0.mk (Kd.R_below RXY.out hB)
    clear hΦ hft hap mg9_0 mg9_1 mg9_2 mg9_3 mg9_4
    go_upto_if 71 with (fail)
    go_cut [] (fun wd => ∃ (Z : S29) (AZ : Option Addr) (cZ : Nat), Aside0 (Bxs w wd [(g10, 29, #[.int .i64 Y.f0, .int .i64 Y.f1, .int .i64 Y.f2, .string Y.f3, .slice AY Y.f4.length cY]), (g9, 29, #[.int .i64 Z.f0, .int .i64 Z.f1, .int .i64 Z.f2, .string Z.f3, .slice AZ Z.f4.length cZ]), (g16, 9, #[.string (⟨#[32]⟩ : ByteArray), .string (⟨#[44]⟩ : ByteArray), .string (⟨#[46]⟩ : ByteArray), .string (⟨#[97]⟩ : ByteArray)]), (g6, 29, #[.int .i64 0, .int .i64 0, .int .i64 0, .string (⟨#[]⟩ : ByteArray), .slice none 0 0]), (g5, 72, #[.int .i64 n, .int .i64 p])]) ∧ Aside0 (Kd.R k29 29 wd W2.heap.size (fun k => k ≠ g9 ∧ k ≠ g10 ∧ W2.heap.size ≤ k) (.slice AZ Z.f4.length cZ) Z.f4) ∧ Aside0 (Kd.R k29 29 wd W2.heap.size (fun k => k ≠ g9 ∧ k ≠ g10 ∧ W2.heap.size ≤ k) (.slice AY Y.f4.length cY) Y.f4) ∧ Aside0 (∃ V, Gd Z V ∧ V.f0 = 3 ∧ V.f2 = false))
    case first =>
      cases t2 with
      | false =>
        go_wp2_with fail
        go_meet
        case rel => exact ⟨X, AX, cX, HX, RXX, RXY, ⟨_, HXG.out.1, HXG.out.2.1, rfl⟩⟩
      | true =>
        go_upto_region 11 with (fail)
        try simp only [Reg.SF]
        refine Reg.det [(some 72, Reg.Dv.c (.agg #[.int .i64 1, .int .i64 1, .int .i64 0, .string (⟨#[]⟩ : ByteArray), .slice none 0 0]))] [] 78 rfl (by kernel_rfl) (by kernel_rfl) ?s12 ?_
        case s12 =>
          intro iq oq pq hiq hoq hpq ρ ev W S hE hO ec ef hB hft hΦ
          simp only [Reg.SV, val_ln] at hE
          obtain ⟨e72, _⟩ := hE
          obtain rfl : iq = 0 := by have : iq < 1 := hiq; omega
          cases hoq; cases hpq
          all_goals (refine Reg.D.cv hB ?_; go_simp; try (first | done | rfl | (simp; done) | (intro h; omega)))
        intro ρ W11 S hB hft hap hΦ
        simp only [Reg.SV, val_ln, Reg.SF, Nat.reduceAdd]
        have HX := Aside0.mk (HX.out.call hB)
        replace RXX := Aside0.mk (Kd.R_below RXX.out hB)
        replace RXY := Aside0.mk (Kd.R_below RXY.out hB)
        clear hΦ hft hap 
        refine bx_putB (w := w) rfl 29 (.tmp 9) (.tmp 72) rfl rfl (L1 := [_]) (cells := #[.int .i64 1, .int .i64 1, .int .i64 0, .string (⟨#[]⟩ : ByteArray), .slice none 0 0]) HX.out rfl rfl (by kernel_rfl) rfl rfl ?_
        intro W11s hx hput
        have HX := Aside0.mk hx
        replace RXY := Aside0.mk (Kd.R_step RXY.out (fun k hk _ => hput k (by exact hk.1)))
        clear hx hput
        go_wp2_with fail
        go_meet
        case rel => exact ⟨⟨1, 1, 0, ⟨#[]⟩, []⟩, none, 0, HX, ⟨R_none⟩, RXY, ⟨_, hGT, rfl, rfl⟩⟩
    clear HX RXX RXY
    obtain ⟨Z, AZ, cZ, HX, RXZ, RXY, HZG⟩ := hcut
    generalize wc = W11c at *
    obtain ⟨VY, hVY⟩ := HYG.out
    obtain ⟨VZ, hVZ⟩ := HZG.out
    have RXX := RXZ
    have RBX := Aside0.mk (Kd.R_mono (ok' := fun k => (k ≠ g9 ∧ k ≠ g10 ∧ W2.heap.size ≤ k) ∧ k < W11c.heap.size) (Kd.R_bound RXX.out) (fun k hk => ⟨hk.1, hk.2.2.1⟩))
    have RBY := Aside0.mk (Kd.R_mono (ok' := fun k => (k ≠ g9 ∧ k ≠ g10 ∧ W2.heap.size ≤ k) ∧ k < W11c.heap.size) (Kd.R_bound RXY.out) (fun k hk => ⟨hk.1, hk.2.2.1⟩))
    go_upto_region 12 with (fail)
    try simp only [Reg.SF]
    have mg9_0 : _ = some (.int .i64 Z.f0 : Value) := HX.out.cell 1 0 rfl rfl
    have mg9_1 : _ = some (.int .i64 Z.f1 : Value) := HX.out.cell 1 1 rfl rfl
    have mg9_2 : _ = some (.int .i64 Z.f2 : Value) := HX.out.cell 1 2 rfl rfl
    have mg9_3 : _ = some (.string Z.f3 : Value) := HX.out.cell 1 3 rfl rfl
    have mg9_4 : _ = some (.slice AZ Z.f4.length cZ : Value) := HX.out.cell 1 4 rfl rfl
    have mg10_0 : _ = some (.int .i64 Y.f0 : Value) := HX.out.cell 0 0 rfl rfl
    have mg10_1 : _ = some (.int .i64 Y.f1 : Value) := HX.out.cell 0 1 rfl rfl
    have mg10_2 : _ = some (.int .i64 Y.f2 : Value) := HX.out.cell 0 2 rfl rfl
    have mg10_3 : _ = some (.string Y.f3 : Value) := HX.out.cell 0 3 rfl rfl
    have mg10_4 : _ = some (.slice AY Y.f4.length cY : Value) := HX.out.cell 0 4 rfl rfl
    refine Reg.det [(some 73, Reg.Dv.c (.string SP)), (some 74, Reg.Dv.c (.agg #[.int .i64 Z.f0, .int .i64 Z.f1, .int .i64 Z.f2, .string Z.f3, .slice AZ Z.f4.length cZ])), (some 75, Reg.Dv.c (.agg #[.int .i64 Y.f0, .int .i64 Y.f1, .int .i64 Y.f2, .string Y.f3, .slice AY Y.f4.length cY])), (some 76, Reg.Dv.blk 76 29 2 #[.int .i64 Z.f0, .int .i64 Z.f1, .int .i64 Z.f2, .string Z.f3, .slice AZ Z.f4.length cZ, .int .i64 Y.f0, .int .i64 Y.f1, .int .i64 Y.f2, .string Y.f3, .slice AY Y.f4.length cY]), (some 77, Reg.Dv.u [76] (fun l => .agg #[.int .i64 6, .int .i64 0, .int .i64 0, .string SP, (l.headD undef)]))] [] 78 rfl (by kernel_rfl) (by kernel_rfl) ?s13 ?_
    case s13 =>
      intro iq oq pq hiq hoq hpq ρ ev W S hE hO ec ef hB hft hΦ
      have e8 : ev (.tmp 8) = .string SP := hO 8 rfl
      have e9 : ev (.tmp 9) = .pointer (some ⟨g9, 0, none⟩) := hO 9 rfl
      have e10 : ev (.tmp 10) = .pointer (some ⟨g10, 0, none⟩) := hO 10 rfl
      have mg9_0' := pw_cell_below hB mg9_0
      have mg9_1' := pw_cell_below hB mg9_1
      have mg9_2' := pw_cell_below hB mg9_2
      have mg9_3' := pw_cell_below hB mg9_3
      have mg9_4' := pw_cell_below hB mg9_4
      have mg10_0' := pw_cell_below hB mg10_0
      have mg10_1' := pw_cell_below hB mg10_1
      have mg10_2' := pw_cell_below hB mg10_2
      have mg10_3' := pw_cell_below hB mg10_3
      have mg10_4' := pw_cell_below hB mg10_4
      simp only [Reg.SV, val_ln] at hE
      obtain ⟨e73, e74, e75, e76, e77, _⟩ := hE
      rcases Reg.lt5 hiq with rfl | rfl | rfl | rfl | rfl
      all_goals (cases hoq; cases hpq)
      rotate_left 4
      · obtain ⟨_, h76, _⟩ := hΦ 3 _ rfl rfl rfl
        replace h76 : ρ 76 = _ := h76
        refine Reg.D.uv hB ?_
        go_simp
        try (first | done | rfl | (simp; done) | (intro h; omega))
      rotate_right 4
      rotate_left 3
      · refine Reg.D.blk hB ?_
        go_simp
        try (first | rfl | exact ⟨rfl, rfl⟩)
      rotate_right 3
      all_goals (first | exact Reg.D.mv hB | skip)
      all_goals (refine Reg.D.cv hB ?_; go_simp; try (first | done | rfl | (simp; done) | (intro h; omega)))
    intro ρ W12 S hB hft hap hΦ
    simp only [Reg.SV, val_ln, Reg.SF, Nat.reduceAdd]
    obtain ⟨g76, e76, s76, hg76, _, b76⟩ := hΦ 3 _ rfl rfl
    replace e76 : ρ 76 = .slice (some ⟨g76, 0, none⟩) 2 2 := e76
    try simp only [e76]
    replace b76 : W12.heap[g76]? = some (.cells #[.int .i64 Z.f0, .int .i64 Z.f1, .int .i64 Z.f2, .string Z.f3, .slice AZ Z.f4.length cZ, .int .i64 Y.f0, .int .i64 Y.f1, .int .i64 Y.f2, .string Y.f3, .slice AY Y.f4.length cY] 29 (0, 0)) := b76
    have HX := Aside0.mk (HX.out.join (Bxs.one hB hg76 b76))
    replace RBX := Aside0.mk (Kd.R_below RBX.out hB)
    replace RBY := Aside0.mk (Kd.R_below RBY.out hB)
    clear hΦ hft hap mg9_0 mg9_1 mg9_2 mg9_3 mg9_4 mg10_0 mg10_1 mg10_2 mg10_3 mg10_4
    refine bx_putB (w := w) rfl 29 (.tmp 6) (.tmp 77) rfl rfl (L1 := [_, _, _, _]) (cells := #[.int .i64 6, .int .i64 0, .int .i64 0, .string SP, .slice (some ⟨g76, 0, none⟩) 2 2]) HX.out rfl rfl (by kernel_rfl) rfl rfl ?_
    intro W12s hx hput
    have HX := Aside0.mk hx
    replace RBX := Aside0.mk (Kd.R_step RBX.out (fun k hk _ => hput k (by have := hk.1.2.2; omega)))
    replace RBY := Aside0.mk (Kd.R_step RBY.out (fun k hk _ => hput k (by have := hk.1.2.2; omega)))
    clear hx hput
    go_wp2_with fail
    refine bodyPost_ret (results_cell_row rfl _ _ g6 29 #[.int .i64 6, .int .i64 0, .int .i64 0, .string SP, .slice (some ⟨g76, 0, none⟩) 2 2] (0, 0) _ rfl (HX.out.at 4 rfl) hu2 rfl (by kernel_rfl)) rfl ?_
    exact ⟨⟨_, rfl, ⟨6, 0, 0, SP, [Z, Y]⟩, _, rfl, hTwo _ _ _ _ hVZ.1 hVZ.2.1 hVZ.2.2 hVY.1 hVY.2, R_of_blk (HX.out.at 0 rfl) (HX.out.ge 0 rfl) trivial (Reps.c5 (k29_mkM _ _ _ Z (Kd.R_lower (Kd.R_mono (ok' := fun j => True ∧ j ≠ g76) RBX.out (fun j hk => ⟨trivial, by have := hk.2; omega⟩)) hw2)) (Reps.c5 (k29_mkM _ _ _ Y (Kd.R_lower (Kd.R_mono (ok' := fun j => True ∧ j ≠ g76) RBY.out (fun j hk => ⟨trivial, by have := hk.2; omega⟩)) hw2)) (Reps.none _ _))) (show (2 : Nat) ≤ 9223372036854775807 by decide)⟩, HX.out.below⟩
end Go.Proofs.YtmebkjdknhknbaaGreatDoor.H
end
section
namespace Go.Proofs.YtmebkjdknhknbaaGreatDoor.H
open Go.RowKit Go.Proofs.YtmebkjdknhknbaaGreatDoor.A Go.Proofs.YtmebkjdknhknbaaGreatDoor.C Go.Proofs.YtmebkjdknhknbaaGreatDoorW.PrintWords Go.Proofs.YtmebkjdknhknbaaGreatDoorW.PrintLast Go.Proofs.YtmebkjdknhknbaaGreatDoorW.PrintMore
def aOk (a : S57) : Prop := (a.f1 = 0 ∨ (a.f1 = 1 ∧ a.f0.f0 = 2 ∧ a.f0.f2 = false)) ∧ ((a.f0.f0 = 2 ∧ a.f0.f1 = 6) ∨ (a.f0.f0 = 3 ∧ a.f0.f1 = 0) ∨ (a.f0.f0 = 1 ∧ a.f0.f1 = 0))
def cellK (nu : Bool) (kt : Int) (v : S39) : Prop := (nu = true ∧ v = ⟨0, 0, ⟨#[]⟩⟩) ∨ (kt = 1 ∧ (v = ⟨1, 0, ⟨#[]⟩⟩ ∨ v = ⟨1, 1, ⟨#[]⟩⟩)) ∨ (kt = 2 ∧ ∃ x : Int, -100000000000000 ≤ x ∧ x ≤ 100000000000000 ∧ v = ⟨2, x, ⟨#[]⟩⟩) ∨ (kt = 3 ∧ ∃ s : ByteArray, s.size ≤ 40 ∧ graphicB s.data.toList = true ∧ v = ⟨3, 0, s⟩)
def cellOk (a : S57) (v : S39) : Prop := cellK a.f0.f2 a.f0.f0 v
def atOk (l0 : List S57) : Prop := 3 ≤ l0.length ∧ l0.length ≤ 6 ∧ (∀ i : Nat, i < l0.length → aOk (rd_T57 l0 (i : Int))) ∧ (rd_T57 l0 0).f0 = ⟨2, 6, false⟩ ∧ (rd_T57 l0 1).f0 = ⟨3, 0, false⟩
def cellsOk (l0 : List S57) (l : List S39) : Prop := ∀ i : Nat, i < l.length → cellOk (rd_T57 l0 (i : Int)) (rd_T39 l (i : Int))
theorem nil_ok : ((⟨#[]⟩ : ByteArray).toList == ([] : List UInt8)) = true := by rw [nil_toList]; rfl
theorem ck_cell {a : S57} {v : S39} {m : Int} (hm : m = 1000000000000000 ∨ m = 4000000000000000000) (h : cellOk a v) : ckB v.f0 v.f1 v.f2 m = true := by
  rw [ck_eq]
  rcases h with ⟨_, rfl⟩ | ⟨_, rfl | rfl⟩ | ⟨_, x, h0, h1, rfl⟩ | ⟨_, s, h0, h1, rfl⟩
  · rw [if_pos rfl, nil_ok]; rfl
  · rw [if_neg (by decide), if_pos rfl, if_pos (by decide), nil_ok]
  · rw [if_neg (by decide), if_pos rfl, if_pos (by decide), nil_ok]
  · have h2 : x ≥ wrap64 (-m) := by unfold wrap64; rcases hm with rfl | rfl <;> omega
    have h3 : x ≤ m := by rcases hm with rfl | rfl <;> omega
    rw [if_neg (show ¬ (2 : Int) = 0 by decide), if_neg (show ¬ (2 : Int) = 1 by decide), if_pos rfl, if_pos h2, if_pos h3, nil_ok]
  · rw [if_neg (show ¬ (3 : Int) = 0 by decide), if_neg (show ¬ (3 : Int) = 1 by decide), if_neg (show ¬ (3 : Int) = 2 by decide), if_pos rfl, if_pos rfl, if_pos (show (s.size : Int) ≤ 40 by omega)]; exact h1
theorem places6 (x : Int) : placesB x 6 = true := by
  unfold placesB
  rw [if_pos (by decide), show stepOf 6 = 1 from rfl, Int.tmod_one]; rfl
theorem cell_fit {a : S57} {v : S39} (ha : aOk a) (hv : cellOk a v) : fitB a v = true := by
  have h1 : wwB v.f0 v.f1 v.f2 = true := ck_cell (.inr rfl) hv
  have h2 : vvB v.f0 v.f1 v.f2 = true := ck_cell (.inl rfl) hv
  unfold fitB
  split
  · rename_i h
    obtain ⟨h3, h4⟩ : a.f0.f0 = 2 ∧ a.f0.f2 = false := by
      rcases ha.1 with h5 | h5
      · omega
      · exact h5.2
    have h5 : a.f0.f1 = 6 := by rcases ha.2 with h | h | h <;> omega
    have h6 : v.f0 = 2 := by
      rcases hv with ⟨h, _⟩ | ⟨h, _⟩ | ⟨_, x, _, _, rfl⟩ | ⟨h, _⟩
      · rw [h4] at h; cases h
      · omega
      · rfl
      · omega
    rw [h1, h5, places6, h6]; rfl
  · unfold hasB
    have h3 : vtB a.f0.f0 a.f0.f1 = true := by
      unfold vtB
      rcases ha.2 with ⟨h, h'⟩ | ⟨h, h'⟩ | ⟨h, h'⟩ <;> rw [h, h'] <;> decide
    rw [h2, h3, Bool.true_and, Bool.true_and]
    rcases hv with ⟨h, rfl⟩ | ⟨h, rfl | rfl⟩ | ⟨h, x, _, _, rfl⟩ | ⟨h, s, _, _, rfl⟩
    · rw [if_pos rfl]; exact h
    · rw [if_neg (by decide), if_neg (by decide), h]; rfl
    · rw [if_neg (by decide), if_neg (by decide), h]; rfl
    · have h5 : a.f0.f1 = 6 := by rcases ha.2 with h | h | h <;> omega
      rw [if_neg (show ¬ (2 : Int) = 0 by decide), if_pos rfl, if_pos h, h5, show stepOf 6 = 1 from rfl, Int.tmod_one]; rfl
    · rw [if_neg (show ¬ (3 : Int) = 0 by decide), if_neg (show ¬ (3 : Int) = 2 by decide), h]; rfl
theorem cells_fit {l0 : List S57} {l : List S39} (ha : atOk l0) (hl : l.length = l0.length) (hc : cellsOk l0 l) : fitL l0 l = true := by
  unfold fitL fitAll
  rw [decide_eq_true hl.symm, Bool.true_and, List.all_eq_true]
  intro i hi
  have hi' : i < l.length := List.mem_range.1 hi
  exact cell_fit (ha.2.2.1 i (by omega)) (hc i hi')
def at0 : S57 := ⟨⟨2, 6, false⟩, 0, ⟨2, 0, ⟨#[]⟩⟩⟩
def at1 : S57 := ⟨⟨3, 0, false⟩, 0, ⟨3, 0, ⟨#[120]⟩⟩⟩
def mOk (l : List S57) (i : Nat) : Prop := l.length = 2 + i ∧ (∀ a, a ∈ l → aOk a) ∧ l[0]? = some at0 ∧ l[1]? = some at1
theorem mOk_start : mOk [at0, at1] 0 := ⟨rfl, fun a h => by
  simp only [List.mem_cons, List.not_mem_nil, or_false] at h
  rcases h with rfl | rfl
  · exact ⟨.inl rfl, .inl ⟨rfl, rfl⟩⟩
  · exact ⟨.inl rfl, .inr (.inl ⟨rfl, rfl⟩)⟩, rfl, rfl⟩
theorem mOk_add {l : List S57} {i : Nat} {a : S57} (h : mOk l i) (ha : aOk a) : mOk (l ++ [a]) (i + 1) := by
  obtain ⟨h0, h1, h2, h3⟩ := h
  refine ⟨by simp [h0]; omega, fun b hb => ?_, ?_, ?_⟩
  · rcases List.mem_append.1 hb with hb | hb
    · exact h1 b hb
    · rw [List.mem_singleton.1 hb]; exact ha
  · rw [List.getElem?_append_left (by omega)]; exact h2
  · rw [List.getElem?_append_left (by omega)]; exact h3
theorem mOk_at {l : List S57} {m : Nat} (h : mOk l m) (h1 : 1 ≤ m) (h4 : m ≤ 4) : atOk l := by
  obtain ⟨h0, h2, h3, h5⟩ := h
  refine ⟨by omega, by omega, fun i hi => ?_, ?_, ?_⟩
  · have : rd_T57 l (i : Int) = l[i] := by unfold rd_T57; rw [Int.toNat_natCast, List.getD_eq_getElem?_getD, List.getElem?_eq_getElem hi]; rfl
    rw [this]; exact h2 _ (List.getElem_mem hi)
  · have : rd_T57 l 0 = at0 := by unfold rd_T57; rw [show Int.toNat 0 = 0 from rfl, List.getD_eq_getElem?_getD, h3]; rfl
    rw [this]; rfl
  · have : rd_T57 l 1 = at1 := by unfold rd_T57; rw [show Int.toNat 1 = 1 from rfl, List.getD_eq_getElem?_getD, h5]; rfl
    rw [this]; rfl
def cOk (l0 : List S57) (l : List S39) (i : Nat) : Prop := l.length = i ∧ cellsOk l0 l
theorem cOk_add {l0 : List S57} {l : List S39} {i : Nat} {v : S39} (h : cOk l0 l i) (hv : cellOk (rd_T57 l0 (i : Int)) v) : cOk l0 (l ++ [v]) (i + 1) := by
  obtain ⟨h0, h1⟩ := h
  refine ⟨by simp [h0], fun j hj => ?_⟩
  rw [List.length_append, List.length_singleton] at hj
  by_cases hl : j < l.length
  · have h2 := h1 j hl
    have : rd_T39 (l ++ [v]) (j : Int) = rd_T39 l (j : Int) := by unfold rd_T39; rw [Int.toNat_natCast, List.getD_eq_getElem?_getD, List.getD_eq_getElem?_getD, List.getElem?_append_left hl]
    rw [this]; exact h2
  · obtain rfl : j = i := by omega
    have : rd_T39 (l ++ [v]) (j : Int) = v := by unfold rd_T39; rw [Int.toNat_natCast, List.getD_eq_getElem?_getD, List.getElem?_append_right (by omega), h0, Nat.sub_self]; rfl
    rw [this]; exact hv
end Go.Proofs.YtmebkjdknhknbaaGreatDoor.H
end
section
namespace Go.Proofs.YtmebkjdknhknbaaGreatDoor.H
open Go.RowKit Go.Proofs.YtmebkjdknhknbaaGreatDoor.A Go.Proofs.YtmebkjdknhknbaaGreatDoor.C Go.Proofs.YtmebkjdknhknbaaGreatDoor.G Go.Proofs.YtmebkjdknhknbaaGreatDoorW.PrintWords Go.Proofs.YtmebkjdknhknbaaGreatDoorW.PrintLast Go.Proofs.YtmebkjdknhknbaaGreatDoorW.PrintMore
def byteV (lb : List Int) (i : Int) : Int := (chapmanref16_Byte.f lb i).getD 0
theorem byteV_in {lb : List Int} (hb : ∀ x, x ∈ lb → 0 ≤ x ∧ x ≤ 255) (i : Int) : 0 ≤ byteV lb i ∧ byteV lb i ≤ 255 := by
  unfold byteV chapmanref16_Byte.f
  split
  · exact ⟨by decide, by decide⟩
  · split
    · split
      · rename_i h1 h2
        have hr : 0 ≤ rd lb (Int.tmod i (lb.length : Int)) ∧ rd lb (Int.tmod i (lb.length : Int)) ≤ 255 := by
          unfold rd
          rw [List.getD_eq_getElem?_getD, List.getElem?_eq_getElem (show (Int.tmod i (lb.length : Int)).toNat < lb.length by omega)]
          exact hb _ (List.getElem_mem _)
        show 0 ≤ wrap64 _ ∧ wrap64 _ ≤ 255
        unfold wrap64
        omega
      · exact ⟨by decide, by decide⟩
    · exact ⟨by decide, by decide⟩
theorem byte_f (lb : List Int) {i : Int} (h : 0 ≤ i) : chapmanref16_Byte.f lb i = some (byteV lb i) := by
  unfold byteV chapmanref16_Byte.f
  split
  · rfl
  · rename_i h0
    have h1 : 0 ≤ Int.tmod i (lb.length : Int) := Int.tmod_nonneg _ h
    have h2 : Int.tmod i (lb.length : Int) < (lb.length : Int) := Int.tmod_lt_of_pos _ (by omega)
    rw [if_pos h1, if_pos h2]; rfl
theorem byte_calls {B : Option Addr} {cb : Nat} {lb : List Int} {w : World} (hr : Kd.C (Kd.int .u8) w B lb.length lb) (hc : lb.length ≤ cb) : Aside0 (∀ i : Int, 0 ≤ i → i ≤ 100 → ∀ w', Below w.heap.size w w' → Calls Tryz.prog 36 #[.slice B lb.length cb, .int .i64 i] w' fun e w'' => e = .returned (.int .i64 (byteV lb i)) ∧ Below w'.heap.size w' w'') :=
  ⟨fun i h0 _ w' hb => (chapmanref16_Byte.calls B cb lb i _ w' (Kd.C_below hr hb) hc (byte_f lb h0)).mono fun e w'' h => ⟨h.1, below_drawn h.2⟩⟩
theorem power_calls : Aside0 (∀ e : Int, 0 ≤ e → e ≤ 11 → ∃ P : Int, (1 ≤ P ∧ P ≤ 100000000000) ∧ ∀ w', Calls Tryz.prog 37 #[.int .i64 e] w' fun r w'' => r = .returned (.int .i64 P) ∧ Below w'.heap.size w' w'') := by
  refine ⟨fun e h0 h1 => ?_⟩
  have key : ∃ P : Int, (1 ≤ P ∧ P ≤ 100000000000) ∧ chapmanref16_power.f 14 e = some P := by
    have : e = 0 ∨ e = 1 ∨ e = 2 ∨ e = 3 ∨ e = 4 ∨ e = 5 ∨ e = 6 ∨ e = 7 ∨ e = 8 ∨ e = 9 ∨ e = 10 ∨ e = 11 := by omega
    rcases this with rfl | rfl | rfl | rfl | rfl | rfl | rfl | rfl | rfl | rfl | rfl | rfl
    · exact ⟨1, ⟨by decide, by decide⟩, by kernel_rfl⟩
    · exact ⟨10, ⟨by decide, by decide⟩, by kernel_rfl⟩
    · exact ⟨100, ⟨by decide, by decide⟩, by kernel_rfl⟩
    · exact ⟨1000, ⟨by decide, by decide⟩, by kernel_rfl⟩
    · exact ⟨10000, ⟨by decide, by decide⟩, by kernel_rfl⟩
    · exact ⟨100000, ⟨by decide, by decide⟩, by kernel_rfl⟩
    · exact ⟨1000000, ⟨by decide, by decide⟩, by kernel_rfl⟩
    · exact ⟨10000000, ⟨by decide, by decide⟩, by kernel_rfl⟩
    · exact ⟨100000000, ⟨by decide, by decide⟩, by kernel_rfl⟩
    · exact ⟨1000000000, ⟨by decide, by decide⟩, by kernel_rfl⟩
    · exact ⟨10000000000, ⟨by decide, by decide⟩, by kernel_rfl⟩
    · exact ⟨100000000000, ⟨by decide, by decide⟩, by kernel_rfl⟩
  obtain ⟨P, hP, hf⟩ := key
  exact ⟨P, hP, fun w' => (chapmanref16_power.calls 14 e P w' hf).mono fun r w'' h => ⟨h.1, below_drawn h.2⟩⟩
theorem gr_app {a b : ByteArray} (ha : graphicB a.data.toList = true) (hb : graphicB b.data.toList = true) : graphicB (a ++ b).data.toList = true := by
  unfold graphicB at *
  rw [ByteArray.data_append, Array.toList_append, List.all_append, ha, hb]; rfl
theorem gr_cut {a : ByteArray} (ha : graphicB a.data.toList = true) (n : Nat) : graphicB (a.extract 0 n).data.toList = true := by
  unfold graphicB at *
  rw [ByteArray.data_extract, Array.toList_extract]
  rw [List.all_eq_true] at ha ⊢
  intro x hx
  exact ha x (List.mem_of_mem_take (i := n) (by simpa [List.extract] using hx))
theorem cut_done {s : ByteArray} (hs : s.size ≤ 1000) (hg : graphicB s.data.toList = true) : ∃ r, (if 0 ≤ (mn (s.size : Int) 40) then (if (mn (s.size : Int) 40) ≤ (s.size : Int) then (some (s.extract 0 ((mn (s.size : Int) 40) : Int).toNat)) else none) else none) = some r ∧ r.size ≤ 40 ∧ graphicB r.data.toList = true := by
  have h0 : 0 ≤ mn (s.size : Int) 40 := by unfold mn; split <;> omega
  have h1 : mn (s.size : Int) 40 ≤ s.size := by unfold mn; split <;> omega
  have h2 : (mn (s.size : Int) 40).toNat ≤ 40 := by unfold mn; split <;> omega
  rw [if_pos h0, if_pos h1]
  exact ⟨_, rfl, by rw [ByteArray.size_extract]; omega, gr_cut hg _⟩
theorem word_l1 (x0 : Int) : ∀ (m : Nat) (s : ByteArray) (k : Nat), 40 ≤ s.size + m → m < k → s.size ≤ 1000 → graphicB s.data.toList = true → ∃ r, chapmanref16_word.l1 k x0 s = some r ∧ r.size ≤ 40 ∧ graphicB r.data.toList = true := by
  intro m
  induction m with
  | zero =>
    intro s k h1 h2 h3 h4
    obtain ⟨k, rfl⟩ : ∃ j, k = j + 1 := ⟨k - 1, by omega⟩
    rw [chapmanref16_word.l1]
    split
    · rw [if_neg (by omega)]; exact cut_done h3 h4
    · exact cut_done h3 h4
  | succ m ih =>
    intro s k h1 h2 h3 h4
    obtain ⟨k, rfl⟩ : ∃ j, k = j + 1 := ⟨k - 1, by omega⟩
    rw [chapmanref16_word.l1]
    split
    · split
      · rw [if_pos (by omega)]
        have hz : (s ++ (⟨#[122]⟩ : ByteArray)).size = s.size + 1 := by rw [ByteArray.size_append]; rfl
        exact ih _ k (by rw [hz]; omega) (by omega) (by rw [hz]; omega) (gr_app h4 (by decide))
      · exact cut_done h3 h4
    · exact cut_done h3 h4
theorem eight (j : Int) (h0 : 0 ≤ j) (h1 : j < 8) : (rdOf ByteArray.empty [(⟨#[97]⟩ : ByteArray), (⟨#[98]⟩ : ByteArray), (⟨#[32]⟩ : ByteArray), (⟨#[44]⟩ : ByteArray), (⟨#[49]⟩ : ByteArray), (⟨#[46, 53]⟩ : ByteArray), (⟨#[45]⟩ : ByteArray), (⟨#[32, 97]⟩ : ByteArray)] j).size ≤ 2 ∧ graphicB (rdOf ByteArray.empty [(⟨#[97]⟩ : ByteArray), (⟨#[98]⟩ : ByteArray), (⟨#[32]⟩ : ByteArray), (⟨#[44]⟩ : ByteArray), (⟨#[49]⟩ : ByteArray), (⟨#[46, 53]⟩ : ByteArray), (⟨#[45]⟩ : ByteArray), (⟨#[32, 97]⟩ : ByteArray)] j).data.toList = true := by
  have : j = 0 ∨ j = 1 ∨ j = 2 ∨ j = 3 ∨ j = 4 ∨ j = 5 ∨ j = 6 ∨ j = 7 := by omega
  rcases this with rfl | rfl | rfl | rfl | rfl | rfl | rfl | rfl <;> exact ⟨by decide, by decide⟩
theorem word_l0 {a b : Int} (ha0 : 0 ≤ a) (ha : a ≤ 255) (hb0 : 0 ≤ b) (hb : b ≤ 255) : ∀ (m : Nat) (s : ByteArray) (i k : Nat), i + m = 8 → m + 60 < k → s.size ≤ 2 * i → graphicB s.data.toList = true → ∃ r, chapmanref16_word.l0 k a b s (i : Int) = some r ∧ r.size ≤ 40 ∧ graphicB r.data.toList = true := by
  intro m
  have ht : Int.tmod a 8 = a % 8 := Int.tmod_eq_emod_of_nonneg ha0
  induction m with
  | zero =>
    intro s i k h1 h2 h3 h4
    obtain ⟨k, rfl⟩ : ∃ j, k = j + 1 := ⟨k - 1, by omega⟩
    rw [chapmanref16_word.l0, if_neg (by rw [ht]; omega)]
    exact word_l1 a 40 s k (by omega) (by omega) (by omega) h4
  | succ m ih =>
    intro s i k h1 h2 h3 h4
    obtain ⟨k, rfl⟩ : ∃ j, k = j + 1 := ⟨k - 1, by omega⟩
    rw [chapmanref16_word.l0]
    split
    · have hw : wrap64 ((i : Int) + 1) = ((i + 1 : Nat) : Int) := by unfold wrap64; omega
      have hp0 : 0 ≤ b * ((i + 1 : Nat) : Int) := Int.mul_nonneg hb0 (by omega)
      have hp1 : b * ((i + 1 : Nat) : Int) ≤ 255 * 8 := Int.le_trans (Int.mul_le_mul_of_nonneg_right hb (by omega)) (by omega)
      rw [hw, Option.bind_some]
      generalize b * ((i + 1 : Nat) : Int) = p at *
      have hd : Int.tdiv a 8 = a / 8 := Int.tdiv_eq_ediv_of_nonneg ha0
      have hx : 0 ≤ wrap64 (wrap64 (Int.tdiv a 8) + wrap64 p) := by rw [hd]; unfold wrap64; omega
      generalize wrap64 (wrap64 (Int.tdiv a 8) + wrap64 p) = x at *
      have hj0 : 0 ≤ Int.tmod x 8 := Int.tmod_nonneg _ hx
      have hj1 : Int.tmod x 8 < 8 := Int.tmod_lt_of_pos _ (by decide)
      obtain ⟨e1, e2⟩ := eight (Int.tmod x 8) hj0 hj1
      rw [if_pos hj0]
      split
      rotate_left
      · rename_i hn; exact absurd hj1 hn
      rw [if_pos (by omega)]
      exact ih _ (i + 1) k (by omega) (by omega) (by rw [ByteArray.size_append]; omega) (gr_app h4 e2)
    · exact word_l1 a 40 s k (by omega) (by omega) (by omega) h4
theorem word_calls : Aside0 (∀ a b : Int, 0 ≤ a → a ≤ 255 → 0 ≤ b → b ≤ 255 → ∃ s : ByteArray, (s.size ≤ 40 ∧ graphicB s.data.toList = true) ∧ ∀ w', Calls Tryz.prog 39 #[.int .i64 a, .int .i64 b] w' fun r w'' => r = .returned (.string s) ∧ Below w'.heap.size w' w'') := by
  refine ⟨fun a b h0 h1 h2 h3 => ?_⟩
  obtain ⟨r, hr, hs, hg⟩ := word_l0 h0 h1 h2 h3 8 ⟨#[]⟩ 0 100 (by omega) (by omega) (by decide) (by decide)
  exact ⟨r, ⟨hs, hg⟩, fun w' => chapmanref16_word.calls 100 a b r w' hr⟩
end Go.Proofs.YtmebkjdknhknbaaGreatDoor.H
end
