/- Texts of this claim, bound together: what the functions that it reaches compute, with the contracts of their calls (HAnyA, HMade, HCells, HEx0, HEx1, HMd, HEx2, HEx3, HGp). -/
import Derived.Test.YtmebkjdknhknbaaGreatDoorK5
set_option linter.unusedVariables false
set_option linter.unusedSimpArgs false
set_option linter.unusedSectionVars false
section
namespace Go.Proofs.YtmebkjdknhknbaaGreatDoor.H
open Go.RowKit Go.Proofs.YtmebkjdknhknbaaGreatDoor.G Go.Proofs.YtmebkjdknhknbaaGreatDoorW.PrintWords Go.Proofs.YtmebkjdknhknbaaGreatDoorW.PrintLast Go.Proofs.YtmebkjdknhknbaaGreatDoorW.PrintMore
theorem sep_at (I : Nat) (h : I < 4) : ∃ SP : ByteArray, (#[.string (⟨#[32]⟩ : ByteArray), .string (⟨#[44]⟩ : ByteArray), .string (⟨#[46]⟩ : ByteArray), .string (⟨#[97]⟩ : ByteArray)] : Array Value)[I]? = some (.string SP) ∧ sepOk SP := by
  have : I = 0 ∨ I = 1 ∨ I = 2 ∨ I = 3 := by omega
  rcases this with rfl | rfl | rfl | rfl
  · exact ⟨_, rfl, by decide, by decide, by decide⟩
  · exact ⟨_, rfl, by decide, by decide, by decide⟩
  · exact ⟨_, rfl, by decide, by decide, by decide⟩
  · exact ⟨_, rfl, by decide, by decide, by decide⟩
theorem leaf (l0 : List S57) (hat : atOk l0) (A0 : Option Addr) (c0 : Nat) (B : Option Addr) (cb : Nat) (lb : List Int) (hlb : ∀ x, x ∈ lb → 0 ≤ x ∧ x ≤ 255) (hc0 : l0.length ≤ c0) (hcb : lb.length ≤ cb) (n : Nat) (hn : n ≤ 3) (p : Int) (hp0 : 0 ≤ p) (hp9 : p ≤ 90) (w : World) (hr0 : Kd.C k57 w A0 l0.length l0) (hrb : Kd.C (Kd.int .u8) w B lb.length lb)
    (HCo : 1 < n → ∀ w', Below w.heap.size w w' → Calls Tryz.prog 52 #[.slice A0 l0.length c0, .slice B lb.length cb, .agg #[.int .i64 (n : Int), .int .i64 p]] w' fun e w'' => (∃ v, e = .returned v ∧ lnP (vOk (max n 1) l0) v w'.heap.size w'' (fun _ => True)) ∧ Below w'.heap.size w' w'') :
    Calls Tryz.prog 31 #[.slice A0 l0.length c0, .slice B lb.length cb, .agg #[.int .i64 (n : Int), .int .i64 p]] w fun e w' => (∃ v, e = .returned v ∧ lnP (vOk (max n 1) l0) v w.heap.size w' (fun _ => True)) ∧ Below w.heap.size w w' := by
  have hK := byteV_in hlb p
  have hT := byteV_in hlb (p + 1)
  have HK := (byte_calls hrb hcb).out p hp0 (by omega)
  have HT := (byte_calls hrb hcb).out (p + 1) (by omega) (by omega)
  generalize byteV lb p = K at hK HK
  generalize byteV lb (p + 1) = T at hT HT
  have h3 := hat.1
  have ha : Int.tmod T (l0.length : Int) = T % (l0.length : Int) := Int.tmod_eq_emod_of_nonneg hT.1
  have ha0 : 0 ≤ Int.tmod T (l0.length : Int) := Int.tmod_nonneg _ hT.1
  have ha1 : Int.tmod T (l0.length : Int) < (l0.length : Int) := Int.tmod_lt_of_pos _ (by omega)
  obtain ⟨AT, hAT⟩ : ∃ z, Int.tmod T (l0.length : Int) = z := ⟨_, rfl⟩
  rw [hAT] at ha0 ha1
  have ed : Int.tdiv K 2 = K / 2 := Int.tdiv_eq_ediv_of_nonneg hK.1
  have ed6 : Int.tdiv K 6 = K / 6 := Int.tdiv_eq_ediv_of_nonneg hK.1
  have ej : Int.tmod (Int.tdiv K 2) 3 = K / 2 % 3 := by rw [ed]; exact Int.tmod_eq_emod_of_nonneg (by omega)
  have hs : 0 ≤ Int.tmod (Int.tdiv K 6) 7 ∧ Int.tmod (Int.tdiv K 6) 7 ≤ 6 := by rw [ed6, Int.tmod_eq_emod_of_nonneg (by omega)]; omega
  obtain ⟨k, hk⟩ : ∃ k, max n 1 = k + 1 := ⟨max n 1 - 1, by omega⟩
  rw [hk] at HCo ⊢
  obtain ⟨ad, e, hq, _⟩ := at_T57 hr0 AT ha0 ha1
  subst e
  exact any_walk (vOk (k + 1) l0) ad (ad.add (AT.toNat * 7)) B l0.length c0 lb.length cb (n : Int) p (p + 1) K T AT (rd_T57 l0 AT).f0.f0 (Int.tmod (Int.tdiv K 6) 7) _ _ _ _ w (by rw [IntKind.wrap_i64]; omega) (by omega) hAT ha0 ha1 ⟨rfl⟩ ⟨rfl⟩ ⟨rfl⟩ ⟨rfl⟩ ⟨by rw [ej]; omega⟩ (by rw [IntKind.wrap_i64, ed]; omega) (by rw [IntKind.wrap_i64, ed6]; omega) rfl
    (vOk_val (by omega) ha0 ha1).1 (fun h2 => ⟨vOk_scale (by omega) ha0 ha1 h2 hs.1 hs.2, (vOk_show (by omega) ha0 ha1 h2 hs.1 hs.2).1⟩)
    (fun h w' hb => HCo (by rw [Bool.and_eq_true] at h; have := of_decide_eq_true h.1; omega) w' hb) ⟨HK⟩ ⟨HT⟩ rfl ⟨hq⟩
theorem Any_all (l0 : List S57) (hat : atOk l0) (A0 : Option Addr) (c0 : Nat) (B : Option Addr) (cb : Nat) (lb : List Int) (hlb : ∀ x, x ∈ lb → 0 ≤ x ∧ x ≤ 255) (hc0 : l0.length ≤ c0) (hcb : lb.length ≤ cb) : ∀ (n : Nat), n ≤ 3 → ∀ (p : Int), 0 ≤ p → p + 7 * n ≤ 90 → ∀ (w : World), Kd.C k57 w A0 l0.length l0 → Kd.C (Kd.int .u8) w B lb.length lb →
    Calls Tryz.prog 31 #[.slice A0 l0.length c0, .slice B lb.length cb, .agg #[.int .i64 (n : Int), .int .i64 p]] w fun e w' => (∃ v, e = .returned v ∧ lnP (vOk (max n 1) l0) v w.heap.size w' (fun _ => True)) ∧ Below w.heap.size w w' := by
  obtain ⟨h3, h6, hall, hz0, hz1⟩ := id hat
  have hr0' : (rd_T57 l0 0).f0.f0 = 2 := by rw [hz0]
  intro n
  induction n with
  | zero =>
    intro hn p h0 h9 w hr0 hrb
    exact leaf l0 hat A0 c0 B cb lb hlb hc0 hcb 0 (by omega) p h0 (by omega) w hr0 hrb (fun h => absurd h (by decide))
  | succ m ih =>
    intro hn p hp0 h9 w hr0 hrb
    refine leaf l0 hat A0 c0 B cb lb hlb hc0 hcb (m + 1) hn p hp0 (by omega) w hr0 hrb (fun hm w' hb => ?_)
    have hm1 : 1 ≤ m := by omega
    rw [show max (m + 1) 1 = m + 1 by omega]
    have ih' : ∀ q : Int, 0 ≤ q → q + 7 * m ≤ 90 → Aside0 (∀ w'', Below w'.heap.size w' w'' → Calls Tryz.prog 31 #[.slice A0 l0.length c0, .slice B lb.length cb, .agg #[.int .i64 (m : Int), .int .i64 q]] w'' fun e w3 => (∃ v, e = .returned v ∧ lnP (vOk m l0) v w''.heap.size w3 (fun _ => True)) ∧ Below w''.heap.size w'' w3) := fun q hq0 hq1 =>
      ⟨fun w'' hb' => by
        have := ih (by omega) q hq0 hq1 w'' (Kd.C_below (Kd.C_below hr0 hb) hb') (Kd.C_below (Kd.C_below hrb hb) hb')
        rwa [show max m 1 = m by omega] at this⟩
    have hB := byteV_in hlb p
    have HB := (byte_calls (Kd.C_below hrb hb) hcb).out p hp0 (by omega)
    generalize byteV lb p = K at hB HB
    have ed : Int.tdiv K 2 = K / 2 := Int.tdiv_eq_ediv_of_nonneg hB.1
    have ed3 : Int.tdiv (Int.tdiv K 2) 3 = K / 2 / 3 := by rw [ed]; exact Int.tdiv_eq_ediv_of_nonneg (by omega)
    have ei : Int.tmod (Int.tdiv (Int.tdiv K 2) 3) 4 = (((K / 2 / 3) % 4).toNat : Int) := by rw [ed3, Int.tmod_eq_emod_of_nonneg (by omega)]; omega
    have hi4 : ((K / 2 / 3) % 4).toNat < 4 := by omega
    generalize ((K / 2 / 3) % 4).toNat = I at ei hi4
    obtain ⟨SP, hSP, hsep⟩ := sep_at I hi4
    have hT : ∀ k, 1 ≤ k → k ≤ 9 → vOk k l0 ⟨1, 1, 0, ⟨#[]⟩, []⟩ ∧ (tailV (k - 1) l0 ⟨1, 1, 0, ⟨#[]⟩, []⟩).1 = ⟨3, 0, false⟩ := fun k hk hk9 => by
      obtain ⟨j, rfl⟩ : ∃ j, k = j + 1 := ⟨k - 1, by omega⟩
      have h := vOk_val (k := j) (l0 := l0) (a := 1) (by omega) (by decide) (by omega)
      refine ⟨h.1, ?_⟩
      rw [show j + 1 - 1 = j from rfl, h.2, ← hz1]
    refine composed_calls l0 A0 B c0 lb.length cb I ((m + 1 : Nat) : Int) p (m : Int) (p + 2) (p + 7) K (Int.tdiv K 2) SP (Int.tmod (Int.tdiv K 2) 7) (vOk m l0) (vOk (m + 1) l0) (fun x T => vOk m l0 x ∧ (tailV (m - 1) l0 x).1 = T) w' (by rw [IntKind.wrap_i64]; omega) (by rw [IntKind.wrap_i64]; omega) (by rw [IntKind.wrap_i64]; omega) (by rw [IntKind.wrap_i64, ed]; omega) (by rw [IntKind.wrap_i64, ed3]; omega) ei hi4 hSP ?_ rfl ?_ ?_ ?_ ?_ ?_ ?_ hc0 (Kd.C_below hr0 hb) ⟨HB⟩ (ih' (p + 2) (by omega) (by omega)) (ih' (p + 7) (by omega) (by omega))
    · rw [ed, Int.tmod_eq_emod_of_nonneg (by omega)]; omega
    · exact fun x hx => ⟨_, OfR_all l0 m x (by omega) hx, hx, rfl⟩
    · have h := OfR_all l0 m _ (by omega) (hT m hm1 (by omega)).1
      rwa [(hT m hm1 (by omega)).2] at h
    · exact hT m hm1 (by omega)
    · obtain ⟨j, rfl⟩ : ∃ j, m = j + 1 := ⟨m - 1, by omega⟩
      have hs : 0 ≤ Int.tmod (Int.tdiv K 2) 7 ∧ Int.tmod (Int.tdiv K 2) 7 ≤ 6 := by rw [ed, Int.tmod_eq_emod_of_nonneg (by omega)]; omega
      have h := vOk_show (k := j) (l0 := l0) (a := 0) (s := Int.tmod (Int.tdiv K 2) 7) (by omega) (by decide) (by omega) hr0' hs.1 hs.2
      exact ⟨_, ⟨h.1, rfl⟩, h.2⟩
    · rintro K' x T hK ⟨hx, rfl⟩ ht
      exact vOk_one (by omega) hK hsep hx ht
    · rintro x T y U ⟨hx, rfl⟩ ht hn2 ⟨hy, rfl⟩ hu
      exact vOk_two (by omega) hsep hx ht hn2 hy hu
end Go.Proofs.YtmebkjdknhknbaaGreatDoor.H
end
section
namespace Go.Proofs.YtmebkjdknhknbaaGreatDoor.H
open Go.RowKit Go.Proofs.YtmebkjdknhknbaaGreatDoor.G Go.Proofs.YtmebkjdknhknbaaGreatDoorW.PrintWords Go.Proofs.YtmebkjdknhknbaaGreatDoorW.PrintLast Go.Proofs.YtmebkjdknhknbaaGreatDoorW.PrintMore
theorem info57s : (Tryz.prog.info? 57).map (·.size) = some 7 := by kernel_rfl
theorem info57k : (Tryz.prog.info? 57).map (fun i => (i.zero, i.size, i.bytes)) = some (some (.agg #[(.int .i64 0), (.int .i64 0), (.bool false), (.int .i64 0), (.int .i64 0), (.int .i64 0), (.string ⟨#[]⟩)]), k57.sz, 64) := info57
theorem setCell_other {W : World} {g j k T : Nat} {cs : Array Value} (hc : W.heap[g]? = some (.cells cs T (0, 0))) (v : Value) (hk : k ≠ g) : (W.setCell ⟨g, j, none⟩ v).heap[k]? = W.heap[k]? := by
  rw [setCell_eq_setRow W g j cs T (0, 0) v hc]
  exact setRow_other W g k _ hk
theorem R_setB {α : Type} {d : Kd α} {e : Nat} {W : World} {base B : Nat} {v : Value} {xs : List α} (h : d.R e W base (fun k => k < B) v xs) {g T : Nat} {cs : Array Value} (hb : W.heap[g]? = some (.cells cs T (0, 0))) (hg : B ≤ g) (j : Nat) (u : Value) : d.R e (W.setCell ⟨g, j, none⟩ u) base (fun k => k < B) v xs :=
  Kd.R_step h (fun k hk _ => setCell_other hb u (by omega))
theorem five (K : Int) (h : 0 ≤ K) : ∃ (I : Nat) (KT : Int), Int.tmod K 5 = (I : Int) ∧ I < 5 ∧ (#[.int .i64 2, .int .i64 3, .int .i64 3, .int .i64 1, .int .i64 2] : Array Value)[I]? = some (.int .i64 KT) ∧ (I = 4 → KT = 2) ∧ (KT = 2 ∨ KT = 3 ∨ KT = 1) := by
  rw [Int.tmod_eq_emod_of_nonneg h]
  have : K % 5 = 0 ∨ K % 5 = 1 ∨ K % 5 = 2 ∨ K % 5 = 3 ∨ K % 5 = 4 := by omega
  rcases this with e | e | e | e | e <;> rw [e]
  · exact ⟨0, 2, rfl, by decide, rfl, by decide, by decide⟩
  · exact ⟨1, 3, rfl, by decide, rfl, by decide, by decide⟩
  · exact ⟨2, 3, rfl, by decide, rfl, by decide, by decide⟩
  · exact ⟨3, 1, rfl, by decide, rfl, by decide, by decide⟩
  · exact ⟨4, 2, rfl, by decide, rfl, by decide, by decide⟩
theorem made_aOk {KT sc ru d0 : Int} {nl : Bool} {I : Nat} {s : ByteArray} (h : (KT = 2 ∧ sc = 6) ∨ (KT ≠ 2 ∧ sc = 0)) (hr : ru = 0 ∨ (ru = 1 ∧ I = 4 ∧ nl = false)) (h4 : I = 4 → KT = 2) (hk : KT = 2 ∨ KT = 3 ∨ KT = 1) : aOk ⟨⟨KT, sc, nl⟩, ru, ⟨d0, 0, s⟩⟩ := by
  refine ⟨?_, ?_⟩
  · rcases hr with hr | ⟨h1, h2, h3⟩
    · exact .inl hr
    · exact .inr ⟨h1, h4 h2, h3⟩
  · show (KT = 2 ∧ sc = 6) ∨ (KT = 3 ∧ sc = 0) ∨ (KT = 1 ∧ sc = 0)
    rcases hk with rfl | rfl | rfl <;> simp at h ⊢ <;> exact h
theorem four (K : Int) (h : 0 ≤ K) : ∃ m : Nat, IntKind.i64.wrap (1 + Int.tmod K 4) = (m : Int) ∧ 1 ≤ m ∧ m ≤ 4 := by
  rw [Int.tmod_eq_emod_of_nonneg h]
  exact ⟨(1 + K % 4).toNat, by rw [IntKind.wrap_i64]; omega, by omega, by omega⟩
set_option maxHeartbeats 16000000 in
set_option maxRecDepth 100000 in
theorem Made_calls (B : Option Addr) (nb cb : Nat) (kv : Int → Int) (hkv : ∀ i, 0 ≤ kv i ∧ kv i ≤ 255) (w : World)
    (HBy : Aside0 (∀ i : Int, 0 ≤ i → i ≤ 100 → ∀ w', Below w.heap.size w w' → Calls Tryz.prog 36 #[.slice B nb cb, .int .i64 i] w' fun e w'' => e = .returned (.int .i64 (kv i)) ∧ Below w'.heap.size w' w'')) :
    Calls Tryz.prog 20 #[.slice B nb cb] w fun e w' => ∃ v l0, e = .returned v ∧ Kd.R k57 57 w' w.heap.size (fun _ => True) v l0 ∧ atOk l0 ∧ Below w.heap.size w w' := by
  have hu := Tryz.underlying39
  have hu3 := Tryz.underlying49
  have hu4 := Tryz.underlying57
  have HK00 := Aside0.mk (HBy.out 0 (by decide) (by decide))
  have hr0 := hkv 0
  obtain ⟨K0, hK0⟩ : ∃ K, kv 0 = K := ⟨_, rfl⟩
  rw [hK0] at HK00 hr0
  have HK0 := HK00
  clear HK00 hK0
  obtain ⟨m, hm, hm1, hm4⟩ := four K0 hr0.1
  have HX := Aside0.mk (Bxs.start w)
  go_enter Tryz.func20, Tryz.ntmps20
  go_upto_region 0 with (fail)
  refine Reg.det [(some 2, Reg.Dv.c (.slice none 0 0))] [] 62 rfl (by kernel_rfl) (by kernel_rfl) ?s1 ?_
  case s1 =>
    intro iq oq pq hiq hoq hpq ρ ev W S hE hO ec ef hB hft hΦ
    simp only [Reg.SV] at hE
    obtain ⟨e2, _⟩ := hE
    obtain rfl : iq = 0 := by have : iq < 1 := hiq; omega
    cases hoq; cases hpq
    all_goals (first | exact Reg.D.mv hB | skip)
    all_goals (refine Reg.D.cv hB ?_; go_simp; try (first | done | rfl | (simp; done) | (intro h; omega)))
  intro ρ W0 S hB hft hap hΦ
  simp only [Reg.SV, Reg.SF, Nat.reduceAdd]
  have HX := Aside0.mk (HX.out.call hB)
  clear hΦ hft hap 
  go_upto_region 1 with (fail)
  try simp only [Reg.SF]
  refine Reg.det [(some 8, Reg.Dv.c (.agg #[.int .i64 2, .int .i64 6, .bool false])), (some 9, Reg.Dv.c (.agg #[.int .i64 2, .int .i64 0, .string (⟨#[]⟩ : ByteArray)])), (some 10, Reg.Dv.c (.agg #[.int .i64 2, .int .i64 6, .bool false, .int .i64 0, .int .i64 2, .int .i64 0, .string (⟨#[]⟩ : ByteArray)])), (some 11, Reg.Dv.c (.agg #[.int .i64 3, .int .i64 0, .bool false])), (some 12, Reg.Dv.c (.agg #[.int .i64 3, .int .i64 0, .string (⟨#[120]⟩ : ByteArray)])), (some 13, Reg.Dv.c (.agg #[.int .i64 3, .int .i64 0, .bool false, .int .i64 0, .int .i64 3, .int .i64 0, .string (⟨#[120]⟩ : ByteArray)])), (some 14, Reg.Dv.blk 14 57 2 #[.int .i64 2, .int .i64 6, .bool false, .int .i64 0, .int .i64 2, .int .i64 0, .string (⟨#[]⟩ : ByteArray), .int .i64 3, .int .i64 0, .bool false, .int .i64 0, .int .i64 3, .int .i64 0, .string (⟨#[120]⟩ : ByteArray)]), (some 3, Reg.Dv.u [14] (fun l => (l.headD undef)))] [] 62 rfl (by kernel_rfl) (by kernel_rfl) ?s2 ?_
  case s2 =>
    intro iq oq pq hiq hoq hpq ρ ev W S hE hO ec ef hB hft hΦ
    simp only [Reg.SV] at hE
    obtain ⟨e8, e9, e10, e11, e12, e13, e14, e3, _⟩ := hE
    rcases Reg.lt8 hiq with rfl | rfl | rfl | rfl | rfl | rfl | rfl | rfl
    all_goals (cases hoq; cases hpq)
    rotate_left 7
    · obtain ⟨_, h14, _⟩ := hΦ 6 _ rfl rfl rfl
      replace h14 : ρ 14 = _ := h14
      refine Reg.D.uv hB ?_
      go_simp
      try (first | done | rfl | (simp; done) | (intro h; omega))
    rotate_right 7
    rotate_left 6
    · refine Reg.D.blk hB ?_
      go_simp
      try (first | rfl | exact ⟨rfl, rfl⟩)
    rotate_right 6
    rotate_left 4
    · refine Reg.D.cc (g := 29) (args := #[.string (⟨#[120]⟩ : ByteArray)]) hB (by go_simp; try rfl) ?_
      exact chapmanref16_Texted.calls (⟨#[120]⟩ : ByteArray) 3 0 (⟨#[120]⟩ : ByteArray) W rfl
    rotate_right 4
    all_goals (refine Reg.D.cv hB ?_; go_simp; try (first | done | rfl | (simp; done) | (intro h; omega)))
  intro ρ W1 S hB hft hap hΦ
  simp only [Reg.SV, Reg.SF, Nat.reduceAdd]
  obtain ⟨g14, e14, s14, hg14, _, b14⟩ := hΦ 6 _ rfl rfl
  replace e14 : ρ 14 = .slice (some ⟨g14, 0, none⟩) 2 2 := e14
  try simp only [e14]
  replace b14 : W1.heap[g14]? = some (.cells #[.int .i64 2, .int .i64 6, .bool false, .int .i64 0, .int .i64 2, .int .i64 0, .string (⟨#[]⟩ : ByteArray), .int .i64 3, .int .i64 0, .bool false, .int .i64 0, .int .i64 3, .int .i64 0, .string (⟨#[120]⟩ : ByteArray)] 57 (0, 0)) := b14
  have HX := Aside0.mk (HX.out.join (Bxs.one hB hg14 b14))
  clear hΦ hft hap 
  have HR : Aside0 (Kd.R k57 57 W1 w.heap.size (fun _ => True) (.slice (some ⟨g14, 0, none⟩) 2 2) [at0, at1]) := ⟨R_of_blk (HX.out.at 0 rfl) (HX.out.ge 0 rfl) trivial (Reps.c7 (k57_mkM _ _ _ at0) (Reps.c7 (k57_mkM _ _ _ at1) (Reps.none _ _))) (show (2 : Nat) ≤ 9223372036854775807 by decide)⟩
  have HX2 : Aside0 (Bxs w W1 []) := ⟨⟨HX.out.below, fun _ h => absurd h List.not_mem_nil, List.nodup_nil⟩⟩
  go_wp2_with fail
  obtain ⟨v3, hv3⟩ : ∃ v, v = (.slice (some ⟨g14, 0, none⟩) 2 2 : Value) := ⟨_, rfl⟩
  rw [← hv3] at HR ⊢
  clear hv3 HX b14
  have HX := HX2
  clear HX2
  go_loopg [3, 4] m (fun kq v3 v4 w' => ∃ (i : Nat) (l : List S57), v4 = .int .i64 i ∧ Aside0 (kq + i = m) ∧ Aside0 (Kd.R k57 57 w' w.heap.size (fun _ => True) v3 l) ∧ Aside0 (mOk l i) ∧ Aside0 (Bxs w w' []))
  case atStart => exact ⟨0, [at0, at1], rfl, ⟨by omega⟩, HR, ⟨mOk_start⟩, HX⟩
  case round =>
    clear HX HR
    obtain ⟨i, l, rfl, HKQ, HO, HL, HX⟩ := hrel
    obtain ⟨A3, c3, rfl⟩ := Kd.R_slice HO.out
    have hle : i ≤ m := by have := HKQ.out; omega
    have w2 : IntKind.i64.wrap ((i : Int) + 1) = (i : Int) + 1 := by rw [IntKind.wrap_i64]; omega
    by_cases hi : i < m
    · have d1 : decide ((i : Int) < (m : Int)) = true := decide_eq_true (by omega)
      have HK1 := Aside0.mk (HBy.out ((i : Int) + 1) (by omega) (by omega))
      have hr1 := hkv ((i : Int) + 1)
      obtain ⟨K, hK⟩ : ∃ K, kv ((i : Int) + 1) = K := ⟨_, rfl⟩
      rw [hK] at HK1 hr1
      have HK := HK1
      clear HK1 hK
      have hd5 : IntKind.i64.wrap (Int.tdiv K 5) = Int.tdiv K 5 := by rw [IntKind.wrap_i64, Int.tdiv_eq_ediv_of_nonneg hr1.1]; omega
      have h5 := five K hr1.1
      go_upto_region 3 with (fail)
      try simp only [Reg.SF]
      refine Reg.det [(some 15, Reg.Dv.c (.int .i64 (i : Int))), (some 16, Reg.Dv.c (.slice B nb cb)), (some 17, Reg.Dv.c (.int .i64 K0)), (some 18, Reg.Dv.c (.int .i64 (Int.tmod K0 4))), (some 19, Reg.Dv.c (.int .i64 (m : Int))), (some 20, Reg.Dv.c (.bool true))] [] 62 rfl (by kernel_rfl) (by kernel_rfl) ?s3 ?_
      case s3 =>
        intro iq oq pq hiq hoq hpq ρ ev W S hE hO ec ef hB hft hΦ
        have e0 : ev (.tmp 0) = .slice B nb cb := hO 0 rfl
        have e4 : ev (.tmp 4) = .int .i64 (i : Int) := hO 4 rfl
        simp only [Reg.SV] at hE
        obtain ⟨e15, e16, e17, e18, e19, e20, _⟩ := hE
        rcases Reg.lt6 hiq with rfl | rfl | rfl | rfl | rfl | rfl
        all_goals (cases hoq; cases hpq)
        rotate_left 2
        · refine Reg.D.cc (g := 36) (args := #[.slice B nb cb, .int .i64 0]) hB (by go_simp; try rfl) ?_
          exact HK0.out W (below_step HX.out.below hB)
        rotate_right 2
        all_goals (first | exact Reg.D.mv hB | skip)
        all_goals (refine Reg.D.cv hB ?_; go_simp; try (first | done | rfl | (exact hm) | (exact d1) | (exact w2) | (simp [hm]; done) | (simp [d1]; done) | (simp; omega)))
      intro ρ W3 S hB hft hap hΦ
      simp only [Reg.SV, Reg.SF, Nat.reduceAdd]
      have HX := Aside0.mk (HX.out.call hB)
      replace HO := Aside0.mk (Kd.R_below HO.out hB)
      clear hΦ hft hap 
      go_upto_region 5 with (fail)
      try simp only [Reg.SF]
      refine Reg.det [(some 23, Reg.Dv.c (.slice B nb cb)), (some 24, Reg.Dv.c (.int .i64 (i : Int))), (some 25, Reg.Dv.c (.int .i64 ((i : Int) + 1))), (some 26, Reg.Dv.c (.int .i64 K)), (some 5, Reg.Dv.c (.int .i64 K))] [] 62 rfl (by kernel_rfl) (by kernel_rfl) ?s4 ?_
      case s4 =>
        intro iq oq pq hiq hoq hpq ρ ev W S hE hO ec ef hB hft hΦ
        have e0 : ev (.tmp 0) = .slice B nb cb := hO 0 rfl
        have e4 : ev (.tmp 4) = .int .i64 (i : Int) := hO 4 rfl
        simp only [Reg.SV] at hE
        obtain ⟨e23, e24, e25, e26, e5, _⟩ := hE
        rcases Reg.lt5 hiq with rfl | rfl | rfl | rfl | rfl
        all_goals (cases hoq; cases hpq)
        rotate_left 3
        · refine Reg.D.cc (g := 36) (args := #[.slice B nb cb, .int .i64 ((i : Int) + 1)]) hB (by go_simp; try rfl) ?_
          exact HK.out W (below_step HX.out.below hB)
        rotate_right 3
        all_goals (first | exact Reg.D.mv hB | skip)
        all_goals (refine Reg.D.cv hB ?_; go_simp; try (first | done | rfl | (exact hm) | (exact d1) | (exact w2) | (simp [hm]; done) | (simp [d1]; done) | (simp; omega)))
      intro ρ W5 S hB hft hap hΦ
      simp only [Reg.SV, Reg.SF, Nat.reduceAdd]
      have HX := Aside0.mk (HX.out.call hB)
      replace HO := Aside0.mk (Kd.R_below HO.out hB)
      clear hΦ hft hap 
      have RA := Aside0.mk (Kd.R_mono (ok' := fun k => k < W5.heap.size) (Kd.R_bound HO.out) (fun k hk => hk.2.2.1))
      clear HO
      obtain ⟨I, KT, hI, hI5, hKA, hT4, hKB⟩ := h5
      obtain ⟨nul, hN⟩ : ∃ b, (Int.tmod (Int.tdiv K 5) 2 == 1) = b := ⟨_, rfl⟩
      obtain ⟨c7, hc7⟩ : ∃ b, (KT == 2) = b := ⟨_, rfl⟩
      obtain ⟨c10, hc10⟩ : ∃ b, ((I : Int) == 4) = b := ⟨_, rfl⟩
      have HN := Aside0.mk hN
      have C7 := Aside0.mk hc7
      have C10 := Aside0.mk hc10
      clear hN hc7 hc10
      go_upto_region 6 with (fail)
      try simp only [Reg.SF]
      refine Reg.det [(some 27, Reg.Dv.blk 27 3 5 #[.int .i64 2, .int .i64 3, .int .i64 3, .int .i64 1, .int .i64 2]), (some 28, Reg.Dv.c (.int .i64 K)), (some 29, Reg.Dv.c (.int .i64 (I : Int))), (some 30, Reg.Dv.u [27] (fun l => elemPtr (l.headD undef) I)), (some 31, Reg.Dv.c (.int .i64 KT)), (some 32, Reg.Dv.c (.int .i64 K)), (some 33, Reg.Dv.c (.int .i64 (Int.tdiv K 5))), (some 34, Reg.Dv.c (.int .i64 (Int.tmod (Int.tdiv K 5) 2))), (some 35, Reg.Dv.c (.bool nul)), (some 36, Reg.Dv.c (.agg #[.int .i64 KT, .int .i64 0, .bool nul])), (some 6, Reg.Dv.box 6 49 (fun _ => #[.int .i64 0, .int .i64 0, .bool false]) [] true), (none, Reg.Dv.box 6 49 (fun _ => #[.int .i64 KT, .int .i64 0, .bool nul]) [] false)] [(10, 11)] 62 rfl (by kernel_rfl) (by kernel_rfl) ?s5 ?_
      case s5 =>
        intro iq oq pq hiq hoq hpq ρ ev W S hE hO ec ef hB hft hΦ
        have e5 : ev (.tmp 5) = .int .i64 K := hO 5 rfl
        simp only [Reg.SV] at hE
        obtain ⟨e27, e28, e29, e30, e31, e32, e33, e34, e35, e36, e6, _⟩ := hE
        rcases Reg.lt12 hiq with rfl | rfl | rfl | rfl | rfl | rfl | rfl | rfl | rfl | rfl | rfl | rfl
        all_goals (cases hoq; cases hpq)
        rotate_left 11
        · exact Reg.D.fill 10 49 (.tmp 6) (.tmp 36) hB e6 (by first | assumption | rfl | (simp [*]; done)) (hΦ 10 _ rfl rfl rfl) info49s (by first | rfl | (simp only [Reg.SV]; rfl))
        rotate_right 11
        rotate_left 10
        · refine Reg.D.box hB ?_
          go_simp
          try rfl
        rotate_right 10
        rotate_left 4
        · obtain ⟨gb, h27, _, _, _, hb27⟩ := hΦ 0 _ rfl rfl rfl
          replace h27 : ρ 27 = .slice (some ⟨gb, 0, none⟩) 5 5 := h27
          have hc27 : W.cell? ⟨gb, I, none⟩ = some (.int .i64 KT) := (blk_cell hb27 I).trans hKA
          rw [h27] at e30
          change ev (.tmp 30) = .pointer (some ⟨gb, 0 + I, none⟩) at e30
          refine Reg.D.cv hB ?_
          go_simp
        rotate_right 4
        rotate_left 3
        · obtain ⟨_, h27, _⟩ := hΦ 0 _ rfl rfl rfl
          replace h27 : ρ 27 = _ := h27
          refine Reg.D.uv hB ?_
          go_simp
          try (first | done | rfl | (exact hI) | (exact hd5) | (rw [h27]; rfl) | (rw [if_pos (show (I : Int) < 5 by omega)]; simp [elemPtr]; done) | (simp [h27, elemPtr]; done) | (simp [hI]; done) | (simp [HN.out]; done) | (simp; omega))
        rotate_right 3
        · refine Reg.D.blk hB ?_
          go_simp
          try (first | rfl | exact ⟨rfl, rfl⟩)
        all_goals (first | exact Reg.D.mv hB | skip)
        all_goals (refine Reg.D.cv hB ?_; go_simp; try (first | done | rfl | (exact hI) | (exact hd5) | (rw [h27]; rfl) | (rw [if_pos (show (I : Int) < 5 by omega)]; simp [elemPtr]; done) | (simp [h27, elemPtr]; done) | (simp [hI]; done) | (simp [HN.out]; done) | (simp; omega)))
      intro ρ W6 S hB hft hap hΦ
      simp only [Reg.SV, Reg.SF, Nat.reduceAdd]
      obtain ⟨g27, e27, s27, hg27, _, b27⟩ := hΦ 0 _ rfl rfl
      replace e27 : ρ 27 = .slice (some ⟨g27, 0, none⟩) 5 5 := e27
      obtain ⟨g6, e6, s6, hg6, _, b6⟩ := hΦ 11 _ rfl rfl
      replace e6 : ρ 6 = .pointer (some ⟨g6, 0, none⟩) := e6
      try simp only [e27, e6]
      replace b27 : W6.heap[g27]? = some (.cells #[.int .i64 2, .int .i64 3, .int .i64 3, .int .i64 1, .int .i64 2] 3 (0, 0)) := b27
      replace b6 : W6.heap[g6]? = some (.cells #[.int .i64 KT, .int .i64 0, .bool nul] 49 (0, 0)) := b6
      have HX := Aside0.mk (HX.out.join ((Bxs.one hB hg27 b27).more hg6 b6 (by intro p hp; simp only [List.mem_cons, List.mem_singleton, List.not_mem_nil, or_false] at hp; rcases hp with rfl <;> (intro e; dsimp only at e; subst e; first | exact absurd (hap _ _ _ s27 s6) (by decide)))))
      replace RA := Aside0.mk (Kd.R_below RA.out hB)
      clear hΦ hft hap 
      go_upto_region 7 with (fail)
      try simp only [Reg.SF]
      have mg6_0 : _ = some (.int .i64 KT : Value) := HX.out.cell 0 0 rfl rfl
      refine Reg.det [(some 37, Reg.Dv.c (.pointer (some ⟨g6, 0, none⟩))), (some 38, Reg.Dv.c (.int .i64 KT)), (some 39, Reg.Dv.c (.bool c7))] [] 62 rfl (by kernel_rfl) (by kernel_rfl) ?s6 ?_
      case s6 =>
        intro iq oq pq hiq hoq hpq ρ ev W S hE hO ec ef hB hft hΦ
        have e6 : ev (.tmp 6) = .pointer (some ⟨g6, 0, none⟩) := hO 6 rfl
        have mg6_0' := pw_cell_below hB mg6_0
        simp only [Reg.SV] at hE
        obtain ⟨e37, e38, e39, _⟩ := hE
        rcases Reg.lt3 hiq with rfl | rfl | rfl
        all_goals (cases hoq; cases hpq)
        all_goals (refine Reg.D.cv hB ?_; go_simp; try (first | done | rfl | (simp [C7.out]; done) | (simp; omega)))
      intro ρ W7 S hB hft hap hΦ
      simp only [Reg.SV, Reg.SF, Nat.reduceAdd]
      have HX := Aside0.mk (HX.out.call hB)
      replace RA := Aside0.mk (Kd.R_below RA.out hB)
      clear hΦ hft hap mg6_0
      go_upto_if 39 with (fail)
      go_cut [] (fun wd => ∃ sc : Int, Aside0 (Bxs w wd [(g6, 49, #[.int .i64 KT, .int .i64 sc, .bool nul]), (g27, 3, #[.int .i64 2, .int .i64 3, .int .i64 3, .int .i64 1, .int .i64 2])]) ∧ Aside0 (Kd.R k57 57 wd w.heap.size (fun k => k < W5.heap.size) (.slice A3 l.length c3) l) ∧ Aside0 ((KT = 2 ∧ sc = 6) ∨ (KT ≠ 2 ∧ sc = 0)))
      case first =>
        cases c7 with
        | true =>
          go_upto_region 8 with (fail)
          try simp only [Reg.SF]
          refine Reg.det [(some 40, Reg.Dv.c (.pointer (some ⟨g6, 1, none⟩)))] [] 62 rfl (by kernel_rfl) (by kernel_rfl) ?s7 ?_
          case s7 =>
            intro iq oq pq hiq hoq hpq ρ ev W S hE hO ec ef hB hft hΦ
            have e6 : ev (.tmp 6) = .pointer (some ⟨g6, 0, none⟩) := hO 6 rfl
            simp only [Reg.SV] at hE
            obtain ⟨e40, _⟩ := hE
            obtain rfl : iq = 0 := by have : iq < 1 := hiq; omega
            cases hoq; cases hpq
            all_goals (refine Reg.D.cv hB ?_; go_simp; try (first | done | rfl | (simp [C7.out]; done) | (simp; omega)))
          intro ρ W8 S hB hft hap hΦ
          simp only [Reg.SV, Reg.SF, Nat.reduceAdd]
          have HX := Aside0.mk (HX.out.call hB)
          replace RA := Aside0.mk (Kd.R_below RA.out hB)
          clear hΦ hft hap 
          have fz1_ := HX.out.frz 0 1 rfl
          have cl1_ := HX.out.cell 0 1 rfl rfl
          go_wp2_with fail
          go_meet
          have HY0 := HX.out.set (L1 := []) 1 (.int .i64 6)
          have RY0 := R_setB RA.out (HX.out.at 0 rfl) hg6 1 (.int .i64 6)
          case rel => exact ⟨6, ⟨HY0⟩, ⟨RY0⟩, ⟨.inl ⟨by have := C7.out; simpa using this, rfl⟩⟩⟩
        | false =>
          go_wp2_with fail
          go_meet
          case rel => exact ⟨0, HX, RA, ⟨.inr ⟨by have := C7.out; simpa using this, rfl⟩⟩⟩
      clear HX RA
      obtain ⟨sc, HX, RA, HSC⟩ := hcut
      generalize wc = W8c at *
      have RC := Aside0.mk (Kd.R_mono (ok' := fun k => k < W8c.heap.size) (Kd.R_bound RA.out) (fun k hk => hk.2.2.1))
      clear RA
      go_upto_region 9 with (fail)
      try simp only [Reg.SF]
      have mg6_0 : _ = some (.int .i64 KT : Value) := HX.out.cell 0 0 rfl rfl
      have mg6_1 : _ = some (.int .i64 sc : Value) := HX.out.cell 0 1 rfl rfl
      have mg6_2 : _ = some (.bool nul : Value) := HX.out.cell 0 2 rfl rfl
      refine Reg.det [(some 41, Reg.Dv.c (.agg #[.int .i64 KT, .int .i64 sc, .bool nul])), (some 42, Reg.Dv.c (.agg #[.int .i64 KT, .int .i64 sc, .bool nul, .int .i64 0, .int .i64 0, .int .i64 0, .string (⟨#[]⟩ : ByteArray)])), (some 7, Reg.Dv.box 7 57 (fun _ => #[.int .i64 0, .int .i64 0, .bool false, .int .i64 0, .int .i64 0, .int .i64 0, .string (⟨#[]⟩ : ByteArray)]) [] true), (none, Reg.Dv.box 7 57 (fun _ => #[.int .i64 KT, .int .i64 sc, .bool nul, .int .i64 0, .int .i64 0, .int .i64 0, .string (⟨#[]⟩ : ByteArray)]) [] false)] [(2, 3)] 62 rfl (by kernel_rfl) (by kernel_rfl) ?s8 ?_
      case s8 =>
        intro iq oq pq hiq hoq hpq ρ ev W S hE hO ec ef hB hft hΦ
        have e6 : ev (.tmp 6) = .pointer (some ⟨g6, 0, none⟩) := hO 6 rfl
        have mg6_0' := pw_cell_below hB mg6_0
        have mg6_1' := pw_cell_below hB mg6_1
        have mg6_2' := pw_cell_below hB mg6_2
        simp only [Reg.SV] at hE
        obtain ⟨e41, e42, e7, _⟩ := hE
        rcases Reg.lt4 hiq with rfl | rfl | rfl | rfl
        all_goals (cases hoq; cases hpq)
        rotate_left 3
        · exact Reg.D.fill 2 57 (.tmp 7) (.tmp 42) hB e7 (by first | assumption | rfl | (simp [*]; done)) (hΦ 2 _ rfl rfl rfl) info57s (by first | rfl | (simp only [Reg.SV]; rfl))
        rotate_right 3
        rotate_left 2
        · refine Reg.D.box hB ?_
          go_simp
          try rfl
        rotate_right 2
        all_goals (refine Reg.D.cv hB ?_; go_simp; try (first | done | rfl | (simp [C7.out]; done) | (simp; omega)))
      intro ρ W9 S hB hft hap hΦ
      simp only [Reg.SV, Reg.SF, Nat.reduceAdd]
      obtain ⟨g7, e7, s7, hg7, _, b7⟩ := hΦ 3 _ rfl rfl
      replace e7 : ρ 7 = .pointer (some ⟨g7, 0, none⟩) := e7
      try simp only [e7]
      replace b7 : W9.heap[g7]? = some (.cells #[.int .i64 KT, .int .i64 sc, .bool nul, .int .i64 0, .int .i64 0, .int .i64 0, .string (⟨#[]⟩ : ByteArray)] 57 (0, 0)) := b7
      have HX := Aside0.mk (HX.out.join (Bxs.one hB hg7 b7))
      replace RC := Aside0.mk (Kd.R_below RC.out hB)
      clear hΦ hft hap mg6_0 mg6_1 mg6_2
      go_upto_region 10 with (fail)
      try simp only [Reg.SF]
      refine Reg.det [(some 43, Reg.Dv.c (.int .i64 K)), (some 44, Reg.Dv.c (.int .i64 (I : Int))), (some 45, Reg.Dv.c (.bool c10))] [] 62 rfl (by kernel_rfl) (by kernel_rfl) ?s9 ?_
      case s9 =>
        intro iq oq pq hiq hoq hpq ρ ev W S hE hO ec ef hB hft hΦ
        have e5 : ev (.tmp 5) = .int .i64 K := hO 5 rfl
        simp only [Reg.SV] at hE
        obtain ⟨e43, e44, e45, _⟩ := hE
        rcases Reg.lt3 hiq with rfl | rfl | rfl
        all_goals (cases hoq; cases hpq)
        all_goals (first | exact Reg.D.mv hB | skip)
        all_goals (refine Reg.D.cv hB ?_; go_simp; try (first | done | rfl | (exact hI) | (simp [hI]; done) | (simp [C10.out]; done) | (simp; omega)))
      intro ρ W10 S hB hft hap hΦ
      simp only [Reg.SV, Reg.SF, Nat.reduceAdd]
      have HX := Aside0.mk (HX.out.call hB)
      replace RC := Aside0.mk (Kd.R_below RC.out hB)
      clear hΦ hft hap 
      go_upto_if 45 with (fail)
      go_cut [] (fun wd => ∃ (nl : Bool) (ru : Int), Aside0 (Bxs w wd [(g7, 57, #[.int .i64 KT, .int .i64 sc, .bool nl, .int .i64 ru, .int .i64 0, .int .i64 0, .string (⟨#[]⟩ : ByteArray)]), (g6, 49, #[.int .i64 KT, .int .i64 sc, .bool nul]), (g27, 3, #[.int .i64 2, .int .i64 3, .int .i64 3, .int .i64 1, .int .i64 2])]) ∧ Aside0 (Kd.R k57 57 wd w.heap.size (fun k => k < W8c.heap.size) (.slice A3 l.length c3) l) ∧ Aside0 (ru = 0 ∨ (ru = 1 ∧ I = 4 ∧ nl = false)))
      case first =>
        cases c10 with
        | true =>
          go_upto_region 11 with (fail)
          try simp only [Reg.SF]
          refine Reg.det [(some 46, Reg.Dv.c (.pointer (some ⟨g7, 3, none⟩)))] [] 62 rfl (by kernel_rfl) (by kernel_rfl) ?s10 ?_
          case s10 =>
            intro iq oq pq hiq hoq hpq ρ ev W S hE hO ec ef hB hft hΦ
            have e7 : ev (.tmp 7) = .pointer (some ⟨g7, 0, none⟩) := hO 7 rfl
            simp only [Reg.SV] at hE
            obtain ⟨e46, _⟩ := hE
            obtain rfl : iq = 0 := by have : iq < 1 := hiq; omega
            cases hoq; cases hpq
            all_goals (refine Reg.D.cv hB ?_; go_simp; try (first | done | rfl | (exact hI) | (simp [hI]; done) | (simp [C10.out]; done) | (simp; omega)))
          intro ρ W11 S hB hft hap hΦ
          simp only [Reg.SV, Reg.SF, Nat.reduceAdd]
          have HX := Aside0.mk (HX.out.call hB)
          replace RC := Aside0.mk (Kd.R_below RC.out hB)
          clear hΦ hft hap 
          have fz3_ := HX.out.frz 0 3 rfl
          have cl3_ := HX.out.cell 0 3 rfl rfl
          go_upto_region 12 with (fail)
          try simp only [Reg.SF]
          have HY0 := HX.out.set (L1 := []) 3 (.int .i64 1)
          have RY0 := R_setB RC.out (HX.out.at 0 rfl) hg7 3 (.int .i64 1)
          clear HX RC fz3_ cl3_ 
          generalize World.setCell _ ⟨g7, 3, none⟩ (.int .i64 1) = W11s at *
          have HX := Aside0.mk HY0
          have RC := Aside0.mk RY0
          clear HY0 RY0
          go_upto_region 12 with (fail)
          try simp only [Reg.SF]
          refine Reg.det [(some 47, Reg.Dv.c (.pointer (some ⟨g7, 0, none⟩))), (some 48, Reg.Dv.c (.pointer (some ⟨g7, 2, none⟩)))] [] 62 rfl (by kernel_rfl) (by kernel_rfl) ?s11 ?_
          case s11 =>
            intro iq oq pq hiq hoq hpq ρ ev W S hE hO ec ef hB hft hΦ
            have e7 : ev (.tmp 7) = .pointer (some ⟨g7, 0, none⟩) := hO 7 rfl
            simp only [Reg.SV] at hE
            obtain ⟨e47, e48, _⟩ := hE
            rcases Reg.lt2 hiq with rfl | rfl
            all_goals (cases hoq; cases hpq)
            all_goals (refine Reg.D.cv hB ?_; go_simp; try (first | done | rfl | (exact hI) | (simp [hI]; done) | (simp [C10.out]; done) | (simp; omega)))
          intro ρ W12 S hB hft hap hΦ
          simp only [Reg.SV, Reg.SF, Nat.reduceAdd]
          have HX := Aside0.mk (HX.out.call hB)
          replace RC := Aside0.mk (Kd.R_below RC.out hB)
          clear hΦ hft hap 
          have fz2_ := HX.out.frz 0 2 rfl
          have cl2_ := HX.out.cell 0 2 rfl rfl
          go_wp2_with fail
          go_meet
          have HY0 := HX.out.set (L1 := []) 2 (.bool false)
          have RY0 := R_setB RC.out (HX.out.at 0 rfl) hg7 2 (.bool false)
          case rel => exact ⟨false, 1, ⟨HY0⟩, ⟨RY0⟩, ⟨.inr ⟨rfl, by have := C10.out; simp at this; omega, rfl⟩⟩⟩
        | false =>
          go_wp2_with fail
          go_meet
          case rel => exact ⟨nul, 0, HX, RC, ⟨.inl rfl⟩⟩
      clear HX RC
      obtain ⟨nl, ru, HX, RC, HRU⟩ := hcut
      generalize wc = W12c at *
      go_upto_region 13 with (fail)
      try simp only [Reg.SF]
      have mg7_2 : _ = some (.bool nl : Value) := HX.out.cell 0 2 rfl rfl
      refine Reg.det [(some 49, Reg.Dv.c (.pointer (some ⟨g7, 0, none⟩))), (some 50, Reg.Dv.c (.pointer (some ⟨g7, 2, none⟩))), (some 51, Reg.Dv.c (.bool nl)), (some 52, Reg.Dv.c (.bool (!nl)))] [] 62 rfl (by kernel_rfl) (by kernel_rfl) ?s12 ?_
      case s12 =>
        intro iq oq pq hiq hoq hpq ρ ev W S hE hO ec ef hB hft hΦ
        have e7 : ev (.tmp 7) = .pointer (some ⟨g7, 0, none⟩) := hO 7 rfl
        have mg7_2' := pw_cell_below hB mg7_2
        simp only [Reg.SV] at hE
        obtain ⟨e49, e50, e51, e52, _⟩ := hE
        rcases Reg.lt4 hiq with rfl | rfl | rfl | rfl
        all_goals (cases hoq; cases hpq)
        all_goals (refine Reg.D.cv hB ?_; go_simp; try (first | done | rfl | (simp; done) | (intro h; omega)))
      intro ρ W13 S hB hft hap hΦ
      simp only [Reg.SV, Reg.SF, Nat.reduceAdd]
      have HX := Aside0.mk (HX.out.call hB)
      replace RC := Aside0.mk (Kd.R_below RC.out hB)
      clear hΦ hft hap mg7_2
      go_upto_if 52 with (fail)
      go_cut [] (fun wd => ∃ d0 : Int, Aside0 (Bxs w wd [(g7, 57, #[.int .i64 KT, .int .i64 sc, .bool nl, .int .i64 ru, .int .i64 d0, .int .i64 0, .string (⟨#[]⟩ : ByteArray)]), (g6, 49, #[.int .i64 KT, .int .i64 sc, .bool nul]), (g27, 3, #[.int .i64 2, .int .i64 3, .int .i64 3, .int .i64 1, .int .i64 2])]) ∧ Aside0 (Kd.R k57 57 wd w.heap.size (fun k => k < W8c.heap.size) (.slice A3 l.length c3) l))
      case first =>
        cases nl with
        | false =>
          go_upto_region 14 with (fail)
          try simp only [Reg.SF]
          have mg6_0 : _ = some (.int .i64 KT : Value) := HX.out.cell 1 0 rfl rfl
          refine Reg.det [(some 53, Reg.Dv.c (.pointer (some ⟨g6, 0, none⟩))), (some 54, Reg.Dv.c (.int .i64 KT)), (some 55, Reg.Dv.c (.agg #[.int .i64 KT, .int .i64 0, .string (⟨#[]⟩ : ByteArray)])), (some 56, Reg.Dv.c (.pointer (some ⟨g7, 4, none⟩)))] [] 62 rfl (by kernel_rfl) (by kernel_rfl) ?s13 ?_
          case s13 =>
            intro iq oq pq hiq hoq hpq ρ ev W S hE hO ec ef hB hft hΦ
            have e6 : ev (.tmp 6) = .pointer (some ⟨g6, 0, none⟩) := hO 6 rfl
            have e7 : ev (.tmp 7) = .pointer (some ⟨g7, 0, none⟩) := hO 7 rfl
            have mg6_0' := pw_cell_below hB mg6_0
            simp only [Reg.SV] at hE
            obtain ⟨e53, e54, e55, e56, _⟩ := hE
            rcases Reg.lt4 hiq with rfl | rfl | rfl | rfl
            all_goals (cases hoq; cases hpq)
            all_goals (refine Reg.D.cv hB ?_; go_simp; try (first | done | rfl | (simp; done) | (intro h; omega)))
          intro ρ W14 S hB hft hap hΦ
          simp only [Reg.SV, Reg.SF, Nat.reduceAdd]
          have HX := Aside0.mk (HX.out.call hB)
          replace RC := Aside0.mk (Kd.R_below RC.out hB)
          clear hΦ hft hap mg6_0
          have fz4_ := HX.out.frz 0 4 rfl
          have cl4_ := HX.out.cell 0 4 rfl rfl
          have fz5_ := HX.out.frz 0 5 rfl
          have cl5_ := HX.out.cell 0 5 rfl rfl
          have fz6_ := HX.out.frz 0 6 rfl
          have cl6_ := HX.out.cell 0 6 rfl rfl
          go_wp2_with fail
          go_meet
          have HY0 := HX.out.set (L1 := []) 4 (.int .i64 KT)
          have RY0 := R_setB RC.out (HX.out.at 0 rfl) hg7 4 (.int .i64 KT)
          have HY1 := HY0.set (L1 := []) 5 (.int .i64 0)
          have RY1 := R_setB RY0 (HY0.at 0 rfl) hg7 5 (.int .i64 0)
          have HY2 := HY1.set (L1 := []) 6 (.string (⟨#[]⟩ : ByteArray))
          have RY2 := R_setB RY1 (HY1.at 0 rfl) hg7 6 (.string (⟨#[]⟩ : ByteArray))
          case rel => exact ⟨KT, ⟨HY2⟩, ⟨RY2⟩⟩
        | true =>
          go_wp2_with fail
          go_meet
          case rel => exact ⟨0, HX, RC⟩
      clear HX RC
      obtain ⟨d0, HX, RC⟩ := hcut
      generalize wc = W14c at *
      have HO : Aside0 (Kd.R k57 57 W14c w.heap.size (fun _ => True) (.slice A3 l.length c3) l) := ⟨Kd.R_mono RC.out (fun _ _ => trivial)⟩
      have m0 : _ = some (.int .i64 KT : Value) := HX.out.cell 0 0 rfl rfl
      have m1 : _ = some (.int .i64 sc : Value) := HX.out.cell 0 1 rfl rfl
      have m2 : _ = some (.bool nl : Value) := HX.out.cell 0 2 rfl rfl
      have m3 : _ = some (.int .i64 ru : Value) := HX.out.cell 0 3 rfl rfl
      have m4 : _ = some (.int .i64 d0 : Value) := HX.out.cell 0 4 rfl rfl
      have m5 : _ = some (.int .i64 0 : Value) := HX.out.cell 0 5 rfl rfl
      have m6 : _ = some (.string (⟨#[]⟩ : ByteArray) : Value) := HX.out.cell 0 6 rfl rfl
      go_wp2_with (first | ((with_reducible refine gate_builtin (b := .append) (xs := #[.tmp 57, .tmp 59]) rfl ?_); at_builtin; refine Kd.R_append k57 (w0 := w) w.heap.size rfl (.tmp 57) (.tmp 59) 26 57 (.agg #[(.int .i64 0), (.int .i64 0), (.bool false), (.int .i64 0), (.int .i64 0), (.int .i64 0), (.string ⟨#[]⟩)]) 64 rfl Tryz.underlying26 info57k rfl (by decide) (by decide) _ l (⟨⟨KT, sc, nl⟩, ru, ⟨d0, 0, (⟨#[]⟩ : ByteArray)⟩⟩ : S57) [.int .i64 KT, .int .i64 sc, .bool nl, .int .i64 ru, .int .i64 d0, .int .i64 0, .string (⟨#[]⟩ : ByteArray)] (fun _ => True) (fun _ => False) rfl rfl (k57_mkM _ _ _ (⟨⟨KT, sc, nl⟩, ru, ⟨d0, 0, (⟨#[]⟩ : ByteArray)⟩⟩ : S57)) (fun _ hk => hk.elim) (fun _ _ => trivial) HO.out HX.out.below HX.out.below.size (by have h := HL.out.1; omega) ?_; intro v60 W60 hr1 hb1 hg1 hat1; have HO2 := Aside0.mk hr1; clear HX HO RC; have HX := Aside0.mk hb1; clear hr1 hb1 hg1 hat1))
      have hA : aOk (⟨⟨KT, sc, nl⟩, ru, ⟨d0, 0, (⟨#[]⟩ : ByteArray)⟩⟩ : S57) := made_aOk HSC.out HRU.out hT4 hKB
      cases gk with
      | zero => exact absurd HKQ.out (by omega)
      | succ gk1 =>
      go_roundg gk1
      case measure => omega
      case rel => exact ⟨i + 1, l ++ [(⟨⟨KT, sc, nl⟩, ru, ⟨d0, 0, (⟨#[]⟩ : ByteArray)⟩⟩ : S57)], by simp, ⟨by have := HKQ.out; omega⟩, HO2, ⟨mOk_add HL.out hA⟩, ⟨⟨HX.out, fun _ h => absurd h List.not_mem_nil, List.nodup_nil⟩⟩⟩
    · have d1 : decide ((i : Int) < (m : Int)) = false := decide_eq_false (by omega)
      go_upto_region 3 with (fail)
      try simp only [Reg.SF]
      refine Reg.det [(some 15, Reg.Dv.c (.int .i64 (i : Int))), (some 16, Reg.Dv.c (.slice B nb cb)), (some 17, Reg.Dv.c (.int .i64 K0)), (some 18, Reg.Dv.c (.int .i64 (Int.tmod K0 4))), (some 19, Reg.Dv.c (.int .i64 (m : Int))), (some 20, Reg.Dv.c (.bool false))] [] 62 rfl (by kernel_rfl) (by kernel_rfl) ?s14 ?_
      case s14 =>
        intro iq oq pq hiq hoq hpq ρ ev W S hE hO ec ef hB hft hΦ
        have e0 : ev (.tmp 0) = .slice B nb cb := hO 0 rfl
        have e4 : ev (.tmp 4) = .int .i64 (i : Int) := hO 4 rfl
        simp only [Reg.SV] at hE
        obtain ⟨e15, e16, e17, e18, e19, e20, _⟩ := hE
        rcases Reg.lt6 hiq with rfl | rfl | rfl | rfl | rfl | rfl
        all_goals (cases hoq; cases hpq)
        rotate_left 2
        · refine Reg.D.cc (g := 36) (args := #[.slice B nb cb, .int .i64 0]) hB (by go_simp; try rfl) ?_
          exact HK0.out W (below_step HX.out.below hB)
        rotate_right 2
        all_goals (first | exact Reg.D.mv hB | skip)
        all_goals (refine Reg.D.cv hB ?_; go_simp; try (first | done | rfl | (exact hm) | (exact d1) | (exact w2) | (simp [hm]; done) | (simp [d1]; done) | (simp; omega)))
      intro ρ W3 S hB hft hap hΦ
      simp only [Reg.SV, Reg.SF, Nat.reduceAdd]
      have HX := Aside0.mk (HX.out.call hB)
      have HO2 := Aside0.mk (Kd.R_below HO.out hB)
      clear hΦ hft hap 
      obtain rfl : i = m := by omega
      go_wp2_with fail
      go_ret
      exact ⟨_, l, rfl, HO2.out, mOk_at HL.out hm1 hm4, HX.out.below⟩
end Go.Proofs.YtmebkjdknhknbaaGreatDoor.H
end
section
namespace Go.Proofs.YtmebkjdknhknbaaGreatDoor.H
open Go.RowKit Go.Proofs.YtmebkjdknhknbaaGreatDoor.G Go.Proofs.YtmebkjdknhknbaaGreatDoorW.PrintWords Go.Proofs.YtmebkjdknhknbaaGreatDoorW.PrintLast Go.Proofs.YtmebkjdknhknbaaGreatDoorW.PrintMore
theorem kt_of {a : S57} (h : aOk a) : a.f0.f0 = 2 ∨ a.f0.f0 = 3 ∨ a.f0.f0 = 1 := by
  rcases h.2 with h | h | h
  · exact .inl h.1
  · exact .inr (.inl h.1)
  · exact .inr (.inr h.1)
theorem mul_in {a b : Int} (h0 : -128 ≤ a) (h1 : a ≤ 127) (h2 : 1 ≤ b) (h3 : b ≤ 100000000000) : -100000000000000 ≤ a * b ∧ a * b ≤ 100000000000000 := by
  have h4 : a * b ≤ 127 * b := Int.mul_le_mul_of_nonneg_right h1 (by omega)
  have h5 : -128 * b ≤ a * b := Int.mul_le_mul_of_nonneg_right h0 (by omega)
  omega
set_option maxHeartbeats 16000000 in
set_option maxRecDepth 100000 in
theorem Cells_calls (l0 : List S57) (hat : atOk l0) (A0 : Option Addr) (c0 : Nat) (B : Option Addr) (nb cb : Nat) (kv : Int → Int) (hkv : ∀ i, 0 ≤ kv i ∧ kv i ≤ 255) (w : World) (hr0 : Kd.C k57 w A0 l0.length l0)
    (HBy : Aside0 (∀ i : Int, 0 ≤ i → i ≤ 100 → ∀ w', Below w.heap.size w w' → Calls Tryz.prog 36 #[.slice B nb cb, .int .i64 i] w' fun e w'' => e = .returned (.int .i64 (kv i)) ∧ Below w'.heap.size w' w''))
    (HPo : Aside0 (∀ e : Int, 0 ≤ e → e ≤ 11 → ∃ P : Int, (1 ≤ P ∧ P ≤ 100000000000) ∧ ∀ w', Calls Tryz.prog 37 #[.int .i64 e] w' fun r w'' => r = .returned (.int .i64 P) ∧ Below w'.heap.size w' w''))
    (HWo : Aside0 (∀ a b : Int, 0 ≤ a → a ≤ 255 → 0 ≤ b → b ≤ 255 → ∃ s : ByteArray, (s.size ≤ 40 ∧ graphicB s.data.toList = true) ∧ ∀ w', Calls Tryz.prog 39 #[.int .i64 a, .int .i64 b] w' fun r w'' => r = .returned (.string s) ∧ Below w'.heap.size w' w'')) :
    Calls Tryz.prog 18 #[.slice A0 l0.length c0, .slice B nb cb] w fun e w' => ∃ v l, e = .returned v ∧ Kd.R k39 39 w' w.heap.size (fun _ => True) v l ∧ (l.length = l0.length ∧ cellsOk l0 l) ∧ Below w.heap.size w w' := by
  have hu := Tryz.underlying39
  have hu3 := Tryz.underlying49
  have hu4 := Tryz.underlying57
  obtain ⟨ad, ead, _⟩ := at_T57 hr0 0 (by decide) (by have := hat.1; omega)
  subst ead
  have HAT := Aside0.mk hat
  have HR0 := Aside0.mk hr0
  obtain ⟨n0, hn0⟩ : ∃ n, l0.length = n := ⟨_, rfl⟩
  have HN : Aside0 (n0 ≤ 6 ∧ l0.length = n0) := ⟨by rw [← hn0]; exact hat.2.1, hn0⟩
  rw [hn0] at HR0 ⊢
  clear hat hr0 hn0
  go_enter Tryz.func18, Tryz.ntmps18
  go_wp2_with (first | ((with_reducible refine gate_dst (N := 9) rfl ?_); refine Kd.R_lit k39 (w0 := w) w.heap.size 39 ?hg (N := 9) ?hd (xs := ([] : List S39)) (inner := []) (ok := fun _ => True) (okp := fun _ => True) ?hr ?hp (fun _ hk => hk) trivial (Below.refl _ _) (Nat.le_refl _) (by simp) ?_; (case hd => rfl); (case hg => rfl); (case hr => first | (go_simp; done) | (go_simp; rfl)); (case hp => exact (Reps.none _ _)); intro v9 W9 ho hb hg_ hnew_; clear hg_ hnew_; have HR := Aside0.mk ho; have HB := Aside0.mk hb; clear ho hb))
  go_loopg [5, 6] n0 (fun kq v5 v6 w' => ∃ (i : Nat) (l : List S39), v6 = .int .i64 i ∧ Aside0 (kq + i = n0) ∧ Aside0 (Kd.R k39 39 w' w.heap.size (fun _ => True) v5 l) ∧ Aside0 (cOk l0 l i) ∧ Aside0 (Bxs w w' []))
  case atStart => exact ⟨0, [], rfl, ⟨by omega⟩, HR, ⟨rfl, fun i hi => absurd hi (Nat.not_lt_zero _)⟩, ⟨⟨HB.out, fun _ h => absurd h List.not_mem_nil, List.nodup_nil⟩⟩⟩
  case round =>
    clear HB HR
    obtain ⟨i, l, rfl, HKQ, HO, HL, HX⟩ := hrel
    obtain ⟨A5, c5, rfl⟩ := Kd.R_slice HO.out
    have hn6 := HN.out.1
    have w2 : IntKind.i64.wrap ((i : Int) + 1) = (i : Int) + 1 := by have := HKQ.out; rw [IntKind.wrap_i64]; omega
    by_cases hi : i < n0
    · have d1 : decide ((i : Int) < (n0 : Int)) = true := decide_eq_true (by omega)
      have HK1 := Aside0.mk (HBy.out (2 * (i : Int)) (by omega) (by omega))
      have HT1 := Aside0.mk (HBy.out (2 * (i : Int) + 1) (by omega) (by omega))
      have hrk := hkv (2 * (i : Int))
      have hrt := hkv (2 * (i : Int) + 1)
      obtain ⟨K, hK⟩ : ∃ K, kv (2 * (i : Int)) = K := ⟨_, rfl⟩
      obtain ⟨T, hT⟩ : ∃ K, kv (2 * (i : Int) + 1) = K := ⟨_, rfl⟩
      rw [hK] at HK1 hrk
      rw [hT] at HT1 hrt
      have HK := HK1
      have HT := HT1
      clear HK1 HT1 hK hT
      have hm12 : 0 ≤ Int.tmod T 12 ∧ Int.tmod T 12 ≤ 11 := by rw [Int.tmod_eq_emod_of_nonneg hrt.1]; omega
      obtain ⟨PW, hPW, hP⟩ := HPo.out (Int.tmod T 12) hm12.1 hm12.2
      obtain ⟨WS, hWS, hW_⟩ := HWo.out K T hrk.1 hrk.2 hrt.1 hrt.2
      have HP := Aside0.mk hP
      have HW_ := Aside0.mk hW_
      have HWS := Aside0.mk hWS
      have HPW := Aside0.mk (mul_in (a := K - 128) (by omega) (by omega) hPW.1 hPW.2)
      obtain ⟨K2, hK2, hK2'⟩ : ∃ z, Int.tmod K 2 = z ∧ (z = 0 ∨ z = 1) := ⟨_, rfl, by rw [Int.tmod_eq_emod_of_nonneg hrk.1]; omega⟩
      have HK2 := Aside0.mk hK2'
      clear hK2'
      have w3 : IntKind.i64.wrap (2 * (i : Int)) = 2 * (i : Int) := by rw [IntKind.wrap_i64]; omega
      have w4 : IntKind.i64.wrap (2 * (i : Int) + 1) = 2 * (i : Int) + 1 := by rw [IntKind.wrap_i64]; omega
      have w5 : IntKind.i64.wrap (K - 128) = K - 128 := by rw [IntKind.wrap_i64]; omega
      have w6 : IntKind.i64.wrap ((K - 128) * PW) = (K - 128) * PW := by have := HPW.out; rw [IntKind.wrap_i64]; generalize (K - 128) * PW = z at *; omega
      clear hP hW_ hWS hPW hm12
      obtain ⟨ad', ead, q0, _, q2, _⟩ := at_T57 HR0.out (i : Int) (by omega) (by omega)
      cases ead
      rw [Int.toNat_natCast] at q0 q2
      have hA : ∀ v, cellK (rd_T57 l0 (i : Int)).f0.f2 (rd_T57 l0 (i : Int)).f0.f0 v → cellOk (rd_T57 l0 (i : Int)) v := fun v h => h
      have hnc := kt_of (HAT.out.2.2.1 i (by rw [HN.out.2]; exact hi))
      generalize (rd_T57 l0 (i : Int)).f0.f0 = KT at *
      generalize (rd_T57 l0 (i : Int)).f0.f2 = NU at *
      have HA := Aside0.mk hA
      clear hA
      obtain ⟨qa, hq⟩ : ∃ q, ad.add (i * 7) = q := ⟨_, rfl⟩
      rw [hq] at q0 q2
      obtain ⟨q2a, hq2⟩ : ∃ q : Addr, (⟨qa.block, qa.off + 2, none⟩ : Addr) = q := ⟨_, rfl⟩
      rw [hq2] at q2
      have Q0 := Aside0.mk q0
      have Q2 := Aside0.mk q2
      clear q0 q2
      obtain ⟨c45, hc45⟩ : ∃ b, (Int.tmod K 4 == 0) = b := ⟨_, rfl⟩
      have C45 := Aside0.mk hc45
      clear hc45
      go_upto_region 3 with (fail)
      try simp only [Reg.SF]
      refine Reg.det [(some 10, Reg.Dv.c (.int .i64 (i : Int))), (some 11, Reg.Dv.c (.slice (some ad) n0 c0)), (some 12, Reg.Dv.c (.int .i64 n0)), (some 13, Reg.Dv.c (.bool true))] [] 75 rfl (by kernel_rfl) (by kernel_rfl) ?s1 ?_
      case s1 =>
        intro iq oq pq hiq hoq hpq ρ ev W S hE hO ec ef hB hft hΦ
        have e0 : ev (.tmp 0) = .slice (some ad) n0 c0 := hO 0 rfl
        have e6 : ev (.tmp 6) = .int .i64 (i : Int) := hO 6 rfl
        simp only [Reg.SV] at hE
        obtain ⟨e10, e11, e12, e13, _⟩ := hE
        rcases Reg.lt4 hiq with rfl | rfl | rfl | rfl
        all_goals (cases hoq; cases hpq)
        all_goals (first | exact Reg.D.mv hB | skip)
        all_goals (refine Reg.D.cv hB ?_; go_simp; try (first | done | rfl | (exact hK2) | (simp [hK2]; done) | (exact d1) | (exact w2) | (exact w3) | (exact w4) | (exact w5) | (exact w6) | (rw [← hq]; rfl) | (rw [← hq2]; rfl) | (simp [d1]; done) | (simp [C45.out]; done) | (simp; omega)))
      intro ρ W3 S hB hft hap hΦ
      simp only [Reg.SV, Reg.SF, Nat.reduceAdd]
      have HX := Aside0.mk (HX.out.call hB)
      replace HO := Aside0.mk (Kd.R_below HO.out hB)
      clear hΦ hft hap 
      go_upto_region 5 with (fail)
      try simp only [Reg.SF]
      refine Reg.det [(some 16, Reg.Dv.c (.slice B nb cb)), (some 17, Reg.Dv.c (.int .i64 (i : Int))), (some 18, Reg.Dv.c (.int .i64 (2 * (i : Int)))), (some 19, Reg.Dv.c (.int .i64 K)), (some 7, Reg.Dv.c (.int .i64 K))] [] 75 rfl (by kernel_rfl) (by kernel_rfl) ?s2 ?_
      case s2 =>
        intro iq oq pq hiq hoq hpq ρ ev W S hE hO ec ef hB hft hΦ
        have e1 : ev (.tmp 1) = .slice B nb cb := hO 1 rfl
        have e6 : ev (.tmp 6) = .int .i64 (i : Int) := hO 6 rfl
        simp only [Reg.SV] at hE
        obtain ⟨e16, e17, e18, e19, e7, _⟩ := hE
        rcases Reg.lt5 hiq with rfl | rfl | rfl | rfl | rfl
        all_goals (cases hoq; cases hpq)
        rotate_left 3
        · refine Reg.D.cc (g := 36) (args := #[.slice B nb cb, .int .i64 (2 * (i : Int))]) hB (by go_simp; try rfl) ?_
          exact HK.out W (below_step HX.out.below hB)
        rotate_right 3
        all_goals (first | exact Reg.D.mv hB | skip)
        all_goals (refine Reg.D.cv hB ?_; go_simp; try (first | done | rfl | (exact hK2) | (simp [hK2]; done) | (exact d1) | (exact w2) | (exact w3) | (exact w4) | (exact w5) | (exact w6) | (rw [← hq]; rfl) | (rw [← hq2]; rfl) | (simp [d1]; done) | (simp [C45.out]; done) | (simp; omega)))
      intro ρ W5 S hB hft hap hΦ
      simp only [Reg.SV, Reg.SF, Nat.reduceAdd]
      have HX := Aside0.mk (HX.out.call hB)
      replace HO := Aside0.mk (Kd.R_below HO.out hB)
      clear hΦ hft hap 
      have RA := Aside0.mk (Kd.R_mono (ok' := fun k => k < W5.heap.size) (Kd.R_bound HO.out) (fun k hk => hk.2.2.1))
      clear HO
      have ma := pw_cell_below HX.out.below Q0.out
      go_upto_region 6 with (fail)
      try simp only [Reg.SF]
      refine Reg.det [(some 20, Reg.Dv.c (.slice (some ad) n0 c0)), (some 21, Reg.Dv.c (.int .i64 (i : Int))), (some 22, Reg.Dv.c (.pointer (some qa))), (some 23, Reg.Dv.c (.pointer (some qa))), (some 24, Reg.Dv.c (.pointer (some qa))), (some 25, Reg.Dv.c (.int .i64 KT)), (some 26, Reg.Dv.c (.agg #[.int .i64 KT, .int .i64 0, .string (⟨#[]⟩ : ByteArray)])), (some 8, Reg.Dv.box 8 39 (fun _ => #[.int .i64 0, .int .i64 0, .string (⟨#[]⟩ : ByteArray)]) [] true), (none, Reg.Dv.box 8 39 (fun _ => #[.int .i64 KT, .int .i64 0, .string (⟨#[]⟩ : ByteArray)]) [] false)] [(7, 8)] 75 rfl (by kernel_rfl) (by kernel_rfl) ?s3 ?_
      case s3 =>
        intro iq oq pq hiq hoq hpq ρ ev W S hE hO ec ef hB hft hΦ
        have e0 : ev (.tmp 0) = .slice (some ad) n0 c0 := hO 0 rfl
        have e6 : ev (.tmp 6) = .int .i64 (i : Int) := hO 6 rfl
        have ma' := pw_cell_below hB ma
        simp only [Reg.SV] at hE
        obtain ⟨e20, e21, e22, e23, e24, e25, e26, e8, _⟩ := hE
        rcases Reg.lt9 hiq with rfl | rfl | rfl | rfl | rfl | rfl | rfl | rfl | rfl
        all_goals (cases hoq; cases hpq)
        rotate_left 8
        · exact Reg.D.fill 7 39 (.tmp 8) (.tmp 26) hB e8 (by first | assumption | rfl | (simp [*]; done)) (hΦ 7 _ rfl rfl rfl) info39s (by first | rfl | (simp only [Reg.SV]; rfl))
        rotate_right 8
        rotate_left 7
        · refine Reg.D.box hB ?_
          go_simp
          try rfl
        rotate_right 7
        all_goals (first | exact Reg.D.mv hB | skip)
        all_goals (refine Reg.D.cv hB ?_; go_simp; try (first | done | rfl | (exact hK2) | (simp [hK2]; done) | (exact d1) | (exact w2) | (exact w3) | (exact w4) | (exact w5) | (exact w6) | (rw [← hq]; rfl) | (rw [← hq2]; rfl) | (simp [d1]; done) | (simp [C45.out]; done) | (simp; omega)))
      intro ρ W6 S hB hft hap hΦ
      simp only [Reg.SV, Reg.SF, Nat.reduceAdd]
      obtain ⟨g8, e8, s8, hg8, _, b8⟩ := hΦ 8 _ rfl rfl
      replace e8 : ρ 8 = .pointer (some ⟨g8, 0, none⟩) := e8
      try simp only [e8]
      replace b8 : W6.heap[g8]? = some (.cells #[.int .i64 KT, .int .i64 0, .string (⟨#[]⟩ : ByteArray)] 39 (0, 0)) := b8
      have HX := Aside0.mk (HX.out.join (Bxs.one hB hg8 b8))
      replace RA := Aside0.mk (Kd.R_below RA.out hB)
      clear hΦ hft hap 
      go_upto_block 2 with (fail)
      go_cut [] (fun wd => ∃ v : S39, Aside0 (Bxs w wd [(g8, 39, #[.int .i64 v.f0, .int .i64 v.f1, .string v.f2])]) ∧ Aside0 (Kd.R k39 39 wd w.heap.size (fun k => k < W5.heap.size) (.slice A5 l.length c5) l) ∧ Aside0 (cellK NU KT v))
      case first =>
        go_upto_region 8 with (fail)
        go_cut [35] (fun v35 wd => v35 = .bool (NU && c45) ∧ Aside0 (Bxs w wd [(g8, 39, #[.int .i64 KT, .int .i64 0, .string (⟨#[]⟩ : ByteArray)])]) ∧ Aside0 (Kd.R k39 39 wd w.heap.size (fun k => k < W5.heap.size) (.slice A5 l.length c5) l))
        case first =>
          have mb := pw_cell_below HX.out.below Q2.out
          cases NU with
          | true =>
            go_upto_region 8 with (fail)
            try simp only [Reg.SF]
            refine Reg.det [(some 36, Reg.Dv.c (.slice (some ad) n0 c0)), (some 37, Reg.Dv.c (.int .i64 (i : Int))), (some 38, Reg.Dv.c (.pointer (some qa))), (some 39, Reg.Dv.c (.pointer (some qa))), (some 40, Reg.Dv.c (.pointer (some q2a))), (some 41, Reg.Dv.c (.bool true)), (some 42, Reg.Dv.c (.bool true)), (some 43, Reg.Dv.c (.int .i64 K)), (some 44, Reg.Dv.c (.int .i64 (Int.tmod K 4))), (some 45, Reg.Dv.c (.bool c45)), (some 46, Reg.Dv.c (.bool c45)), (some 35, Reg.Dv.c (.bool c45))] [] 75 rfl (by kernel_rfl) (by kernel_rfl) ?s4 ?_
            case s4 =>
              intro iq oq pq hiq hoq hpq ρ ev W S hE hO ec ef hB hft hΦ
              have e0 : ev (.tmp 0) = .slice (some ad) n0 c0 := hO 0 rfl
              have e6 : ev (.tmp 6) = .int .i64 (i : Int) := hO 6 rfl
              have e7 : ev (.tmp 7) = .int .i64 K := hO 7 rfl
              have mb' := pw_cell_below hB mb
              simp only [Reg.SV] at hE
              obtain ⟨e36, e37, e38, e39, e40, e41, e42, e43, e44, e45, e46, e35, _⟩ := hE
              rcases Reg.lt12 hiq with rfl | rfl | rfl | rfl | rfl | rfl | rfl | rfl | rfl | rfl | rfl | rfl
              all_goals (cases hoq; cases hpq)
              all_goals (first | exact Reg.D.mv hB | skip)
              all_goals (refine Reg.D.cv hB ?_; go_simp; try (first | done | rfl | (exact hK2) | (simp [hK2]; done) | (exact d1) | (exact w2) | (exact w3) | (exact w4) | (exact w5) | (exact w6) | (rw [← hq]; rfl) | (rw [← hq2]; rfl) | (simp [d1]; done) | (simp [C45.out]; done) | (simp; omega)))
            intro ρ W8 S hB hft hap hΦ
            simp only [Reg.SV, Reg.SF, Nat.reduceAdd]
            have HX := Aside0.mk (HX.out.call hB)
            replace RA := Aside0.mk (Kd.R_below RA.out hB)
            clear hΦ hft hap 
            go_wp2_with fail
            go_meet
            case rel => exact ⟨by first | rfl | simp, HX, RA⟩
          | false =>
            go_upto_region 8 with (fail)
            try simp only [Reg.SF]
            refine Reg.det [(some 36, Reg.Dv.c (.slice (some ad) n0 c0)), (some 37, Reg.Dv.c (.int .i64 (i : Int))), (some 38, Reg.Dv.c (.pointer (some qa))), (some 39, Reg.Dv.c (.pointer (some qa))), (some 40, Reg.Dv.c (.pointer (some q2a))), (some 41, Reg.Dv.c (.bool false)), (some 42, Reg.Dv.c (.bool false)), (some 43, Reg.Dv.c undef), (some 44, Reg.Dv.c undef), (some 45, Reg.Dv.c undef), (some 46, Reg.Dv.c (.bool false)), (some 35, Reg.Dv.c (.bool false))] [] 75 rfl (by kernel_rfl) (by kernel_rfl) ?s5 ?_
            case s5 =>
              intro iq oq pq hiq hoq hpq ρ ev W S hE hO ec ef hB hft hΦ
              have e0 : ev (.tmp 0) = .slice (some ad) n0 c0 := hO 0 rfl
              have e6 : ev (.tmp 6) = .int .i64 (i : Int) := hO 6 rfl
              have e7 : ev (.tmp 7) = .int .i64 K := hO 7 rfl
              have mb' := pw_cell_below hB mb
              simp only [Reg.SV] at hE
              obtain ⟨e36, e37, e38, e39, e40, e41, e42, e43, e44, e45, e46, e35, _⟩ := hE
              rcases Reg.lt12 hiq with rfl | rfl | rfl | rfl | rfl | rfl | rfl | rfl | rfl | rfl | rfl | rfl
              all_goals (cases hoq; cases hpq)
              all_goals (first | exact Reg.D.sk hB | skip)
              all_goals (first | exact Reg.D.mv hB | skip)
              all_goals (refine Reg.D.cv hB ?_; go_simp; try (first | done | rfl | (exact hK2) | (simp [hK2]; done) | (exact d1) | (exact w2) | (exact w3) | (exact w4) | (exact w5) | (exact w6) | (rw [← hq]; rfl) | (rw [← hq2]; rfl) | (simp [d1]; done) | (simp [C45.out]; done) | (simp; omega)))
            intro ρ W8 S hB hft hap hΦ
            simp only [Reg.SV, Reg.SF, Nat.reduceAdd]
            have HX := Aside0.mk (HX.out.call hB)
            replace RA := Aside0.mk (Kd.R_below RA.out hB)
            clear hΦ hft hap 
            go_wp2_with fail
            go_meet
            case rel => exact ⟨by first | rfl | simp, HX, RA⟩
        clear HX RA
        obtain ⟨hv35, HX, RA⟩ := hcut
        generalize wc = W8c at *
        subst hv35
        have HNC := Aside0.mk hnc
        obtain ⟨b35, hb35⟩ : ∃ b, (NU && c45) = b := ⟨_, rfl⟩
        rw [hb35]
        have HB35 := Aside0.mk hb35
        clear hb35 hnc
        cases b35 with
        | true =>
          go_upto_region 9 with (fail)
          try simp only [Reg.SF]
          refine Reg.det [(some 47, Reg.Dv.c (.agg #[.int .i64 0, .int .i64 0, .string (⟨#[]⟩ : ByteArray)]))] [] 75 rfl (by kernel_rfl) (by kernel_rfl) ?s6 ?_
          case s6 =>
            intro iq oq pq hiq hoq hpq ρ ev W S hE hO ec ef hB hft hΦ
            simp only [Reg.SV] at hE
            obtain ⟨e47, _⟩ := hE
            obtain rfl : iq = 0 := by have : iq < 1 := hiq; omega
            cases hoq; cases hpq
            all_goals (refine Reg.D.cv hB ?_; go_simp; try (first | done | rfl | (exact hK2) | (simp [hK2]; done) | (exact d1) | (exact w2) | (exact w3) | (exact w4) | (exact w5) | (exact w6) | (rw [← hq]; rfl) | (rw [← hq2]; rfl) | (simp [d1]; done) | (simp [C45.out]; done) | (simp; omega)))
          intro ρ W9 S hB hft hap hΦ
          simp only [Reg.SV, Reg.SF, Nat.reduceAdd]
          have HX := Aside0.mk (HX.out.call hB)
          replace RA := Aside0.mk (Kd.R_below RA.out hB)
          clear hΦ hft hap 
          refine bx_putB (w := w) rfl 39 (.tmp 8) (.tmp 47) rfl rfl (L1 := []) (cells := #[.int .i64 0, .int .i64 0, .string (⟨#[]⟩ : ByteArray)]) HX.out rfl rfl (by kernel_rfl) rfl rfl ?_
          intro W9s hx hput
          have HX := Aside0.mk hx
          replace RA := Aside0.mk (Kd.R_step RA.out (fun k hk _ => hput k (by have := hk; have := hg8; omega)))
          clear hx hput
          go_wp2_with fail
          go_meet
          case rel => exact ⟨⟨0, 0, ⟨#[]⟩⟩, HX, RA, ⟨.inl ⟨by have := HB35.out; revert this; cases NU <;> simp, rfl⟩⟩⟩
        | false =>
          rcases HNC.out with rfl | rfl | rfl
          · skip
            go_upto_region 10 with (fail)
            try simp only [Reg.SF]
            have mg8_0 : _ = some (.int .i64 2 : Value) := HX.out.cell 0 0 rfl rfl
            refine Reg.det [(some 49, Reg.Dv.c (.pointer (some ⟨g8, 0, none⟩))), (some 50, Reg.Dv.c (.int .i64 2)), (some 51, Reg.Dv.c (.bool false)), (some 48, Reg.Dv.c (.bool false))] [] 75 rfl (by kernel_rfl) (by kernel_rfl) ?s7 ?_
            case s7 =>
              intro iq oq pq hiq hoq hpq ρ ev W S hE hO ec ef hB hft hΦ
              have e8 : ev (.tmp 8) = .pointer (some ⟨g8, 0, none⟩) := hO 8 rfl
              have mg8_0' := pw_cell_below hB mg8_0
              simp only [Reg.SV] at hE
              obtain ⟨e49, e50, e51, e48, _⟩ := hE
              rcases Reg.lt4 hiq with rfl | rfl | rfl | rfl
              all_goals (cases hoq; cases hpq)
              all_goals (first | exact Reg.D.mv hB | skip)
              all_goals (refine Reg.D.cv hB ?_; go_simp; try (first | done | rfl | (exact hK2) | (simp [hK2]; done) | (exact d1) | (exact w2) | (exact w3) | (exact w4) | (exact w5) | (exact w6) | (rw [← hq]; rfl) | (rw [← hq2]; rfl) | (simp [d1]; done) | (simp [C45.out]; done) | (simp; omega)))
            intro ρ W10 S hB hft hap hΦ
            simp only [Reg.SV, Reg.SF, Nat.reduceAdd]
            have HX := Aside0.mk (HX.out.call hB)
            replace RA := Aside0.mk (Kd.R_below RA.out hB)
            clear hΦ hft hap mg8_0
            go_upto_region 12 with (fail)
            try simp only [Reg.SF]
            have mg8_0 : _ = some (.int .i64 2 : Value) := HX.out.cell 0 0 rfl rfl
            refine Reg.det [(some 56, Reg.Dv.c (.pointer (some ⟨g8, 0, none⟩))), (some 57, Reg.Dv.c (.int .i64 2)), (some 58, Reg.Dv.c (.bool true)), (some 55, Reg.Dv.c (.bool true))] [] 75 rfl (by kernel_rfl) (by kernel_rfl) ?s8 ?_
            case s8 =>
              intro iq oq pq hiq hoq hpq ρ ev W S hE hO ec ef hB hft hΦ
              have e8 : ev (.tmp 8) = .pointer (some ⟨g8, 0, none⟩) := hO 8 rfl
              have mg8_0' := pw_cell_below hB mg8_0
              simp only [Reg.SV] at hE
              obtain ⟨e56, e57, e58, e55, _⟩ := hE
              rcases Reg.lt4 hiq with rfl | rfl | rfl | rfl
              all_goals (cases hoq; cases hpq)
              all_goals (first | exact Reg.D.mv hB | skip)
              all_goals (refine Reg.D.cv hB ?_; go_simp; try (first | done | rfl | (exact hK2) | (simp [hK2]; done) | (exact d1) | (exact w2) | (exact w3) | (exact w4) | (exact w5) | (exact w6) | (rw [← hq]; rfl) | (rw [← hq2]; rfl) | (simp [d1]; done) | (simp [C45.out]; done) | (simp; omega)))
            intro ρ W12 S hB hft hap hΦ
            simp only [Reg.SV, Reg.SF, Nat.reduceAdd]
            have HX := Aside0.mk (HX.out.call hB)
            replace RA := Aside0.mk (Kd.R_below RA.out hB)
            clear hΦ hft hap mg8_0
            go_upto_region 13 with (fail)
            try simp only [Reg.SF]
            refine Reg.det [(some 59, Reg.Dv.c (.int .i64 K)), (some 60, Reg.Dv.c (.int .i64 (K - 128))), (some 61, Reg.Dv.c (.slice B nb cb)), (some 62, Reg.Dv.c (.int .i64 (i : Int))), (some 63, Reg.Dv.c (.int .i64 (2 * (i : Int)))), (some 64, Reg.Dv.c (.int .i64 (2 * (i : Int) + 1))), (some 65, Reg.Dv.c (.int .i64 T)), (some 66, Reg.Dv.c (.int .i64 (Int.tmod T 12))), (some 67, Reg.Dv.c (.int .i64 PW)), (some 68, Reg.Dv.c (.int .i64 ((K - 128) * PW))), (some 69, Reg.Dv.c (.pointer (some ⟨g8, 1, none⟩)))] [] 75 rfl (by kernel_rfl) (by kernel_rfl) ?s9 ?_
            case s9 =>
              intro iq oq pq hiq hoq hpq ρ ev W S hE hO ec ef hB hft hΦ
              have e1 : ev (.tmp 1) = .slice B nb cb := hO 1 rfl
              have e6 : ev (.tmp 6) = .int .i64 (i : Int) := hO 6 rfl
              have e7 : ev (.tmp 7) = .int .i64 K := hO 7 rfl
              have e8 : ev (.tmp 8) = .pointer (some ⟨g8, 0, none⟩) := hO 8 rfl
              simp only [Reg.SV] at hE
              obtain ⟨e59, e60, e61, e62, e63, e64, e65, e66, e67, e68, e69, _⟩ := hE
              rcases Reg.lt11 hiq with rfl | rfl | rfl | rfl | rfl | rfl | rfl | rfl | rfl | rfl | rfl
              all_goals (cases hoq; cases hpq)
              rotate_left 8
              · refine Reg.D.cc (g := 37) (args := #[.int .i64 (Int.tmod T 12)]) hB (by go_simp; try rfl) ?_
                exact HP.out W
              rotate_right 8
              rotate_left 6
              · refine Reg.D.cc (g := 36) (args := #[.slice B nb cb, .int .i64 (2 * (i : Int) + 1)]) hB (by go_simp; try rfl) ?_
                exact HT.out W (below_step HX.out.below hB)
              rotate_right 6
              all_goals (first | exact Reg.D.mv hB | skip)
              all_goals (refine Reg.D.cv hB ?_; go_simp; try (first | done | rfl | (exact hK2) | (simp [hK2]; done) | (exact d1) | (exact w2) | (exact w3) | (exact w4) | (exact w5) | (exact w6) | (rw [← hq]; rfl) | (rw [← hq2]; rfl) | (simp [d1]; done) | (simp [C45.out]; done) | (simp; omega)))
            intro ρ W13 S hB hft hap hΦ
            simp only [Reg.SV, Reg.SF, Nat.reduceAdd]
            have HX := Aside0.mk (HX.out.call hB)
            replace RA := Aside0.mk (Kd.R_below RA.out hB)
            clear hΦ hft hap 
            have fz1_ := HX.out.frz 0 1 rfl
            have cl1_ := HX.out.cell 0 1 rfl rfl
            go_wp2_with fail
            go_meet
            have HY0 := HX.out.set (L1 := []) 1 (.int .i64 ((K - 128) * PW))
            have RY0 := R_setB RA.out (HX.out.at 0 rfl) hg8 1 (.int .i64 ((K - 128) * PW))
            case rel => exact ⟨⟨2, (K - 128) * PW, ⟨#[]⟩⟩, ⟨HY0⟩, ⟨RY0⟩, ⟨.inr (.inr (.inl ⟨rfl, _, HPW.out.1, HPW.out.2, rfl⟩))⟩⟩
          · skip
            go_upto_region 10 with (fail)
            try simp only [Reg.SF]
            have mg8_0 : _ = some (.int .i64 3 : Value) := HX.out.cell 0 0 rfl rfl
            refine Reg.det [(some 49, Reg.Dv.c (.pointer (some ⟨g8, 0, none⟩))), (some 50, Reg.Dv.c (.int .i64 3)), (some 51, Reg.Dv.c (.bool false)), (some 48, Reg.Dv.c (.bool false))] [] 75 rfl (by kernel_rfl) (by kernel_rfl) ?s10 ?_
            case s10 =>
              intro iq oq pq hiq hoq hpq ρ ev W S hE hO ec ef hB hft hΦ
              have e8 : ev (.tmp 8) = .pointer (some ⟨g8, 0, none⟩) := hO 8 rfl
              have mg8_0' := pw_cell_below hB mg8_0
              simp only [Reg.SV] at hE
              obtain ⟨e49, e50, e51, e48, _⟩ := hE
              rcases Reg.lt4 hiq with rfl | rfl | rfl | rfl
              all_goals (cases hoq; cases hpq)
              all_goals (first | exact Reg.D.mv hB | skip)
              all_goals (refine Reg.D.cv hB ?_; go_simp; try (first | done | rfl | (exact hK2) | (simp [hK2]; done) | (exact d1) | (exact w2) | (exact w3) | (exact w4) | (exact w5) | (exact w6) | (rw [← hq]; rfl) | (rw [← hq2]; rfl) | (simp [d1]; done) | (simp [C45.out]; done) | (simp; omega)))
            intro ρ W10 S hB hft hap hΦ
            simp only [Reg.SV, Reg.SF, Nat.reduceAdd]
            have HX := Aside0.mk (HX.out.call hB)
            replace RA := Aside0.mk (Kd.R_below RA.out hB)
            clear hΦ hft hap mg8_0
            go_upto_region 12 with (fail)
            try simp only [Reg.SF]
            have mg8_0 : _ = some (.int .i64 3 : Value) := HX.out.cell 0 0 rfl rfl
            refine Reg.det [(some 56, Reg.Dv.c (.pointer (some ⟨g8, 0, none⟩))), (some 57, Reg.Dv.c (.int .i64 3)), (some 58, Reg.Dv.c (.bool false)), (some 55, Reg.Dv.c (.bool false))] [] 75 rfl (by kernel_rfl) (by kernel_rfl) ?s11 ?_
            case s11 =>
              intro iq oq pq hiq hoq hpq ρ ev W S hE hO ec ef hB hft hΦ
              have e8 : ev (.tmp 8) = .pointer (some ⟨g8, 0, none⟩) := hO 8 rfl
              have mg8_0' := pw_cell_below hB mg8_0
              simp only [Reg.SV] at hE
              obtain ⟨e56, e57, e58, e55, _⟩ := hE
              rcases Reg.lt4 hiq with rfl | rfl | rfl | rfl
              all_goals (cases hoq; cases hpq)
              all_goals (first | exact Reg.D.mv hB | skip)
              all_goals (refine Reg.D.cv hB ?_; go_simp; try (first | done | rfl | (exact hK2) | (simp [hK2]; done) | (exact d1) | (exact w2) | (exact w3) | (exact w4) | (exact w5) | (exact w6) | (rw [← hq]; rfl) | (rw [← hq2]; rfl) | (simp [d1]; done) | (simp [C45.out]; done) | (simp; omega)))
            intro ρ W12 S hB hft hap hΦ
            simp only [Reg.SV, Reg.SF, Nat.reduceAdd]
            have HX := Aside0.mk (HX.out.call hB)
            replace RA := Aside0.mk (Kd.R_below RA.out hB)
            clear hΦ hft hap mg8_0
            go_upto_region 7 with (fail)
            try simp only [Reg.SF]
            refine Reg.det [(some 27, Reg.Dv.c (.int .i64 K)), (some 28, Reg.Dv.c (.slice B nb cb)), (some 29, Reg.Dv.c (.int .i64 (i : Int))), (some 30, Reg.Dv.c (.int .i64 (2 * (i : Int)))), (some 31, Reg.Dv.c (.int .i64 (2 * (i : Int) + 1))), (some 32, Reg.Dv.c (.int .i64 T)), (some 33, Reg.Dv.c (.string WS)), (some 34, Reg.Dv.c (.agg #[.int .i64 3, .int .i64 0, .string WS]))] [] 75 rfl (by kernel_rfl) (by kernel_rfl) ?s12 ?_
            case s12 =>
              intro iq oq pq hiq hoq hpq ρ ev W S hE hO ec ef hB hft hΦ
              have e1 : ev (.tmp 1) = .slice B nb cb := hO 1 rfl
              have e6 : ev (.tmp 6) = .int .i64 (i : Int) := hO 6 rfl
              have e7 : ev (.tmp 7) = .int .i64 K := hO 7 rfl
              simp only [Reg.SV] at hE
              obtain ⟨e27, e28, e29, e30, e31, e32, e33, e34, _⟩ := hE
              rcases Reg.lt8 hiq with rfl | rfl | rfl | rfl | rfl | rfl | rfl | rfl
              all_goals (cases hoq; cases hpq)
              rotate_left 7
              · refine Reg.D.cc (g := 29) (args := #[.string WS]) hB (by go_simp; try rfl) ?_
                exact chapmanref16_Texted.calls WS 3 0 WS W rfl
              rotate_right 7
              rotate_left 6
              · refine Reg.D.cc (g := 39) (args := #[.int .i64 K, .int .i64 T]) hB (by go_simp; try rfl) ?_
                exact HW_.out W
              rotate_right 6
              rotate_left 5
              · refine Reg.D.cc (g := 36) (args := #[.slice B nb cb, .int .i64 (2 * (i : Int) + 1)]) hB (by go_simp; try rfl) ?_
                exact HT.out W (below_step HX.out.below hB)
              rotate_right 5
              all_goals (first | exact Reg.D.mv hB | skip)
              all_goals (refine Reg.D.cv hB ?_; go_simp; try (first | done | rfl | (exact hK2) | (simp [hK2]; done) | (exact d1) | (exact w2) | (exact w3) | (exact w4) | (exact w5) | (exact w6) | (rw [← hq]; rfl) | (rw [← hq2]; rfl) | (simp [d1]; done) | (simp [C45.out]; done) | (simp; omega)))
            intro ρ W7 S hB hft hap hΦ
            simp only [Reg.SV, Reg.SF, Nat.reduceAdd]
            have HX := Aside0.mk (HX.out.call hB)
            replace RA := Aside0.mk (Kd.R_below RA.out hB)
            clear hΦ hft hap 
            refine bx_putB (w := w) rfl 39 (.tmp 8) (.tmp 34) rfl rfl (L1 := []) (cells := #[.int .i64 3, .int .i64 0, .string WS]) HX.out rfl rfl (by kernel_rfl) rfl rfl ?_
            intro W7s hx hput
            have HX := Aside0.mk hx
            replace RA := Aside0.mk (Kd.R_step RA.out (fun k hk _ => hput k (by have := hk; have := hg8; omega)))
            clear hx hput
            go_wp2_with fail
            go_meet
            case rel => exact ⟨⟨3, 0, WS⟩, HX, RA, ⟨.inr (.inr (.inr ⟨rfl, _, HWS.out.1, HWS.out.2, rfl⟩))⟩⟩
          · skip
            go_upto_region 10 with (fail)
            try simp only [Reg.SF]
            have mg8_0 : _ = some (.int .i64 1 : Value) := HX.out.cell 0 0 rfl rfl
            refine Reg.det [(some 49, Reg.Dv.c (.pointer (some ⟨g8, 0, none⟩))), (some 50, Reg.Dv.c (.int .i64 1)), (some 51, Reg.Dv.c (.bool true)), (some 48, Reg.Dv.c (.bool true))] [] 75 rfl (by kernel_rfl) (by kernel_rfl) ?s13 ?_
            case s13 =>
              intro iq oq pq hiq hoq hpq ρ ev W S hE hO ec ef hB hft hΦ
              have e8 : ev (.tmp 8) = .pointer (some ⟨g8, 0, none⟩) := hO 8 rfl
              have mg8_0' := pw_cell_below hB mg8_0
              simp only [Reg.SV] at hE
              obtain ⟨e49, e50, e51, e48, _⟩ := hE
              rcases Reg.lt4 hiq with rfl | rfl | rfl | rfl
              all_goals (cases hoq; cases hpq)
              all_goals (first | exact Reg.D.mv hB | skip)
              all_goals (refine Reg.D.cv hB ?_; go_simp; try (first | done | rfl | (exact hK2) | (simp [hK2]; done) | (exact d1) | (exact w2) | (exact w3) | (exact w4) | (exact w5) | (exact w6) | (rw [← hq]; rfl) | (rw [← hq2]; rfl) | (simp [d1]; done) | (simp [C45.out]; done) | (simp; omega)))
            intro ρ W10 S hB hft hap hΦ
            simp only [Reg.SV, Reg.SF, Nat.reduceAdd]
            have HX := Aside0.mk (HX.out.call hB)
            replace RA := Aside0.mk (Kd.R_below RA.out hB)
            clear hΦ hft hap mg8_0
            go_upto_region 11 with (fail)
            try simp only [Reg.SF]
            refine Reg.det [(some 52, Reg.Dv.c (.int .i64 K)), (some 53, Reg.Dv.c (.int .i64 K2)), (some 54, Reg.Dv.c (.pointer (some ⟨g8, 1, none⟩)))] [] 75 rfl (by kernel_rfl) (by kernel_rfl) ?s14 ?_
            case s14 =>
              intro iq oq pq hiq hoq hpq ρ ev W S hE hO ec ef hB hft hΦ
              have e7 : ev (.tmp 7) = .int .i64 K := hO 7 rfl
              have e8 : ev (.tmp 8) = .pointer (some ⟨g8, 0, none⟩) := hO 8 rfl
              simp only [Reg.SV] at hE
              obtain ⟨e52, e53, e54, _⟩ := hE
              rcases Reg.lt3 hiq with rfl | rfl | rfl
              all_goals (cases hoq; cases hpq)
              all_goals (first | exact Reg.D.mv hB | skip)
              all_goals (refine Reg.D.cv hB ?_; go_simp; try (first | done | rfl | (exact hK2) | (simp [hK2]; done) | (exact d1) | (exact w2) | (exact w3) | (exact w4) | (exact w5) | (exact w6) | (rw [← hq]; rfl) | (rw [← hq2]; rfl) | (simp [d1]; done) | (simp [C45.out]; done) | (simp; omega)))
            intro ρ W11 S hB hft hap hΦ
            simp only [Reg.SV, Reg.SF, Nat.reduceAdd]
            have HX := Aside0.mk (HX.out.call hB)
            replace RA := Aside0.mk (Kd.R_below RA.out hB)
            clear hΦ hft hap 
            have fz1_ := HX.out.frz 0 1 rfl
            have cl1_ := HX.out.cell 0 1 rfl rfl
            go_wp2_with fail
            go_meet
            have HY0 := HX.out.set (L1 := []) 1 (.int .i64 K2)
            have RY0 := R_setB RA.out (HX.out.at 0 rfl) hg8 1 (.int .i64 K2)
            case rel => exact ⟨⟨1, K2, ⟨#[]⟩⟩, ⟨HY0⟩, ⟨RY0⟩, ⟨.inr (.inl ⟨rfl, by rcases HK2.out with e | e <;> rw [e] <;> simp⟩)⟩⟩
      clear HX RA
      obtain ⟨v, HX, RA, HV⟩ := hcut
      generalize wc = W8d at *
      have HO : Aside0 (Kd.R k39 39 W8d w.heap.size (fun _ => True) (.slice A5 l.length c5) l) := ⟨Kd.R_mono RA.out (fun _ _ => trivial)⟩
      have m0 : _ = some (.int .i64 v.f0 : Value) := HX.out.cell 0 0 rfl rfl
      have m1 : _ = some (.int .i64 v.f1 : Value) := HX.out.cell 0 1 rfl rfl
      have m2 : _ = some (.string v.f2 : Value) := HX.out.cell 0 2 rfl rfl
      go_wp2_with (first | ((with_reducible refine gate_builtin (b := .append) (xs := #[.tmp 70, .tmp 72]) rfl ?_); at_builtin; refine Kd.R_append k39 (w0 := w) w.heap.size rfl (.tmp 70) (.tmp 72) 30 39 (.agg #[(.int .i64 0), (.int .i64 0), (.string ⟨#[]⟩)]) 32 rfl Tryz.underlying30 info39k rfl (by decide) (by decide) _ l v [.int .i64 v.f0, .int .i64 v.f1, .string v.f2] (fun _ => True) (fun _ => False) rfl rfl (k39_mkM _ _ _ v) (fun _ hk => hk.elim) (fun _ _ => trivial) HO.out HX.out.below HX.out.below.size (by have h := HL.out.1; have := HN.out.1; omega) ?_; intro v73 W73 hr1 hb1 hg1 hat1; have HO2 := Aside0.mk hr1; clear HX HO RA; have HX := Aside0.mk hb1; clear hr1 hb1 hg1 hat1))
      cases gk with
      | zero => exact absurd HKQ.out (by omega)
      | succ gk1 =>
      go_roundg gk1
      case measure => omega
      case rel => exact ⟨i + 1, l ++ [v], by simp, ⟨by have := HKQ.out; omega⟩, HO2, ⟨cOk_add HL.out (HA.out v HV.out)⟩, ⟨⟨HX.out, fun _ h => absurd h List.not_mem_nil, List.nodup_nil⟩⟩⟩
    · have d1 : decide ((i : Int) < (n0 : Int)) = false := decide_eq_false (by omega)
      go_upto_region 3 with (fail)
      try simp only [Reg.SF]
      refine Reg.det [(some 10, Reg.Dv.c (.int .i64 (i : Int))), (some 11, Reg.Dv.c (.slice (some ad) n0 c0)), (some 12, Reg.Dv.c (.int .i64 n0)), (some 13, Reg.Dv.c (.bool false))] [] 75 rfl (by kernel_rfl) (by kernel_rfl) ?s15 ?_
      case s15 =>
        intro iq oq pq hiq hoq hpq ρ ev W S hE hO ec ef hB hft hΦ
        have e0 : ev (.tmp 0) = .slice (some ad) n0 c0 := hO 0 rfl
        have e6 : ev (.tmp 6) = .int .i64 (i : Int) := hO 6 rfl
        simp only [Reg.SV] at hE
        obtain ⟨e10, e11, e12, e13, _⟩ := hE
        rcases Reg.lt4 hiq with rfl | rfl | rfl | rfl
        all_goals (cases hoq; cases hpq)
        all_goals (first | exact Reg.D.mv hB | skip)
        all_goals (refine Reg.D.cv hB ?_; go_simp; try (first | done | rfl | (exact hK2) | (simp [hK2]; done) | (exact d1) | (exact w2) | (exact w3) | (exact w4) | (exact w5) | (exact w6) | (rw [← hq]; rfl) | (rw [← hq2]; rfl) | (simp [d1]; done) | (simp [C45.out]; done) | (simp; omega)))
      intro ρ W3 S hB hft hap hΦ
      simp only [Reg.SV, Reg.SF, Nat.reduceAdd]
      have HX := Aside0.mk (HX.out.call hB)
      have HO2 := Aside0.mk (Kd.R_below HO.out hB)
      clear hΦ hft hap 
      obtain rfl : i = n0 := by have := HKQ.out; omega
      go_wp2_with fail
      go_ret
      exact ⟨_, l, rfl, HO2.out, ⟨HL.out.1, HL.out.2⟩, HX.out.below⟩
end Go.Proofs.YtmebkjdknhknbaaGreatDoor.H
end
section
namespace Go.Proofs.YtmebkjdknhknbaaGreatDoor.H
open Go.RowKit Go.Proofs.YtmebkjdknhknbaaGreatDoor.G Go.Proofs.YtmebkjdknhknbaaGreatDoorW.PrintWords Go.Proofs.YtmebkjdknhknbaaGreatDoorW.PrintLast Go.Proofs.YtmebkjdknhknbaaGreatDoorW.PrintMore
theorem info36s : (Tryz.prog.info? 36).map (·.size) = some 2 := by kernel_rfl
theorem info32s : (Tryz.prog.info? 32).map (·.size) = some 7 := by kernel_rfl
def exA : List S57 := [⟨⟨2, 6, false⟩, 0, ⟨0, 0, ⟨#[]⟩⟩⟩, ⟨⟨3, 0, false⟩, 0, ⟨0, 0, ⟨#[]⟩⟩⟩]
set_option maxHeartbeats 16000000 in
set_option maxRecDepth 100000 in
theorem example_calls (w : World) : Calls Tryz.prog 28 #[] w fun e w' => ∃ v, e = .returned v ∧ Kd.R k57 57 w' w.heap.size (fun _ => True) v exA ∧ Below w.heap.size w w' := by
  have hu := Tryz.underlying49
  have hu2 := Tryz.underlying57
  have HX := Aside0.mk (Bxs.start w)
  go_enter Tryz.func28, Tryz.ntmps28
  go_upto_region 0 with (fail)
  refine Reg.det [(some 0, Reg.Dv.c (.slice none 0 0))] [] 6 rfl (by kernel_rfl) (by kernel_rfl) ?s1 ?_
  case s1 =>
    intro iq oq pq hiq hoq hpq ρ ev W S hE hO ec ef hB hft hΦ
    simp only [Reg.SV] at hE
    obtain ⟨e0, _⟩ := hE
    obtain rfl : iq = 0 := by have : iq < 1 := hiq; omega
    cases hoq; cases hpq
    all_goals (first | exact Reg.D.mv hB | skip)
    all_goals (refine Reg.D.cv hB ?_; go_simp; try (first | done | rfl | (simp; done) | (intro h; omega)))
  intro ρ W0 S hB hft hap hΦ
  simp only [Reg.SV, Reg.SF, Nat.reduceAdd]
  have HX := Aside0.mk (HX.out.call hB)
  clear hΦ hft hap 
  go_upto_region 1 with (fail)
  try simp only [Reg.SF]
  refine Reg.det [(some 1, Reg.Dv.c (.agg #[.int .i64 2, .int .i64 6, .bool false])), (some 2, Reg.Dv.c (.agg #[.int .i64 2, .int .i64 6, .bool false, .int .i64 0, .int .i64 0, .int .i64 0, .string (⟨#[]⟩ : ByteArray)])), (some 3, Reg.Dv.c (.agg #[.int .i64 3, .int .i64 0, .bool false])), (some 4, Reg.Dv.c (.agg #[.int .i64 3, .int .i64 0, .bool false, .int .i64 0, .int .i64 0, .int .i64 0, .string (⟨#[]⟩ : ByteArray)])), (some 5, Reg.Dv.row 5 k57 57 (exA)), (some 0, Reg.Dv.u [5] (fun l => (l.headD undef)))] [] 6 rfl (by kernel_rfl) (by kernel_rfl) ?s2 ?_
  case s2 =>
    intro iq oq pq hiq hoq hpq ρ ev W S hE hO ec ef hB hft hΦ
    simp only [Reg.SV] at hE
    obtain ⟨e1, e2, e3, e4, e5, e0, _⟩ := hE
    rcases Reg.lt6 hiq with rfl | rfl | rfl | rfl | rfl | rfl
    all_goals (cases hoq; cases hpq)
    rotate_left 5
    · obtain ⟨_, _, h5⟩ := Kd.R_slice (hΦ 4 _ rfl rfl rfl)
      replace h5 : ρ 5 = _ := h5
      refine Reg.D.uv hB ?_
      go_simp
      try (first | done | rfl | (simp; done) | (intro h; omega))
    rotate_right 5
    rotate_left 4
    · refine Reg.DStep.lit (inner := [.int .i64 2, .int .i64 6, .bool false, .int .i64 0, .int .i64 0, .int .i64 0, .string (⟨#[]⟩ : ByteArray), .int .i64 3, .int .i64 0, .bool false, .int .i64 0, .int .i64 0, .int .i64 0, .string (⟨#[]⟩ : ByteArray)]) (by first | exact .inl rfl | exact .inr ⟨_, _, _, rfl, rfl, (by assumption)⟩) hB ?_ ?_ (by first | decide | (simp; done))
      · go_simp
        try (first | rfl | exact ⟨rfl, rfl⟩)
      · exact Reps.c7 (k57_mkM _ _ _ ⟨⟨2, 6, false⟩, 0, ⟨0, 0, ⟨#[]⟩⟩⟩) (Reps.c7 (k57_mkM _ _ _ ⟨⟨3, 0, false⟩, 0, ⟨0, 0, ⟨#[]⟩⟩⟩) (Reps.none _ _))
    rotate_right 4
    all_goals (refine Reg.D.cv hB ?_; go_simp; try (first | done | rfl | (simp; done) | (intro h; omega)))
  intro ρ W1 S hB hft hap hΦ
  simp only [Reg.SV, Reg.SF, Nat.reduceAdd]
  have r5 : Kd.R k57 57 W1 _ _ (ρ 5) (exA) := hΦ 4 _ rfl rfl
  obtain ⟨A5, c5, e5⟩ := Kd.R_slice r5
  replace e5 : ρ 5 = .slice A5 2 c5 := e5
  rw [e5] at r5
  replace r5 := Kd.R_mono (ok' := fun _ => True) (Kd.R_lower r5 HX.out.below.size) (fun _ _ => trivial)
  try simp only [e5]
  have HX := Aside0.mk (HX.out.call hB)
  clear hΦ hft hap 
  go_wp2_with fail
  go_ret
  exact ⟨_, rfl, r5, HX.out.below⟩
end Go.Proofs.YtmebkjdknhknbaaGreatDoor.H
end
section
namespace Go.Proofs.YtmebkjdknhknbaaGreatDoor.H
open Go.RowKit Go.Proofs.YtmebkjdknhknbaaGreatDoor.G Go.Proofs.YtmebkjdknhknbaaGreatDoorW.PrintWords Go.Proofs.YtmebkjdknhknbaaGreatDoorW.PrintLast Go.Proofs.YtmebkjdknhknbaaGreatDoorW.PrintMore
def gotOut (A1 : Option Addr) (c1 : Nat) (l : List S39) (r : Option (List S39)) (w w' : World) (e : Ending) : Prop :=
  Below w.heap.size w w' ∧ match r with | some l' => ∃ A2 c2, e = .returned (.agg #[.slice A2 l'.length c2, .int .i64 0]) ∧ Row2 A1 c1 l w' w.heap.size A2 c2 l' | none => e = .returned (.agg #[.slice none 0 0, .int .i64 160])
set_option maxHeartbeats 4000000 in
set_option maxRecDepth 100000 in
theorem put_calls (l0 : List S57) (l : List S39) (x : S29) (v : S39) (R : Option (List S39)) (hp : PutTo 54 l0 l x v R) (A0 : Option Addr) (c0 : Nat) (A1 : Option Addr) (c1 : Nat) (A : Option Addr) (c : Nat) (w : World) (hgl : Gl w) (hc0 : l0.length ≤ c0) (hr0 : Kd.C k57 w A0 l0.length l0) (hc1 : l.length ≤ c1) (hr : Kd.C k39 w A1 l.length l) (hlc : x.f4.length ≤ c) (hC : k29.C w A x.f4.length x.f4) :
    Calls Tryz.prog 11 #[.slice A0 l0.length c0, .agg (lC x A c), .agg #[.slice A1 l.length c1, .int .i64 v.f0, .int .i64 v.f1, .string v.f2]] w fun e w' => gotOut A1 c1 l R w w' e := by
  have hu := Tryz.underlying39
  have hu2 := Tryz.underlying29
  have hu3 := Tryz.underlying36
  have hu4 := Tryz.underlying42
  have HX := Aside0.mk (Bxs.start w)
  have HP : Aside0 (∀ (w' : World), Below w.heap.size w w' → Calls Tryz.prog 32 #[.slice A0 l0.length c0, .agg (lC x A c), .slice A1 l.length c1, .agg (vC v)] w' fun e w'' => putOut A1 c1 l R w' w'' e) :=
    ⟨fun w' hb => Put_calls l0 l x v R hp A0 c0 A1 c1 A c w' (hgl.below hb) hc0 (Kd.C_below hr0 hb) hc1 (Kd.C_below hr hb) hlc (Kd.C_below hC hb)⟩
  obtain ⟨k, a, s, sep, l4⟩ := x
  obtain ⟨V0, V1, V2⟩ := v
  unfold lC vC at *
  dsimp only at HP ⊢
  generalize l4.length = n4 at *
  obtain ⟨n1, hn1⟩ : ∃ n, l.length = n := ⟨_, rfl⟩
  rw [hn1] at HP ⊢
  generalize l0.length = n0 at *
  clear hr hC hlc hgl hr0 hn1 hp
  go_enter Tryz.func11, Tryz.ntmps11
  go_upto_region 1 with (first | ((with_reducible refine gate_dst (N := 4) rfl ?_); refine bx_new (w := w) ?hg (N := 4) ?hd (cs := #[.int .i64 k, .int .i64 a, .int .i64 s, .string sep, .slice A n4 c]) (t := 29) HX.out ?hr ?_; (case hd => rfl); (case hg => rfl); (case hr => first | (go_simp; done) | (go_simp; rfl)); intro g4 W4 hx; clear HX; have HX := Aside0.mk hx; clear hx) | ((with_reducible refine gate_dst (N := 5) rfl ?_); refine bx_new (w := w) ?hg (N := 5) ?hd (cs := #[.slice A1 n1 c1, .int .i64 V0, .int .i64 V1, .string V2]) (t := 42) HX.out ?hr ?_; (case hd => rfl); (case hg => rfl); (case hr => first | (go_simp; done) | (go_simp; rfl)); intro g5 W5 hx; clear HX; have HX := Aside0.mk hx; clear hx) | ((with_reducible refine gate_dst (N := 6) rfl ?_); refine bx_new (w := w) ?hg (N := 6) ?hd (cs := #[.slice none 0 0, .int .i64 0]) (t := 36) HX.out ?hr ?_; (case hd => rfl); (case hg => rfl); (case hr => first | (go_simp; done) | (go_simp; rfl)); intro g6 W6 hx; clear HX; have HX := Aside0.mk hx; clear hx))
  try simp only [Act.put, List.setIfInBounds_toArray, List.set_cons_zero, List.set_cons_succ]
  have b0 := HX.out.cell 2 0 rfl rfl; have b1 := HX.out.cell 2 1 rfl rfl; have b2 := HX.out.cell 2 2 rfl rfl; have b3 := HX.out.cell 2 3 rfl rfl; have b4 := HX.out.cell 2 4 rfl rfl
  have v0 := HX.out.cell 1 0 rfl rfl; have v1 := HX.out.cell 1 1 rfl rfl; have v2 := HX.out.cell 1 2 rfl rfl; have v3 := HX.out.cell 1 3 rfl rfl
  rcases R with _ | l2
  · go_wp2_with (first | (go_at_call 32; (with_reducible refine (HP.out _ HX.out.below).mono ?_); rintro e WX ⟨hb, rfl⟩; have hx := HX.out.call hb; clear HX hb b0 b1 b2 b3 b4 v0 v1 v2 v3; have HX := Aside0.mk hx; clear hx; have p0 := HX.out.cell 0 0 rfl rfl; have p1 := HX.out.cell 0 1 rfl rfl; have y0 := HX.out.frz 0 0 rfl; have y1 := HX.out.frz 0 1 rfl))
    have HY := (HX.out.set (L1 := []) 0 (.slice none 0 0)).set (L1 := []) 1 (.int .i64 160)
    refine bodyPost_ret (results_cell_row rfl _ _ g6 36 #[.slice none 0 0, .int .i64 160] (0, 0) _ rfl (HY.at 0 rfl) hu3 rfl (by kernel_rfl)) rfl ?_
    exact ⟨HY.below, rfl⟩
  · go_wp2_with (first | (go_at_call 32; (with_reducible refine (HP.out _ HX.out.below).mono ?_); rintro e WX ⟨hb, A2, c2, rfl, hr⟩; have HQ := Aside0.mk (hr.lower HX.out.below.size); have hx := HX.out.call hb; clear HX hb hr b0 b1 b2 b3 b4 v0 v1 v2 v3; have HX := Aside0.mk hx; clear hx; have p0 := HX.out.cell 0 0 rfl rfl; have p1 := HX.out.cell 0 1 rfl rfl; have y0 := HX.out.frz 0 0 rfl; have y1 := HX.out.frz 0 1 rfl))
    have HY := (HX.out.set (L1 := []) 0 (.slice A2 l2.length c2)).set (L1 := []) 1 (.int .i64 0)
    refine bodyPost_ret (results_cell_row rfl _ _ g6 36 #[.slice A2 l2.length c2, .int .i64 0] (0, 0) _ rfl (HY.at 0 rfl) hu3 rfl (by kernel_rfl)) rfl ?_
    exact ⟨HY.below, A2, c2, rfl, (HQ.out.set (HX.out.at 0 rfl) (by decide) _ _).set ((HX.out.set (L1 := []) 0 (.slice A2 l2.length c2)).at 0 rfl) (by decide) _ _⟩
end Go.Proofs.YtmebkjdknhknbaaGreatDoor.H
end
section
namespace Go.Proofs.YtmebkjdknhknbaaGreatDoor.H
open Go.RowKit Go.Proofs.YtmebkjdknhknbaaGreatDoor.G Go.Proofs.YtmebkjdknhknbaaGreatDoorW.PrintWords Go.Proofs.YtmebkjdknhknbaaGreatDoorW.PrintLast Go.Proofs.YtmebkjdknhknbaaGreatDoorW.PrintMore
def rowE {α : Type} (k : Kd α) (e : Nat) (P : List α → Prop) (v : Value) (B : Nat) (W : World) (S : Nat → Prop) : Prop := ∃ xs, Kd.R k e W B S v xs ∧ P xs
theorem rowE_st {α : Type} {k : Kd α} {e : Nat} {P : List α → Prop} {v : Value} {B : Nat} {W W' : World} {S : Nat → Prop} (hz : W.heap.size ≤ W'.heap.size) (hk : ∀ k, k < W.heap.size → S k → W'.heap[k]? = W.heap[k]?) (h : rowE k e P v B W S) : rowE k e P v B W' S := by
  obtain ⟨xs, hR, hP⟩ := h
  exact ⟨xs, Kd.R_step hR (fun k hS hlt => hk k hlt hS), hP⟩
def rowEDv {α : Type} (d : Nat) (k : Kd α) (e : Nat) (P : List α → Prop) : Reg.Dv := Reg.Dv.n d (rowE k e P) rowE_st
theorem val_rowE {α : Type} (d : Nat) (k : Kd α) (e : Nat) (P : List α → Prop) (n : Nat) (ρ : Nat → Value) : (rowEDv d k e P).val n ρ = ρ n := rfl
theorem rowE_step {α : Type} {k : Kd α} {E : Nat} {P : List α → Prop} {f d : Nat} {eats : List (Nat × Nat)} {i : Nat} {ρ : Nat → Value} {S : Nat → Nat → Prop} {w W : World} {args : Array Value} (hB : Below w.heap.size w W) (h : Calls Tryz.prog f args W fun e w' => ∃ v, e = .returned v ∧ rowE k E P v W.heap.size w' (fun _ => True) ∧ Below W.heap.size W w') :
    Calls Tryz.prog f args W fun e w' => ∃ v, e = .returned v ∧ Reg.Kv eats w i (some d) (rowEDv d k E P) ρ W S v w' := by
  refine h.mono fun e w' h => ?_
  obtain ⟨v, rfl, ⟨xs, hR, hP⟩, hb⟩ := h
  exact ⟨_, rfl, Reg.Kv.n (Φ := rowE k E P) (st := rowE_st) (fun k => W.heap.size ≤ k ∧ k < w'.heap.size) hB hb (fun k hk => hk) ⟨xs, Reg.R_new2 hR hB.size, hP⟩⟩
def mdP (v : Value) (B : Nat) (W : World) (S : Nat → Prop) : Prop := ∃ l0 x l v0 v4 v2, v = .agg #[v0, .int .i64 x.f0, .int .i64 x.f1, .int .i64 x.f2, .string x.f3, v4, v2] ∧ (atOk l0 ∧ vOk 3 l0 x ∧ l.length = l0.length ∧ cellsOk l0 l) ∧ Kd.R k57 57 W B S v0 l0 ∧ Kd.R k29 29 W B S v4 x.f4 ∧ Kd.R k39 39 W B S v2 l
theorem mdP_st {v : Value} {B : Nat} {W W' : World} {S : Nat → Prop} (hz : W.heap.size ≤ W'.heap.size) (hk : ∀ k, k < W.heap.size → S k → W'.heap[k]? = W.heap[k]?) (h : mdP v B W S) : mdP v B W' S := by
  obtain ⟨l0, x, l, v0, v4, v2, e, hP, h0, h4, h2⟩ := h
  exact ⟨l0, x, l, v0, v4, v2, e, hP, Kd.R_step h0 (fun k hS hlt => hk k hlt hS), Kd.R_step h4 (fun k hS hlt => hk k hlt hS), Kd.R_step h2 (fun k hS hlt => hk k hlt hS)⟩
def mdDv (d : Nat) : Reg.Dv := Reg.Dv.n d mdP mdP_st
theorem val_md (d : Nat) (n : Nat) (ρ : Nat → Value) : (mdDv d).val n ρ = ρ n := rfl
theorem md_step {f d : Nat} {eats : List (Nat × Nat)} {i : Nat} {ρ : Nat → Value} {S : Nat → Nat → Prop} {w W : World} {args : Array Value} (hB : Below w.heap.size w W) (h : Calls Tryz.prog f args W fun e w' => (∃ v, e = .returned v ∧ mdP v W.heap.size w' (fun _ => True)) ∧ Below W.heap.size W w') :
    Calls Tryz.prog f args W fun e w' => ∃ v, e = .returned v ∧ Reg.Kv eats w i (some d) (mdDv d) ρ W S v w' := by
  refine h.mono fun e w' h => ?_
  obtain ⟨⟨v, rfl, l0, x, l, v0, v4, v2, rfl, hP, h0, h4, h2⟩, hb⟩ := h
  exact ⟨_, rfl, Reg.Kv.n (Φ := mdP) (st := mdP_st) (fun k => W.heap.size ≤ k ∧ k < w'.heap.size) hB hb (fun k hk => hk) ⟨l0, x, l, v0, v4, v2, rfl, hP, Reg.R_new2 h0 hB.size, Reg.R_new2 h4 hB.size, Reg.R_new2 h2 hB.size⟩⟩
set_option maxHeartbeats 16000000 in
set_option maxRecDepth 100000 in
theorem made_calls (B1 B2 B3 B4 : Option Addr) (d1 d2 d3 n4 d4 : Nat) (l1 l2 l3 : List Int) (hb1 : ∀ x, x ∈ l1 → 0 ≤ x ∧ x ≤ 255) (hb2 : ∀ x, x ∈ l2 → 0 ≤ x ∧ x ≤ 255) (hb3 : ∀ x, x ∈ l3 → 0 ≤ x ∧ x ≤ 255) (hd1 : l1.length ≤ d1) (hd2 : l2.length ≤ d2) (hd3 : l3.length ≤ d3) (w : World) (hr1 : Kd.C (Kd.int .u8) w B1 l1.length l1) (hr2 : Kd.C (Kd.int .u8) w B2 l2.length l2) (hr3 : Kd.C (Kd.int .u8) w B3 l3.length l3) :
    Calls Tryz.prog 10 #[.agg #[.slice B1 l1.length d1, .slice B2 l2.length d2, .slice B3 l3.length d3, .slice B4 n4 d4]] w fun e w' => (∃ v, e = .returned v ∧ mdP v w.heap.size w' (fun _ => True)) ∧ Below w.heap.size w w' := by
  have hu := Tryz.underlying24
  have hu32 := Tryz.underlying32
  have hu72 := Tryz.underlying72
  have HX := Aside0.mk (Bxs.start w)
  have HM : Aside0 (∀ w', Below w.heap.size w w' → Calls Tryz.prog 20 #[.slice B1 l1.length d1] w' fun e w'' => ∃ v l0, e = .returned v ∧ Kd.R k57 57 w'' w'.heap.size (fun _ => True) v l0 ∧ atOk l0 ∧ Below w'.heap.size w' w'') := ⟨fun w' hb => Made_calls B1 l1.length d1 (byteV l1) (byteV_in hb1) w' (byte_calls (Kd.C_below hr1 hb) hd1)⟩
  go_enter Tryz.func10, Tryz.ntmps10
  go_upto_region 0 with (fail)
  refine Reg.det [(some 1, Reg.Dv.box 1 24 (fun _ => #[.slice B1 l1.length d1, .slice B2 l2.length d2, .slice B3 l3.length d3, .slice B4 n4 d4]) [] true), (some 2, Reg.Dv.box 2 32 (fun _ => #[.slice none 0 0, .int .i64 0, .int .i64 0, .int .i64 0, .string (⟨#[]⟩ : ByteArray), .slice none 0 0, .slice none 0 0]) [] true)] [] 18 rfl (by kernel_rfl) (by kernel_rfl) ?s1 ?_
  case s1 =>
    intro iq oq pq hiq hoq hpq ρ ev W S hE hO ec ef hB hft hΦ
    have e0 : ev (.tmp 0) = .agg #[.slice B1 l1.length d1, .slice B2 l2.length d2, .slice B3 l3.length d3, .slice B4 n4 d4] := hO 0 rfl
    simp only [Reg.SV, val_ln, val_rowE] at hE
    obtain ⟨e1, e2, _⟩ := hE
    rcases Reg.lt2 hiq with rfl | rfl
    all_goals (cases hoq; cases hpq)
    rotate_left 1
    · refine Reg.D.box hB ?_
      go_simp
      try rfl
    rotate_right 1
    · refine Reg.D.box hB ?_
      go_simp
      try rfl
  intro ρ W0 S hB hft hap hΦ
  simp only [Reg.SV, val_ln, val_rowE, Reg.SF, Nat.reduceAdd]
  obtain ⟨g1, e1, s1, hg1, _, b1⟩ := hΦ 0 _ rfl rfl
  replace e1 : ρ 1 = .pointer (some ⟨g1, 0, none⟩) := e1
  obtain ⟨g2, e2, s2, hg2, _, b2⟩ := hΦ 1 _ rfl rfl
  replace e2 : ρ 2 = .pointer (some ⟨g2, 0, none⟩) := e2
  try simp only [e1, e2]
  replace b1 : W0.heap[g1]? = some (.cells #[.slice B1 l1.length d1, .slice B2 l2.length d2, .slice B3 l3.length d3, .slice B4 n4 d4] 24 (0, 0)) := b1
  replace b2 : W0.heap[g2]? = some (.cells #[.slice none 0 0, .int .i64 0, .int .i64 0, .int .i64 0, .string (⟨#[]⟩ : ByteArray), .slice none 0 0, .slice none 0 0] 32 (0, 0)) := b2
  have HX := Aside0.mk (HX.out.join ((Bxs.one hB hg1 b1).more hg2 b2 (by intro p hp; simp only [List.mem_cons, List.mem_singleton, List.not_mem_nil, or_false] at hp; rcases hp with rfl <;> (intro e; dsimp only at e; subst e; first | exact absurd (hap _ _ _ s1 s2) (by decide)))))
  clear hΦ hft hap 
  have m0 : _ = some (.slice B1 l1.length d1 : Value) := HX.out.cell 1 0 rfl rfl
  go_upto_region 2 with (first | (go_at_call 20; (with_reducible refine (HM.out _ HX.out.below).mono ?_); rintro e W1 ⟨v6, l0, rfl, hr, hat, hb⟩; have hx := HX.out.call hb; obtain ⟨A6, c6, rfl⟩ := Kd.R_slice hr; have HA := Aside0.mk (Kd.R_lower hr HX.out.below.size); have HAT := Aside0.mk hat; clear HX m0; have HX := Aside0.mk hx; clear hr hat hx hb))
  try simp only [Reg.SF]
  have hAC := Kd.R_reads' HA.out
  have HAny : Aside0 (∀ w', Below W1.heap.size W1 w' → Calls Tryz.prog 31 #[.slice A6 l0.length c6, .slice B2 l2.length d2, .agg #[.int .i64 3, .int .i64 0]] w' fun e w'' => (∃ v, e = .returned v ∧ lnP (vOk 3 l0) v w'.heap.size w'' (fun _ => True)) ∧ Below w'.heap.size w' w'') := ⟨fun w' hb => Any_all l0 HAT.out A6 c6 B2 d2 l2 hb2 hAC.2.1 hd2 3 (by decide) 0 (by decide) (by decide) w' (Kd.C_below hAC.2.2 hb) (Kd.C_below hr2 (below_step HX.out.below hb))⟩
  have HCl : Aside0 (∀ w', Below W1.heap.size W1 w' → Calls Tryz.prog 18 #[.slice A6 l0.length c6, .slice B3 l3.length d3] w' fun e w'' => ∃ v, e = .returned v ∧ rowE k39 39 (fun l => l.length = l0.length ∧ cellsOk l0 l) v w'.heap.size w'' (fun _ => True) ∧ Below w'.heap.size w' w'') := ⟨fun w' hb => (Cells_calls l0 HAT.out A6 c6 B3 l3.length d3 (byteV l3) (byteV_in hb3) w' (Kd.C_below hAC.2.2 hb) (byte_calls (Kd.C_below hr3 (below_step HX.out.below hb)) hd3) power_calls word_calls).mono fun e w'' h => by
      obtain ⟨v, l, he, hR, hP, hb⟩ := h
      exact ⟨v, he, ⟨l, hR, hP⟩, hb⟩⟩
  clear hAC
  have g2lt := blk_lt (HX.out.at 0 rfl)
  have hw1 := HX.out.below.size
  go_upto_region 2 with (fail)
  try simp only [Reg.SF]
  have mg1_1 : _ = some (.slice B2 l2.length d2 : Value) := HX.out.cell 1 1 rfl rfl
  have mg1_2 : _ = some (.slice B3 l3.length d3 : Value) := HX.out.cell 1 2 rfl rfl
  refine Reg.det [(some 7, Reg.Dv.c (.slice A6 l0.length c6)), (some 8, Reg.Dv.c (.slice A6 l0.length c6)), (some 9, Reg.Dv.c (.pointer (some ⟨g1, 1, none⟩))), (some 10, Reg.Dv.c (.slice B2 l2.length d2)), (some 11, Reg.Dv.c (.agg #[.int .i64 3, .int .i64 0])), (some 12, lnDv 12 (vOk 3 l0)), (some 13, Reg.Dv.c (.slice A6 l0.length c6)), (some 14, Reg.Dv.c (.pointer (some ⟨g1, 2, none⟩))), (some 15, Reg.Dv.c (.slice B3 l3.length d3)), (some 16, rowEDv 16 k39 39 (fun l => l.length = l0.length ∧ cellsOk l0 l))] [] 18 rfl (by kernel_rfl) (by kernel_rfl) ?s2 ?_
  case s2 =>
    intro iq oq pq hiq hoq hpq ρ ev W S hE hO ec ef hB hft hΦ
    have e1 : ev (.tmp 1) = .pointer (some ⟨g1, 0, none⟩) := hO 1 rfl
    have e3 : ev (.tmp 3) = .slice A6 l0.length c6 := hO 3 rfl
    have mg1_1' := pw_cell_below hB mg1_1
    have mg1_2' := pw_cell_below hB mg1_2
    simp only [Reg.SV, val_ln, val_rowE] at hE
    obtain ⟨e7, e8, e9, e10, e11, e12, e13, e14, e15, e16, _⟩ := hE
    rcases Reg.lt10 hiq with rfl | rfl | rfl | rfl | rfl | rfl | rfl | rfl | rfl | rfl
    all_goals (cases hoq; cases hpq)
    rotate_left 9
    · refine Reg.D.call (g := 18) (args := #[.slice A6 l0.length c6, .slice B3 l3.length d3]) (by go_simp; try rfl) ?_
      exact rowE_step hB (HCl.out W hB)
    rotate_right 9
    rotate_left 5
    · refine Reg.D.call (g := 31) (args := #[.slice A6 l0.length c6, .slice B2 l2.length d2, .agg #[.int .i64 3, .int .i64 0]]) (by go_simp; try rfl) ?_
      exact ln_step hB (HAny.out W hB)
    rotate_right 5
    all_goals (first | exact Reg.D.mv hB | skip)
    all_goals (refine Reg.D.cv hB ?_; go_simp; try (first | done | rfl | (simp; done) | (intro h; omega)))
  intro ρ W2 S hB hft hap hΦ
  simp only [Reg.SV, val_ln, val_rowE, Reg.SF, Nat.reduceAdd]
  obtain ⟨x, vX, e12, PX, rX⟩ := hΦ 5 _ rfl rfl
  obtain ⟨AX, cX, evX⟩ := Kd.R_slice rX
  subst evX
  replace e12 : ρ 12 = .agg #[.int .i64 x.f0, .int .i64 x.f1, .int .i64 x.f2, .string x.f3, .slice AX x.f4.length cX] := e12
  have RX := Aside0.mk (Kd.R_mono (ok' := fun k => W1.heap.size ≤ k) (Kd.R_bound rX) (fun k hk => hk.2.1))
  clear rX
  obtain ⟨l, rL, hL⟩ := hΦ 9 _ rfl rfl
  obtain ⟨AL, cL, e16⟩ := Kd.R_slice rL
  replace e16 : ρ 16 = .slice AL l.length cL := e16
  have rL2 : Kd.R k39 39 W2 W1.heap.size _ (ρ 16) l := rL
  rw [e16] at rL2
  have RL := Aside0.mk (Kd.R_mono (ok' := fun k => W1.heap.size ≤ k) (Kd.R_bound rL2) (fun k hk => hk.2.1))
  clear rL rL2
  try simp only [e12, e16]
  have HX := Aside0.mk (HX.out.call hB)
  replace HA := Aside0.mk (Kd.R_below HA.out hB)
  clear hΦ hft hap mg1_1 mg1_2
  refine Kd.event_run (v := .agg #[.slice A6 l0.length c6, .int .i64 x.f0, .int .i64 x.f1, .int .i64 x.f2, .string x.f3, .slice AX x.f4.length cX, .slice AL l.length cL]) (w1 := W2) rfl (by first | (go_simp; done) | (go_simp; rfl)) ?_
  try simp only [Reg.SF]
  have HA2 := Aside0.mk (Kd.R_types HA.out (HX.out.at 0 rfl) (by decide))
  clear HA
  refine bx_putB (w := w) rfl 32 (.tmp 2) (.tmp 17) rfl rfl (L1 := []) (cells := #[.slice A6 l0.length c6, .int .i64 x.f0, .int .i64 x.f1, .int .i64 x.f2, .string x.f3, .slice AX x.f4.length cX, .slice AL l.length cL]) HX.out rfl rfl (by kernel_rfl) rfl rfl ?_
  intro W2s hx hput
  have HX := Aside0.mk hx
  replace HA2 := Aside0.mk (Kd.R_step HA2.out (fun k hk _ => hput k (by exact hk.2)))
  replace RX := Aside0.mk (Kd.R_step RX.out (fun k hk _ => hput k (by have := hk; omega)))
  replace RL := Aside0.mk (Kd.R_step RL.out (fun k hk _ => hput k (by have := hk; omega)))
  clear hx hput
  go_wp2_with fail
  refine bodyPost_ret (results_cell_row rfl _ _ g2 32 #[.slice A6 l0.length c6, .int .i64 x.f0, .int .i64 x.f1, .int .i64 x.f2, .string x.f3, .slice AX x.f4.length cX, .slice AL l.length cL] (0, 0) _ rfl (HX.out.at 0 rfl) hu32 rfl (by kernel_rfl)) rfl ?_
  exact ⟨⟨_, rfl, l0, x, l, _, _, _, rfl, ⟨HAT.out, PX, hL⟩, Kd.R_mono HA2.out (fun _ _ => trivial), Kd.R_lower (Kd.R_mono RX.out (fun _ _ => trivial)) hw1, Kd.R_lower (Kd.R_mono RL.out (fun _ _ => trivial)) hw1⟩, HX.out.below⟩
end Go.Proofs.YtmebkjdknhknbaaGreatDoor.H
end
section
namespace Go.Proofs.YtmebkjdknhknbaaGreatDoor.H
open Go.RowKit Go.Proofs.YtmebkjdknhknbaaGreatDoor.G Go.Proofs.YtmebkjdknhknbaaGreatDoor.F Go.Proofs.YtmebkjdknhknbaaGreatDoorW.PrintWords Go.Proofs.YtmebkjdknhknbaaGreatDoorW.PrintLast Go.Proofs.YtmebkjdknhknbaaGreatDoorW.PrintMore
def lnT : S29 := ⟨1, 1, 0, ⟨#[]⟩, []⟩
def lnS : S29 := ⟨2, 0, 1, ⟨#[]⟩, []⟩
def lnW : S29 := ⟨3, 0, 1, ⟨#[]⟩, []⟩
def lnF : S29 := ⟨4, 0, 0, ⟨#[32]⟩, [lnT]⟩
def lnR : S29 := ⟨5, 0, 0, ⟨#[32]⟩, [lnT]⟩
def lnB : S29 := ⟨6, 0, 0, ⟨#[44]⟩, [lnF, lnR]⟩
def ln0 : S29 := ⟨0, 0, 0, ⟨#[]⟩, []⟩
def exC : List S39 := [⟨2, 12345000, ⟨#[]⟩⟩, ⟨3, 0, ⟨#[97, 110, 110, 32, 108, 101, 101]⟩⟩]
theorem dep_leaf (k : Nat) (x : S29) (h : x.f4 = []) : dep (k + 1) x := ⟨by rw [h]; decide, fun i hi => by rw [h] at hi; exact absurd hi (Nat.not_lt_zero _)⟩
theorem dep_one (k : Nat) (x y : S29) (h : x.f4 = [y]) (hy : dep k y) : dep (k + 1) x := ⟨by rw [h]; show 1 < 2 ^ 62; decide, fun i hi => by
  rw [h] at hi ⊢
  obtain rfl : i = 0 := by simpa using hi
  exact hy⟩
theorem dep_two (k : Nat) (x y z : S29) (h : x.f4 = [y, z]) (hy : dep k y) (hz : dep k z) : dep (k + 1) x := ⟨by rw [h]; show 2 < 2 ^ 62; decide, fun i hi => by
  rw [h] at hi ⊢
  have : i = 0 ∨ i = 1 := by simp at hi; omega
  rcases this with rfl | rfl
  · exact hy
  · exact hz⟩
theorem dT (k : Nat) : dep (k + 1) lnT := dep_leaf k _ rfl
theorem dS : dep 4 lnS := dep_leaf 3 _ rfl
theorem dW : dep 4 lnW := dep_leaf 3 _ rfl
theorem d0 : dep 4 ln0 := dep_leaf 3 _ rfl
theorem dF3 : dep 3 lnF := dep_one 2 _ lnT rfl (dT 1)
theorem dR3 : dep 3 lnR := dep_one 2 _ lnT rfl (dT 1)
theorem dF : dep 4 lnF := dep_one 3 _ lnT rfl (dT 2)
theorem dR : dep 4 lnR := dep_one 3 _ lnT rfl (dT 2)
theorem dB : dep 4 lnB := dep_two 3 _ lnF lnR rfl dF3 dR3
theorem vS : (ofV 4 exA lnS 3).2 = true := by kernel_rfl
theorem voS : vOk 4 exA lnS := ⟨dS, 3, vS⟩
theorem vW : (ofV 4 exA lnW 3).2 = true := by kernel_rfl
theorem voW : vOk 4 exA lnW := ⟨dW, 3, vW⟩
theorem vF : (ofV 4 exA lnF 3).2 = true := by kernel_rfl
theorem voF : vOk 4 exA lnF := ⟨dF, 3, vF⟩
theorem vR : (ofV 4 exA lnR 3).2 = true := by kernel_rfl
theorem voR : vOk 4 exA lnR := ⟨dR, 3, vR⟩
theorem vB : (ofV 4 exA lnB 3).2 = true := by kernel_rfl
theorem voB : vOk 4 exA lnB := ⟨dB, 3, vB⟩
def gotP (A1 : Option Addr) (c1 : Nat) (l l2 : List S39) (v : Value) (B : Nat) (W : World) (S : Nat → Prop) : Prop :=
  ∃ A2 c2, v = .agg #[.slice A2 l2.length c2, .int .i64 0] ∧ ((A2 = A1 ∧ c2 = c1 ∧ l2 = l) ∨ Kd.R k39 39 W B S (.slice A2 l2.length c2) l2)
theorem gotP_st {A1 : Option Addr} {c1 : Nat} {l l2 : List S39} {v : Value} {B : Nat} {W W' : World} {S : Nat → Prop} (hz : W.heap.size ≤ W'.heap.size) (hk : ∀ k, k < W.heap.size → S k → W'.heap[k]? = W.heap[k]?) (h : gotP A1 c1 l l2 v B W S) : gotP A1 c1 l l2 v B W' S := by
  obtain ⟨A2, c2, rfl, h⟩ := h
  exact ⟨A2, c2, rfl, h.imp id (fun h => Kd.R_step h (fun k hS hlt => hk k hlt hS))⟩
def gotDv (d : Nat) (A1 : Option Addr) (c1 : Nat) (l l2 : List S39) : Reg.Dv := Reg.Dv.n d (gotP A1 c1 l l2) gotP_st
theorem val_got (d : Nat) (A1 : Option Addr) (c1 : Nat) (l l2 : List S39) (e : Nat) (ρ : Nat → Value) : (gotDv d A1 c1 l l2).val e ρ = ρ e := rfl
theorem got_step {f d : Nat} {eats : List (Nat × Nat)} {i : Nat} {ρ : Nat → Value} {S : Nat → Nat → Prop} {A1 : Option Addr} {c1 : Nat} {l l2 : List S39} {w W : World} {args : Array Value} (hB : Below w.heap.size w W) (h : Calls Tryz.prog f args W fun e w' => gotOut A1 c1 l (some l2) W w' e) :
    Calls Tryz.prog f args W fun e w' => ∃ v, e = .returned v ∧ Reg.Kv eats w i (some d) (gotDv d A1 c1 l l2) ρ W S v w' := by
  refine h.mono fun e w' h => ?_
  obtain ⟨hb, A2, c2, rfl, h⟩ := h
  refine ⟨_, rfl, Reg.Kv.n (Φ := gotP A1 c1 l l2) (st := gotP_st) (fun k => W.heap.size ≤ k ∧ k < w'.heap.size) hB hb (fun k hk => hk) ⟨A2, c2, rfl, ?_⟩⟩
  rcases h with h | h
  · exact .inl h
  · exact .inr (Reg.R_new2 h hB.size)
theorem v0 : (ofV 4 exA ln0 3).2 = false := by kernel_rfl
theorem fC : fitL exA exC = true := by kernel_rfl
theorem f0 : fitL exA [] = false := by kernel_rfl
theorem sS : shV 4 exC lnS = ⟨2, 12300000, ⟨#[]⟩⟩ := by kernel_rfl
theorem sW : shV 4 exC lnW = ⟨3, 0, ⟨#[49, 50, 46, 51]⟩⟩ := by kernel_rfl
theorem sF : shV 4 exC lnF = ⟨3, 0, ⟨#[97, 110, 110]⟩⟩ := by kernel_rfl
theorem sR : shV 4 exC lnR = ⟨3, 0, ⟨#[108, 101, 101]⟩⟩ := by kernel_rfl
theorem sB : shV 4 exC lnB = ⟨3, 0, ⟨#[97, 110, 110, 44, 108, 101, 101]⟩⟩ := by kernel_rfl
def la : List S39 := [⟨2, 12345000, ⟨#[]⟩⟩, ⟨3, 0, ⟨#[97, 110, 110, 32, 108, 101, 101]⟩⟩]
theorem pa : putsV 4 exA exC lnS ⟨2, 12300000, ⟨#[]⟩⟩ = some la := by kernel_rfl
def lb : List S39 := [⟨2, 12400000, ⟨#[]⟩⟩, ⟨3, 0, ⟨#[97, 110, 110, 32, 108, 101, 101]⟩⟩]
theorem pb : putsV 4 exA exC lnS ⟨2, 12400000, ⟨#[]⟩⟩ = some lb := by kernel_rfl
def lc : List S39 := [⟨2, 12345000, ⟨#[]⟩⟩, ⟨3, 0, ⟨#[98, 111, 98, 32, 108, 101, 101]⟩⟩]
theorem pc : putsV 4 exA exC lnF ⟨3, 0, ⟨#[98, 111, 98]⟩⟩ = some lc := by kernel_rfl
def ld : List S39 := [⟨2, 12345000, ⟨#[]⟩⟩, ⟨3, 0, ⟨#[97, 110, 110]⟩⟩]
theorem pd : putsV 4 exA exC lnR ⟨0, 0, ⟨#[]⟩⟩ = some ld := by kernel_rfl
def le : List S39 := [⟨2, 12345000, ⟨#[]⟩⟩, ⟨3, 0, ⟨#[98, 111, 98]⟩⟩]
theorem pe : putsV 4 exA exC lnB ⟨3, 0, ⟨#[98, 111, 98]⟩⟩ = some le := by kernel_rfl
theorem pf : putsV 4 exA exC lnW ⟨3, 0, ⟨#[49, 50, 46, 52, 48]⟩⟩ = none := by kernel_rfl
theorem pg : putsV 4 exA exC lnB ⟨3, 0, ⟨#[97, 32, 98, 44, 99]⟩⟩ = none := by kernel_rfl
theorem aF (k : Nat) : attrsV (k + 2) lnF = [1] := by
  have h : attrsV (k + 2) lnF = Lib.compact ([1].mergeSort fun a b => decide (a ≤ b)) := rfl
  rw [h, List.mergeSort_singleton]; rfl
theorem aR (k : Nat) : attrsV (k + 2) lnR = [1] := by
  have h : attrsV (k + 2) lnR = Lib.compact ([1].mergeSort fun a b => decide (a ≤ b)) := rfl
  rw [h, List.mergeSort_singleton]; rfl
theorem aB : attrsV 4 lnB = [1] := by
  have h : attrsV 4 lnB = Lib.compact ((attrsV 3 lnF ++ (attrsV 3 lnR ++ [])).mergeSort fun a b => decide (a ≤ b)) := rfl
  rw [h, aF 1, aR 1, List.mergeSort_of_pairwise (by simp)]; rfl
theorem wT (k : Nat) : wOk (k + 1) lnT := ⟨by decide, fun i hi => absurd hi (Nat.not_lt_zero _)⟩
theorem wB : wOk 4 lnB := ⟨by decide, fun i hi => by
  have : i = 0 ∨ i = 1 := by have : i < 2 := hi; omega
  rcases this with rfl | rfl
  · exact ⟨by decide, fun i hi => by obtain rfl : i = 0 := by have : i < 1 := hi; omega
                                     exact wT 1⟩
  · exact ⟨by decide, fun i hi => by obtain rfl : i = 0 := by have : i < 1 := hi; omega
                                     exact wT 1⟩⟩
theorem same_a : chapmanref16_Same.f 5 la exC = some true := by kernel_rfl
theorem in_B : chapmanref16_In.f 5 [1] 1 = some true := by kernel_rfl
end Go.Proofs.YtmebkjdknhknbaaGreatDoor.H
end
section
namespace Go.Proofs.YtmebkjdknhknbaaGreatDoor.H
open Go.RowKit Go.Proofs.YtmebkjdknhknbaaGreatDoor.G Go.Proofs.YtmebkjdknhknbaaGreatDoor.F Go.Proofs.YtmebkjdknhknbaaGreatDoorW.PrintWords Go.Proofs.YtmebkjdknhknbaaGreatDoorW.PrintLast Go.Proofs.YtmebkjdknhknbaaGreatDoorW.PrintMore
theorem below_of_drawn {w w' : World} (h : Drawn0 w w') : Below w.heap.size w w' := by
  obtain ⟨m, rfl⟩ := h
  exact pw_below_drewN (Below.refl _ _) m
set_option maxHeartbeats 16000000 in
set_option maxRecDepth 100000 in
theorem examples_calls (w : World) (hgl : Gl w) : Calls Tryz.prog 9 #[] w fun e w' => e = .returned (.bool true) ∧ Below w.heap.size w w' := by
  have hu := Tryz.underlying49
  have hu2 := Tryz.underlying57
  have hu3 := Tryz.underlying29
  have hu4 := Tryz.underlying39
  have hu5 := Tryz.underlying36
  have hu6 := Tryz.underlying42
  have HX := Aside0.mk (Bxs.start w)
  have HG := Aside0.mk hgl
  clear hgl
  go_enter Tryz.func9, Tryz.ntmps9
  go_upto_region 0 with (fail)
  refine Reg.det [(some 0, Reg.Dv.c (.bool false))] [] 211 rfl (by kernel_rfl) (by kernel_rfl) ?s3 ?_
  case s3 =>
    intro iq oq pq hiq hoq hpq ρ ev W S hE hO ec ef hB hft hΦ
    simp only [Reg.SV] at hE
    obtain ⟨e0, _⟩ := hE
    obtain rfl : iq = 0 := by have : iq < 1 := hiq; omega
    cases hoq; cases hpq
    all_goals (first | exact Reg.D.mv hB | skip)
    all_goals (refine Reg.D.cv hB ?_; go_simp; try (first | done | rfl | (simp; done) | (intro h; omega)))
  intro ρ W0 S hB hft hap hΦ
  simp only [Reg.SV, Reg.SF, Nat.reduceAdd]
  have HX := Aside0.mk (HX.out.call hB)
  clear hΦ hft hap 
  go_upto_region 1 with (fail)
  try simp only [Reg.SF]
  refine Reg.det [(some 14, Reg.Dv.row 14 k57 57 (exA)), (some 1, Reg.Dv.u [14] (fun l => (l.headD undef)))] [] 211 rfl (by kernel_rfl) (by kernel_rfl) ?s4 ?_
  case s4 =>
    intro iq oq pq hiq hoq hpq ρ ev W S hE hO ec ef hB hft hΦ
    simp only [Reg.SV] at hE
    obtain ⟨e14, e1, _⟩ := hE
    rcases Reg.lt2 hiq with rfl | rfl
    all_goals (cases hoq; cases hpq)
    rotate_left 1
    · obtain ⟨_, _, h14⟩ := Kd.R_slice (hΦ 0 _ rfl rfl rfl)
      replace h14 : ρ 14 = _ := h14
      refine Reg.D.uv hB ?_
      go_simp
      try (first | done | rfl | (simp; done) | (intro h; omega))
    rotate_right 1
    · refine Reg.D.crow (g := 28) (args := #[]) hB (by go_simp; try rfl) ?_
      exact example_calls W
  intro ρ W1 S hB hft hap hΦ
  simp only [Reg.SV, Reg.SF, Nat.reduceAdd]
  have r14 : Kd.R k57 57 W1 _ _ (ρ 14) (exA) := hΦ 0 _ rfl rfl
  obtain ⟨A14, c14, e14⟩ := Kd.R_slice r14
  replace e14 : ρ 14 = .slice A14 2 c14 := e14
  rw [e14] at r14
  replace r14 := Kd.R_mono (ok' := fun _ => True) (Kd.R_lower r14 HX.out.below.size) (fun _ _ => trivial)
  try simp only [e14]
  have HX := Aside0.mk (HX.out.call hB)
  clear hΦ hft hap 
  have RA := Aside0.mk (r14)
  go_upto_region 2 with (fail)
  try simp only [Reg.SF]
  refine Reg.det [(some 15, Reg.Dv.c (.agg #[.int .i64 2, .int .i64 12345000, .string (⟨#[]⟩ : ByteArray)])), (some 16, Reg.Dv.c (.agg #[.int .i64 3, .int .i64 0, .string (⟨#[97, 110, 110, 32, 108, 101, 101]⟩ : ByteArray)])), (some 17, Reg.Dv.blk 17 39 2 #[.int .i64 2, .int .i64 12345000, .string (⟨#[]⟩ : ByteArray), .int .i64 3, .int .i64 0, .string (⟨#[97, 110, 110, 32, 108, 101, 101]⟩ : ByteArray)]), (some 2, Reg.Dv.u [17] (fun l => (l.headD undef)))] [] 211 rfl (by kernel_rfl) (by kernel_rfl) ?s5 ?_
  case s5 =>
    intro iq oq pq hiq hoq hpq ρ ev W S hE hO ec ef hB hft hΦ
    simp only [Reg.SV] at hE
    obtain ⟨e15, e16, e17, e2, _⟩ := hE
    rcases Reg.lt4 hiq with rfl | rfl | rfl | rfl
    all_goals (cases hoq; cases hpq)
    rotate_left 3
    · obtain ⟨_, h17, _⟩ := hΦ 2 _ rfl rfl rfl
      replace h17 : ρ 17 = _ := h17
      refine Reg.D.uv hB ?_
      go_simp
      try (first | done | rfl | (simp; done) | (intro h; omega))
    rotate_right 3
    rotate_left 2
    · refine Reg.D.blk hB ?_
      go_simp
      try (first | rfl | exact ⟨rfl, rfl⟩)
    rotate_right 2
    rotate_left 1
    · refine Reg.D.cc (g := 29) (args := #[.string (⟨#[97, 110, 110, 32, 108, 101, 101]⟩ : ByteArray)]) hB (by go_simp; try rfl) ?_
      exact chapmanref16_Texted.calls (⟨#[97, 110, 110, 32, 108, 101, 101]⟩ : ByteArray) 3 0 (⟨#[97, 110, 110, 32, 108, 101, 101]⟩ : ByteArray) W rfl
    rotate_right 1
    all_goals (refine Reg.D.cv hB ?_; go_simp; try (first | done | rfl | (simp; done) | (intro h; omega)))
  intro ρ W2 S hB hft hap hΦ
  simp only [Reg.SV, Reg.SF, Nat.reduceAdd]
  obtain ⟨g17, e17, s17, hg17, _, b17⟩ := hΦ 2 _ rfl rfl
  replace e17 : ρ 17 = .slice (some ⟨g17, 0, none⟩) 2 2 := e17
  try simp only [e17]
  replace b17 : W2.heap[g17]? = some (.cells #[.int .i64 2, .int .i64 12345000, .string (⟨#[]⟩ : ByteArray), .int .i64 3, .int .i64 0, .string (⟨#[97, 110, 110, 32, 108, 101, 101]⟩ : ByteArray)] 39 (0, 0)) := b17
  have HX := Aside0.mk (HX.out.join (Bxs.one hB hg17 b17))
  replace RA := Aside0.mk (Kd.R_below RA.out hB)
  clear hΦ hft hap 
  go_upto_region 3 with (fail)
  try simp only [Reg.SF]
  refine Reg.det [(some 18, Reg.Dv.c (.agg #[.int .i64 2, .int .i64 0, .int .i64 1, .string (⟨#[]⟩ : ByteArray), .slice none 0 0])), (some 3, Reg.Dv.box 3 29 (fun _ => #[.int .i64 0, .int .i64 0, .int .i64 0, .string (⟨#[]⟩ : ByteArray), .slice none 0 0]) [] true), (none, Reg.Dv.box 3 29 (fun _ => #[.int .i64 2, .int .i64 0, .int .i64 1, .string (⟨#[]⟩ : ByteArray), .slice none 0 0]) [] false)] [(1, 2)] 211 rfl (by kernel_rfl) (by kernel_rfl) ?s6 ?_
  case s6 =>
    intro iq oq pq hiq hoq hpq ρ ev W S hE hO ec ef hB hft hΦ
    simp only [Reg.SV] at hE
    obtain ⟨e18, e3, _⟩ := hE
    rcases Reg.lt3 hiq with rfl | rfl | rfl
    all_goals (cases hoq; cases hpq)
    rotate_left 2
    · exact Reg.D.fill 1 29 (.tmp 3) (.tmp 18) hB e3 (by first | assumption | rfl | (simp [*]; done)) (hΦ 1 _ rfl rfl rfl) info29s (by first | rfl | (simp only [Reg.SV]; rfl))
    rotate_right 2
    rotate_left 1
    · refine Reg.D.box hB ?_
      go_simp
      try rfl
    rotate_right 1
    all_goals (refine Reg.D.cv hB ?_; go_simp; try (first | done | rfl | (simp; done) | (intro h; omega)))
  intro ρ W3 S hB hft hap hΦ
  simp only [Reg.SV, Reg.SF, Nat.reduceAdd]
  obtain ⟨g3, e3, s3, hg3, _, b3⟩ := hΦ 2 _ rfl rfl
  replace e3 : ρ 3 = .pointer (some ⟨g3, 0, none⟩) := e3
  try simp only [e3]
  replace b3 : W3.heap[g3]? = some (.cells #[.int .i64 2, .int .i64 0, .int .i64 1, .string (⟨#[]⟩ : ByteArray), .slice none 0 0] 29 (0, 0)) := b3
  have HX := Aside0.mk (HX.out.join (Bxs.one hB hg3 b3))
  replace RA := Aside0.mk (Kd.R_below RA.out hB)
  clear hΦ hft hap 
  go_upto_region 4 with (fail)
  try simp only [Reg.SF]
  refine Reg.det [(some 19, Reg.Dv.c (.agg #[.int .i64 3, .int .i64 0, .int .i64 1, .string (⟨#[]⟩ : ByteArray), .slice none 0 0])), (some 4, Reg.Dv.box 4 29 (fun _ => #[.int .i64 0, .int .i64 0, .int .i64 0, .string (⟨#[]⟩ : ByteArray), .slice none 0 0]) [] true), (none, Reg.Dv.box 4 29 (fun _ => #[.int .i64 3, .int .i64 0, .int .i64 1, .string (⟨#[]⟩ : ByteArray), .slice none 0 0]) [] false)] [(1, 2)] 211 rfl (by kernel_rfl) (by kernel_rfl) ?s7 ?_
  case s7 =>
    intro iq oq pq hiq hoq hpq ρ ev W S hE hO ec ef hB hft hΦ
    simp only [Reg.SV] at hE
    obtain ⟨e19, e4, _⟩ := hE
    rcases Reg.lt3 hiq with rfl | rfl | rfl
    all_goals (cases hoq; cases hpq)
    rotate_left 2
    · exact Reg.D.fill 1 29 (.tmp 4) (.tmp 19) hB e4 (by first | assumption | rfl | (simp [*]; done)) (hΦ 1 _ rfl rfl rfl) info29s (by first | rfl | (simp only [Reg.SV]; rfl))
    rotate_right 2
    rotate_left 1
    · refine Reg.D.box hB ?_
      go_simp
      try rfl
    rotate_right 1
    all_goals (refine Reg.D.cv hB ?_; go_simp; try (first | done | rfl | (simp; done) | (intro h; omega)))
  intro ρ W4 S hB hft hap hΦ
  simp only [Reg.SV, Reg.SF, Nat.reduceAdd]
  obtain ⟨g4, e4, s4, hg4, _, b4⟩ := hΦ 2 _ rfl rfl
  replace e4 : ρ 4 = .pointer (some ⟨g4, 0, none⟩) := e4
  try simp only [e4]
  replace b4 : W4.heap[g4]? = some (.cells #[.int .i64 3, .int .i64 0, .int .i64 1, .string (⟨#[]⟩ : ByteArray), .slice none 0 0] 29 (0, 0)) := b4
  have HX := Aside0.mk (HX.out.join (Bxs.one hB hg4 b4))
  replace RA := Aside0.mk (Kd.R_below RA.out hB)
  clear hΦ hft hap 
  go_upto_region 5 with (fail)
  try simp only [Reg.SF]
  refine Reg.det [(some 20, Reg.Dv.c (.agg #[.int .i64 1, .int .i64 1, .int .i64 0, .string (⟨#[]⟩ : ByteArray), .slice none 0 0])), (some 21, Reg.Dv.blk 21 29 1 #[.int .i64 1, .int .i64 1, .int .i64 0, .string (⟨#[]⟩ : ByteArray), .slice none 0 0]), (some 5, Reg.Dv.u [21] (fun l => (l.headD undef)))] [] 211 rfl (by kernel_rfl) (by kernel_rfl) ?s8 ?_
  case s8 =>
    intro iq oq pq hiq hoq hpq ρ ev W S hE hO ec ef hB hft hΦ
    simp only [Reg.SV] at hE
    obtain ⟨e20, e21, e5, _⟩ := hE
    rcases Reg.lt3 hiq with rfl | rfl | rfl
    all_goals (cases hoq; cases hpq)
    rotate_left 2
    · obtain ⟨_, h21, _⟩ := hΦ 1 _ rfl rfl rfl
      replace h21 : ρ 21 = _ := h21
      refine Reg.D.uv hB ?_
      go_simp
      try (first | done | rfl | (simp; done) | (intro h; omega))
    rotate_right 2
    rotate_left 1
    · refine Reg.D.blk hB ?_
      go_simp
      try (first | rfl | exact ⟨rfl, rfl⟩)
    rotate_right 1
    all_goals (refine Reg.D.cv hB ?_; go_simp; try (first | done | rfl | (simp; done) | (intro h; omega)))
  intro ρ W5 S hB hft hap hΦ
  simp only [Reg.SV, Reg.SF, Nat.reduceAdd]
  obtain ⟨g21, e21, s21, hg21, _, b21⟩ := hΦ 1 _ rfl rfl
  replace e21 : ρ 21 = .slice (some ⟨g21, 0, none⟩) 1 1 := e21
  try simp only [e21]
  replace b21 : W5.heap[g21]? = some (.cells #[.int .i64 1, .int .i64 1, .int .i64 0, .string (⟨#[]⟩ : ByteArray), .slice none 0 0] 29 (0, 0)) := b21
  have HX := Aside0.mk (HX.out.join (Bxs.one hB hg21 b21))
  replace RA := Aside0.mk (Kd.R_below RA.out hB)
  clear hΦ hft hap 
  go_upto_region 6 with (fail)
  try simp only [Reg.SF]
  refine Reg.det [(some 22, Reg.Dv.c (.slice (some ⟨g21, 0, none⟩) 1 1)), (some 23, Reg.Dv.c (.agg #[.int .i64 4, .int .i64 0, .int .i64 0, .string (⟨#[32]⟩ : ByteArray), .slice (some ⟨g21, 0, none⟩) 1 1])), (some 24, Reg.Dv.c (.slice (some ⟨g21, 0, none⟩) 1 1)), (some 25, Reg.Dv.c (.agg #[.int .i64 5, .int .i64 0, .int .i64 0, .string (⟨#[32]⟩ : ByteArray), .slice (some ⟨g21, 0, none⟩) 1 1])), (some 6, Reg.Dv.box 6 29 (fun _ => #[.int .i64 0, .int .i64 0, .int .i64 0, .string (⟨#[]⟩ : ByteArray), .slice none 0 0]) [] true), (some 7, Reg.Dv.box 7 29 (fun _ => #[.int .i64 0, .int .i64 0, .int .i64 0, .string (⟨#[]⟩ : ByteArray), .slice none 0 0]) [] true), (none, Reg.Dv.box 6 29 (fun _ => #[.int .i64 4, .int .i64 0, .int .i64 0, .string (⟨#[32]⟩ : ByteArray), .slice (some ⟨g21, 0, none⟩) 1 1]) [] false), (none, Reg.Dv.box 7 29 (fun _ => #[.int .i64 5, .int .i64 0, .int .i64 0, .string (⟨#[32]⟩ : ByteArray), .slice (some ⟨g21, 0, none⟩) 1 1]) [] false)] [(4, 6), (5, 7)] 211 rfl (by kernel_rfl) (by kernel_rfl) ?s9 ?_
  case s9 =>
    intro iq oq pq hiq hoq hpq ρ ev W S hE hO ec ef hB hft hΦ
    have e5 : ev (.tmp 5) = .slice (some ⟨g21, 0, none⟩) 1 1 := hO 5 rfl
    simp only [Reg.SV] at hE
    obtain ⟨e22, e23, e24, e25, e6, e7, _⟩ := hE
    rcases Reg.lt8 hiq with rfl | rfl | rfl | rfl | rfl | rfl | rfl | rfl
    all_goals (cases hoq; cases hpq)
    rotate_left 7
    · exact Reg.D.fill 5 29 (.tmp 7) (.tmp 25) hB e7 (by first | assumption | rfl | (simp [*]; done)) (hΦ 5 _ rfl rfl rfl) info29s (by first | rfl | (simp only [Reg.SV]; rfl))
    rotate_right 7
    rotate_left 6
    · exact Reg.D.fill 4 29 (.tmp 6) (.tmp 23) hB e6 (by first | assumption | rfl | (simp [*]; done)) (hΦ 4 _ rfl rfl rfl) info29s (by first | rfl | (simp only [Reg.SV]; rfl))
    rotate_right 6
    rotate_left 5
    · refine Reg.D.box hB ?_
      go_simp
      try rfl
    rotate_right 5
    rotate_left 4
    · refine Reg.D.box hB ?_
      go_simp
      try rfl
    rotate_right 4
    all_goals (first | exact Reg.D.mv hB | skip)
    all_goals (refine Reg.D.cv hB ?_; go_simp; try (first | done | rfl | (simp; done) | (intro h; omega)))
  intro ρ W6 S hB hft hap hΦ
  simp only [Reg.SV, Reg.SF, Nat.reduceAdd]
  obtain ⟨g6, e6, s6, hg6, _, b6⟩ := hΦ 6 _ rfl rfl
  replace e6 : ρ 6 = .pointer (some ⟨g6, 0, none⟩) := e6
  obtain ⟨g7, e7, s7, hg7, _, b7⟩ := hΦ 7 _ rfl rfl
  replace e7 : ρ 7 = .pointer (some ⟨g7, 0, none⟩) := e7
  try simp only [e6, e7]
  replace b6 : W6.heap[g6]? = some (.cells #[.int .i64 4, .int .i64 0, .int .i64 0, .string (⟨#[32]⟩ : ByteArray), .slice (some ⟨g21, 0, none⟩) 1 1] 29 (0, 0)) := b6
  replace b7 : W6.heap[g7]? = some (.cells #[.int .i64 5, .int .i64 0, .int .i64 0, .string (⟨#[32]⟩ : ByteArray), .slice (some ⟨g21, 0, none⟩) 1 1] 29 (0, 0)) := b7
  have HX := Aside0.mk (HX.out.join ((Bxs.one hB hg6 b6).more hg7 b7 (by intro p hp; simp only [List.mem_cons, List.mem_singleton, List.not_mem_nil, or_false] at hp; rcases hp with rfl <;> (intro e; dsimp only at e; subst e; first | exact absurd (hap _ _ _ s6 s7) (by decide)))))
  replace RA := Aside0.mk (Kd.R_below RA.out hB)
  clear hΦ hft hap 
  go_upto_region 7 with (fail)
  try simp only [Reg.SF]
  have mg6_0 : _ = some (.int .i64 4 : Value) := HX.out.cell 1 0 rfl rfl
  have mg6_1 : _ = some (.int .i64 0 : Value) := HX.out.cell 1 1 rfl rfl
  have mg6_2 : _ = some (.int .i64 0 : Value) := HX.out.cell 1 2 rfl rfl
  have mg6_3 : _ = some (.string (⟨#[32]⟩ : ByteArray) : Value) := HX.out.cell 1 3 rfl rfl
  have mg6_4 : _ = some (.slice (some ⟨g21, 0, none⟩) 1 1 : Value) := HX.out.cell 1 4 rfl rfl
  have mg7_0 : _ = some (.int .i64 5 : Value) := HX.out.cell 0 0 rfl rfl
  have mg7_1 : _ = some (.int .i64 0 : Value) := HX.out.cell 0 1 rfl rfl
  have mg7_2 : _ = some (.int .i64 0 : Value) := HX.out.cell 0 2 rfl rfl
  have mg7_3 : _ = some (.string (⟨#[32]⟩ : ByteArray) : Value) := HX.out.cell 0 3 rfl rfl
  have mg7_4 : _ = some (.slice (some ⟨g21, 0, none⟩) 1 1 : Value) := HX.out.cell 0 4 rfl rfl
  refine Reg.det [(some 26, Reg.Dv.c (.agg #[.int .i64 4, .int .i64 0, .int .i64 0, .string (⟨#[32]⟩ : ByteArray), .slice (some ⟨g21, 0, none⟩) 1 1])), (some 27, Reg.Dv.c (.agg #[.int .i64 5, .int .i64 0, .int .i64 0, .string (⟨#[32]⟩ : ByteArray), .slice (some ⟨g21, 0, none⟩) 1 1])), (some 28, Reg.Dv.blk 28 29 2 #[.int .i64 4, .int .i64 0, .int .i64 0, .string (⟨#[32]⟩ : ByteArray), .slice (some ⟨g21, 0, none⟩) 1 1, .int .i64 5, .int .i64 0, .int .i64 0, .string (⟨#[32]⟩ : ByteArray), .slice (some ⟨g21, 0, none⟩) 1 1]), (some 29, Reg.Dv.u [28] (fun l => .agg #[.int .i64 6, .int .i64 0, .int .i64 0, .string (⟨#[44]⟩ : ByteArray), (l.headD undef)])), (some 8, Reg.Dv.box 8 29 (fun _ => #[.int .i64 0, .int .i64 0, .int .i64 0, .string (⟨#[]⟩ : ByteArray), .slice none 0 0]) [] true), (none, Reg.Dv.box 8 29 (fun l => #[.int .i64 6, .int .i64 0, .int .i64 0, .string (⟨#[44]⟩ : ByteArray), (l.headD undef)]) [28] false)] [(4, 5)] 211 rfl (by kernel_rfl) (by kernel_rfl) ?s10 ?_
  case s10 =>
    intro iq oq pq hiq hoq hpq ρ ev W S hE hO ec ef hB hft hΦ
    have e6 : ev (.tmp 6) = .pointer (some ⟨g6, 0, none⟩) := hO 6 rfl
    have e7 : ev (.tmp 7) = .pointer (some ⟨g7, 0, none⟩) := hO 7 rfl
    have mg6_0' := pw_cell_below hB mg6_0
    have mg6_1' := pw_cell_below hB mg6_1
    have mg6_2' := pw_cell_below hB mg6_2
    have mg6_3' := pw_cell_below hB mg6_3
    have mg6_4' := pw_cell_below hB mg6_4
    have mg7_0' := pw_cell_below hB mg7_0
    have mg7_1' := pw_cell_below hB mg7_1
    have mg7_2' := pw_cell_below hB mg7_2
    have mg7_3' := pw_cell_below hB mg7_3
    have mg7_4' := pw_cell_below hB mg7_4
    simp only [Reg.SV] at hE
    obtain ⟨e26, e27, e28, e29, e8, _⟩ := hE
    rcases Reg.lt6 hiq with rfl | rfl | rfl | rfl | rfl | rfl
    all_goals (cases hoq; cases hpq)
    rotate_left 5
    · obtain ⟨_, h28, _⟩ := hΦ 2 _ rfl rfl rfl
      replace h28 : ρ 28 = _ := h28
      exact Reg.D.fill 4 29 (.tmp 8) (.tmp 29) hB e8 (by first | assumption | rfl | (simp [*]; done)) (hΦ 4 _ rfl rfl rfl) info29s (by first | rfl | (simp only [Reg.SV, h28]; rfl))
    rotate_right 5
    rotate_left 4
    · refine Reg.D.box hB ?_
      go_simp
      try rfl
    rotate_right 4
    rotate_left 3
    · obtain ⟨_, h28, _⟩ := hΦ 2 _ rfl rfl rfl
      replace h28 : ρ 28 = _ := h28
      refine Reg.D.uv hB ?_
      go_simp
      try (first | done | rfl | (simp; done) | (intro h; omega))
    rotate_right 3
    rotate_left 2
    · refine Reg.D.blk hB ?_
      go_simp
      try (first | rfl | exact ⟨rfl, rfl⟩)
    rotate_right 2
    all_goals (refine Reg.D.cv hB ?_; go_simp; try (first | done | rfl | (simp; done) | (intro h; omega)))
  intro ρ W7 S hB hft hap hΦ
  simp only [Reg.SV, Reg.SF, Nat.reduceAdd]
  obtain ⟨g28, e28, s28, hg28, _, b28⟩ := hΦ 2 _ rfl rfl
  replace e28 : ρ 28 = .slice (some ⟨g28, 0, none⟩) 2 2 := e28
  obtain ⟨g8, e8, s8, hg8, _, b8⟩ := hΦ 5 _ rfl rfl
  replace e8 : ρ 8 = .pointer (some ⟨g8, 0, none⟩) := e8
  replace b8 : W7.heap[g8]? = some (.cells #[.int .i64 6, .int .i64 0, .int .i64 0, .string (⟨#[44]⟩ : ByteArray), ρ 28] 29 (0, 0)) := b8
  rw [e28] at b8
  try simp only [e28, e8]
  replace b28 : W7.heap[g28]? = some (.cells #[.int .i64 4, .int .i64 0, .int .i64 0, .string (⟨#[32]⟩ : ByteArray), .slice (some ⟨g21, 0, none⟩) 1 1, .int .i64 5, .int .i64 0, .int .i64 0, .string (⟨#[32]⟩ : ByteArray), .slice (some ⟨g21, 0, none⟩) 1 1] 29 (0, 0)) := b28
  replace b8 : W7.heap[g8]? = some (.cells #[.int .i64 6, .int .i64 0, .int .i64 0, .string (⟨#[44]⟩ : ByteArray), .slice (some ⟨g28, 0, none⟩) 2 2] 29 (0, 0)) := b8
  have HX := Aside0.mk (HX.out.join ((Bxs.one hB hg28 b28).more hg8 b8 (by intro p hp; simp only [List.mem_cons, List.mem_singleton, List.not_mem_nil, or_false] at hp; rcases hp with rfl <;> (intro e; dsimp only at e; subst e; first | exact absurd (hap _ _ _ s28 s8) (by decide)))))
  replace RA := Aside0.mk (Kd.R_below RA.out hB)
  clear hΦ hft hap mg6_0 mg6_1 mg6_2 mg6_3 mg6_4 mg7_0 mg7_1 mg7_2 mg7_3 mg7_4
  have HC0 : Kd.C k57 W7 A14 2 exA := (Kd.R_reads' RA.out).2.2
  have hc14 : 2 ≤ c14 := (Kd.R_reads' RA.out).2.1
  have hG7 : Gl W7 := HG.out.below HX.out.below
  have HC1 : Kd.C k39 W7 (some ⟨g17, 0, none⟩) 2 exC := C_of_blk (HX.out.at 7 rfl) (Reps.c3 (k39_mk W7 ⟨2, 12345000, ⟨#[]⟩⟩) (Reps.c3 (k39_mk W7 ⟨3, 0, (⟨#[97, 110, 110, 32, 108, 101, 101]⟩ : ByteArray)⟩) (Reps.none _ _))) (by decide)
  have HCT : k29.C W7 (some ⟨g21, 0, none⟩) 1 [lnT] := C_of_blk (HX.out.at 4 rfl) (Reps.c5 (k29_mk W7 lnT (A4 := none) (c4 := 0) (Nat.le_refl _) (Kd.C_nil _ _)) (Reps.none _ _)) (by decide)
  have HCB : k29.C W7 (some ⟨g28, 0, none⟩) 2 [lnF, lnR] := C_of_blk (HX.out.at 1 rfl) (Reps.c5 (k29_mk W7 lnF (A4 := some ⟨g21, 0, none⟩) (c4 := 1) (Nat.le_refl _) HCT) (Reps.c5 (k29_mk W7 lnR (A4 := some ⟨g21, 0, none⟩) (c4 := 1) (Nat.le_refl _) HCT) (Reps.none _ _))) (by decide)
  have HB7 := Aside0.mk (Below.refl W7.heap.size W7)
  have HVS : Aside0 (∀ (w' : World), Below W7.heap.size W7 w' → Calls Tryz.prog 27 #[.slice A14 2 c14, .agg #[.int .i64 2, .int .i64 0, .int .i64 1, .string (⟨#[]⟩ : ByteArray), .slice none 0 0]] w' fun e w'' => e = .returned (.bool true) ∧ Below w'.heap.size w' w'') := ⟨fun w' hb => by
    have h := Valid_calls exA lnS 4 dS A14 c14 none 0 w' (hG7.below hb) (Kd.C_below HC0 hb) (Nat.le_refl _) (Kd.C_nil _ _)
    rw [vS] at h
    exact h⟩
  have HVW : Aside0 (∀ (w' : World), Below W7.heap.size W7 w' → Calls Tryz.prog 27 #[.slice A14 2 c14, .agg #[.int .i64 3, .int .i64 0, .int .i64 1, .string (⟨#[]⟩ : ByteArray), .slice none 0 0]] w' fun e w'' => e = .returned (.bool true) ∧ Below w'.heap.size w' w'') := ⟨fun w' hb => by
    have h := Valid_calls exA lnW 4 dW A14 c14 none 0 w' (hG7.below hb) (Kd.C_below HC0 hb) (Nat.le_refl _) (Kd.C_nil _ _)
    rw [vW] at h
    exact h⟩
  have HVB : Aside0 (∀ (w' : World), Below W7.heap.size W7 w' → Calls Tryz.prog 27 #[.slice A14 2 c14, .agg #[.int .i64 6, .int .i64 0, .int .i64 0, .string (⟨#[44]⟩ : ByteArray), .slice (some ⟨g28, 0, none⟩) 2 2]] w' fun e w'' => e = .returned (.bool true) ∧ Below w'.heap.size w' w'') := ⟨fun w' hb => by
    have h := Valid_calls exA lnB 4 dB A14 c14 (some ⟨g28, 0, none⟩) 2 w' (hG7.below hb) (Kd.C_below HC0 hb) (Nat.le_refl _) (Kd.C_below HCB hb)
    rw [vB] at h
    exact h⟩
  have HV0 : Aside0 (∀ (w' : World), Below W7.heap.size W7 w' → Calls Tryz.prog 27 #[.slice A14 2 c14, .agg #[.int .i64 0, .int .i64 0, .int .i64 0, .string (⟨#[]⟩ : ByteArray), .slice none 0 0]] w' fun e w'' => e = .returned (.bool false) ∧ Below w'.heap.size w' w'') := ⟨fun w' hb => by
    have h := Valid_calls exA ln0 4 d0 A14 c14 none 0 w' (hG7.below hb) (Kd.C_below HC0 hb) (Nat.le_refl _) (Kd.C_nil _ _)
    rw [v0] at h
    exact h⟩
  have HF1 : Aside0 (∀ (w' : World), Below W7.heap.size W7 w' → Calls Tryz.prog 30 #[.slice A14 2 c14, .slice (some ⟨g17, 0, none⟩) 2 2] w' fun e w'' => e = .returned (.bool true) ∧ Below w'.heap.size w' w'') := ⟨fun w' hb => by
    exact lens_Fit.calls 5 A14 c14 exA (some ⟨g17, 0, none⟩) 2 exC true w' (Kd.C_below HC0 hb) hc14 (Kd.C_below HC1 hb) (Nat.le_refl _) (hG7.below hb) ((fit_f exA exC (by decide)).trans (congrArg some fC))⟩
  have HF0 : Aside0 (∀ (w' : World), Below W7.heap.size W7 w' → Calls Tryz.prog 30 #[.slice A14 2 c14, .slice none 0 0] w' fun e w'' => e = .returned (.bool false) ∧ Below w'.heap.size w' w'') := ⟨fun w' hb => by
    exact lens_Fit.calls 5 A14 c14 exA none 0 [] false w' (Kd.C_below HC0 hb) hc14 (Kd.C_nil _ _) (Nat.le_refl _) (hG7.below hb) ((fit_f exA [] (by decide)).trans (congrArg some f0))⟩
  have HSS : Aside0 (∀ (w' : World), Below W7.heap.size W7 w' → Calls Tryz.prog 12 #[.agg #[.int .i64 2, .int .i64 0, .int .i64 1, .string (⟨#[]⟩ : ByteArray), .slice none 0 0], .slice (some ⟨g17, 0, none⟩) 2 2] w' fun e w'' => e = .returned (.agg #[.int .i64 2, .int .i64 12300000, .string (⟨#[]⟩ : ByteArray)]) ∧ Below w'.heap.size w' w'') := ⟨fun w' hb => by
    exact Show_calls exC lnS ⟨2, 12300000, ⟨#[]⟩⟩ (some ⟨g17, 0, none⟩) 2 none 0 w' (hG7.below hb) (Kd.C_below HC1 hb) (Nat.le_refl _) (Kd.C_nil _ _) (by
      have h := shows_all none 0 0 exC 4 lnS (show_ok fC 4 lnS voS).1
      rw [sS] at h
      exact h)⟩
  have HSW : Aside0 (∀ (w' : World), Below W7.heap.size W7 w' → Calls Tryz.prog 12 #[.agg #[.int .i64 3, .int .i64 0, .int .i64 1, .string (⟨#[]⟩ : ByteArray), .slice none 0 0], .slice (some ⟨g17, 0, none⟩) 2 2] w' fun e w'' => e = .returned (.agg #[.int .i64 3, .int .i64 0, .string (⟨#[49, 50, 46, 51]⟩ : ByteArray)]) ∧ Below w'.heap.size w' w'') := ⟨fun w' hb => by
    exact Show_calls exC lnW ⟨3, 0, ⟨#[49, 50, 46, 51]⟩⟩ (some ⟨g17, 0, none⟩) 2 none 0 w' (hG7.below hb) (Kd.C_below HC1 hb) (Nat.le_refl _) (Kd.C_nil _ _) (by
      have h := shows_all none 0 0 exC 4 lnW (show_ok fC 4 lnW voW).1
      rw [sW] at h
      exact h)⟩
  have HSF : Aside0 (∀ (w' : World), Below W7.heap.size W7 w' → Calls Tryz.prog 12 #[.agg #[.int .i64 4, .int .i64 0, .int .i64 0, .string (⟨#[32]⟩ : ByteArray), .slice (some ⟨g21, 0, none⟩) 1 1], .slice (some ⟨g17, 0, none⟩) 2 2] w' fun e w'' => e = .returned (.agg #[.int .i64 3, .int .i64 0, .string (⟨#[97, 110, 110]⟩ : ByteArray)]) ∧ Below w'.heap.size w' w'') := ⟨fun w' hb => by
    exact Show_calls exC lnF ⟨3, 0, ⟨#[97, 110, 110]⟩⟩ (some ⟨g17, 0, none⟩) 2 (some ⟨g21, 0, none⟩) 1 w' (hG7.below hb) (Kd.C_below HC1 hb) (Nat.le_refl _) (Kd.C_below HCT hb) (by
      have h := shows_all none 0 0 exC 4 lnF (show_ok fC 4 lnF voF).1
      rw [sF] at h
      exact h)⟩
  have HSR : Aside0 (∀ (w' : World), Below W7.heap.size W7 w' → Calls Tryz.prog 12 #[.agg #[.int .i64 5, .int .i64 0, .int .i64 0, .string (⟨#[32]⟩ : ByteArray), .slice (some ⟨g21, 0, none⟩) 1 1], .slice (some ⟨g17, 0, none⟩) 2 2] w' fun e w'' => e = .returned (.agg #[.int .i64 3, .int .i64 0, .string (⟨#[108, 101, 101]⟩ : ByteArray)]) ∧ Below w'.heap.size w' w'') := ⟨fun w' hb => by
    exact Show_calls exC lnR ⟨3, 0, ⟨#[108, 101, 101]⟩⟩ (some ⟨g17, 0, none⟩) 2 (some ⟨g21, 0, none⟩) 1 w' (hG7.below hb) (Kd.C_below HC1 hb) (Nat.le_refl _) (Kd.C_below HCT hb) (by
      have h := shows_all none 0 0 exC 4 lnR (show_ok fC 4 lnR voR).1
      rw [sR] at h
      exact h)⟩
  have HSB : Aside0 (∀ (w' : World), Below W7.heap.size W7 w' → Calls Tryz.prog 12 #[.agg #[.int .i64 6, .int .i64 0, .int .i64 0, .string (⟨#[44]⟩ : ByteArray), .slice (some ⟨g28, 0, none⟩) 2 2], .slice (some ⟨g17, 0, none⟩) 2 2] w' fun e w'' => e = .returned (.agg #[.int .i64 3, .int .i64 0, .string (⟨#[97, 110, 110, 44, 108, 101, 101]⟩ : ByteArray)]) ∧ Below w'.heap.size w' w'') := ⟨fun w' hb => by
    exact Show_calls exC lnB ⟨3, 0, ⟨#[97, 110, 110, 44, 108, 101, 101]⟩⟩ (some ⟨g17, 0, none⟩) 2 (some ⟨g28, 0, none⟩) 2 w' (hG7.below hb) (Kd.C_below HC1 hb) (Nat.le_refl _) (Kd.C_below HCB hb) (by
      have h := shows_all none 0 0 exC 4 lnB (show_ok fC 4 lnB voB).1
      rw [sB] at h
      exact h)⟩
  have HPa : Aside0 (∀ (w' : World), Below W7.heap.size W7 w' → Calls Tryz.prog 11 #[.slice A14 2 c14, .agg #[.int .i64 2, .int .i64 0, .int .i64 1, .string (⟨#[]⟩ : ByteArray), .slice none 0 0], .agg #[.slice (some ⟨g17, 0, none⟩) 2 2, .int .i64 2, .int .i64 12300000, .string (⟨#[]⟩ : ByteArray)]] w' fun e w'' => gotOut (some ⟨g17, 0, none⟩) 2 exC (some la) w' w'' e) := ⟨fun w' hb => by
    have h := puts_all exA (by decide) 4 lnS voS exC ⟨2, 12300000, ⟨#[]⟩⟩ fC
    rw [pa] at h
    exact put_calls exA exC lnS ⟨2, 12300000, ⟨#[]⟩⟩ _ h A14 c14 (some ⟨g17, 0, none⟩) 2 none 0 w' (hG7.below hb) hc14 (Kd.C_below HC0 hb) (Nat.le_refl _) (Kd.C_below HC1 hb) (Nat.le_refl _) (Kd.C_nil _ _)⟩
  have HPb : Aside0 (∀ (w' : World), Below W7.heap.size W7 w' → Calls Tryz.prog 11 #[.slice A14 2 c14, .agg #[.int .i64 2, .int .i64 0, .int .i64 1, .string (⟨#[]⟩ : ByteArray), .slice none 0 0], .agg #[.slice (some ⟨g17, 0, none⟩) 2 2, .int .i64 2, .int .i64 12400000, .string (⟨#[]⟩ : ByteArray)]] w' fun e w'' => gotOut (some ⟨g17, 0, none⟩) 2 exC (some lb) w' w'' e) := ⟨fun w' hb => by
    have h := puts_all exA (by decide) 4 lnS voS exC ⟨2, 12400000, ⟨#[]⟩⟩ fC
    rw [pb] at h
    exact put_calls exA exC lnS ⟨2, 12400000, ⟨#[]⟩⟩ _ h A14 c14 (some ⟨g17, 0, none⟩) 2 none 0 w' (hG7.below hb) hc14 (Kd.C_below HC0 hb) (Nat.le_refl _) (Kd.C_below HC1 hb) (Nat.le_refl _) (Kd.C_nil _ _)⟩
  have HPc : Aside0 (∀ (w' : World), Below W7.heap.size W7 w' → Calls Tryz.prog 11 #[.slice A14 2 c14, .agg #[.int .i64 4, .int .i64 0, .int .i64 0, .string (⟨#[32]⟩ : ByteArray), .slice (some ⟨g21, 0, none⟩) 1 1], .agg #[.slice (some ⟨g17, 0, none⟩) 2 2, .int .i64 3, .int .i64 0, .string (⟨#[98, 111, 98]⟩ : ByteArray)]] w' fun e w'' => gotOut (some ⟨g17, 0, none⟩) 2 exC (some lc) w' w'' e) := ⟨fun w' hb => by
    have h := puts_all exA (by decide) 4 lnF voF exC ⟨3, 0, ⟨#[98, 111, 98]⟩⟩ fC
    rw [pc] at h
    exact put_calls exA exC lnF ⟨3, 0, ⟨#[98, 111, 98]⟩⟩ _ h A14 c14 (some ⟨g17, 0, none⟩) 2 (some ⟨g21, 0, none⟩) 1 w' (hG7.below hb) hc14 (Kd.C_below HC0 hb) (Nat.le_refl _) (Kd.C_below HC1 hb) (Nat.le_refl _) (Kd.C_below HCT hb)⟩
  have HPd : Aside0 (∀ (w' : World), Below W7.heap.size W7 w' → Calls Tryz.prog 11 #[.slice A14 2 c14, .agg #[.int .i64 5, .int .i64 0, .int .i64 0, .string (⟨#[32]⟩ : ByteArray), .slice (some ⟨g21, 0, none⟩) 1 1], .agg #[.slice (some ⟨g17, 0, none⟩) 2 2, .int .i64 0, .int .i64 0, .string (⟨#[]⟩ : ByteArray)]] w' fun e w'' => gotOut (some ⟨g17, 0, none⟩) 2 exC (some ld) w' w'' e) := ⟨fun w' hb => by
    have h := puts_all exA (by decide) 4 lnR voR exC ⟨0, 0, ⟨#[]⟩⟩ fC
    rw [pd] at h
    exact put_calls exA exC lnR ⟨0, 0, ⟨#[]⟩⟩ _ h A14 c14 (some ⟨g17, 0, none⟩) 2 (some ⟨g21, 0, none⟩) 1 w' (hG7.below hb) hc14 (Kd.C_below HC0 hb) (Nat.le_refl _) (Kd.C_below HC1 hb) (Nat.le_refl _) (Kd.C_below HCT hb)⟩
  have HPe : Aside0 (∀ (w' : World), Below W7.heap.size W7 w' → Calls Tryz.prog 11 #[.slice A14 2 c14, .agg #[.int .i64 6, .int .i64 0, .int .i64 0, .string (⟨#[44]⟩ : ByteArray), .slice (some ⟨g28, 0, none⟩) 2 2], .agg #[.slice (some ⟨g17, 0, none⟩) 2 2, .int .i64 3, .int .i64 0, .string (⟨#[98, 111, 98]⟩ : ByteArray)]] w' fun e w'' => gotOut (some ⟨g17, 0, none⟩) 2 exC (some le) w' w'' e) := ⟨fun w' hb => by
    have h := puts_all exA (by decide) 4 lnB voB exC ⟨3, 0, ⟨#[98, 111, 98]⟩⟩ fC
    rw [pe] at h
    exact put_calls exA exC lnB ⟨3, 0, ⟨#[98, 111, 98]⟩⟩ _ h A14 c14 (some ⟨g17, 0, none⟩) 2 (some ⟨g28, 0, none⟩) 2 w' (hG7.below hb) hc14 (Kd.C_below HC0 hb) (Nat.le_refl _) (Kd.C_below HC1 hb) (Nat.le_refl _) (Kd.C_below HCB hb)⟩
  have HPf : Aside0 (∀ (w' : World), Below W7.heap.size W7 w' → Calls Tryz.prog 11 #[.slice A14 2 c14, .agg #[.int .i64 3, .int .i64 0, .int .i64 1, .string (⟨#[]⟩ : ByteArray), .slice none 0 0], .agg #[.slice (some ⟨g17, 0, none⟩) 2 2, .int .i64 3, .int .i64 0, .string (⟨#[49, 50, 46, 52, 48]⟩ : ByteArray)]] w' fun e w'' => gotOut (some ⟨g17, 0, none⟩) 2 exC (none) w' w'' e) := ⟨fun w' hb => by
    have h := puts_all exA (by decide) 4 lnW voW exC ⟨3, 0, ⟨#[49, 50, 46, 52, 48]⟩⟩ fC
    rw [pf] at h
    exact put_calls exA exC lnW ⟨3, 0, ⟨#[49, 50, 46, 52, 48]⟩⟩ _ h A14 c14 (some ⟨g17, 0, none⟩) 2 none 0 w' (hG7.below hb) hc14 (Kd.C_below HC0 hb) (Nat.le_refl _) (Kd.C_below HC1 hb) (Nat.le_refl _) (Kd.C_nil _ _)⟩
  have HPg : Aside0 (∀ (w' : World), Below W7.heap.size W7 w' → Calls Tryz.prog 11 #[.slice A14 2 c14, .agg #[.int .i64 6, .int .i64 0, .int .i64 0, .string (⟨#[44]⟩ : ByteArray), .slice (some ⟨g28, 0, none⟩) 2 2], .agg #[.slice (some ⟨g17, 0, none⟩) 2 2, .int .i64 3, .int .i64 0, .string (⟨#[97, 32, 98, 44, 99]⟩ : ByteArray)]] w' fun e w'' => gotOut (some ⟨g17, 0, none⟩) 2 exC (none) w' w'' e) := ⟨fun w' hb => by
    have h := puts_all exA (by decide) 4 lnB voB exC ⟨3, 0, ⟨#[97, 32, 98, 44, 99]⟩⟩ fC
    rw [pg] at h
    exact put_calls exA exC lnB ⟨3, 0, ⟨#[97, 32, 98, 44, 99]⟩⟩ _ h A14 c14 (some ⟨g17, 0, none⟩) 2 (some ⟨g28, 0, none⟩) 2 w' (hG7.below hb) hc14 (Kd.C_below HC0 hb) (Nat.le_refl _) (Kd.C_below HC1 hb) (Nat.le_refl _) (Kd.C_below HCB hb)⟩
  have HAB : Aside0 (∀ (w' : World), Below W7.heap.size W7 w' → Calls Tryz.prog 14 #[.agg #[.int .i64 6, .int .i64 0, .int .i64 0, .string (⟨#[44]⟩ : ByteArray), .slice (some ⟨g28, 0, none⟩) 2 2]] w' fun e w'' => ∃ v, e = .returned v ∧ Kd.R (Kd.int .i64) 3 w'' w'.heap.size (fun _ => True) v [1] ∧ Below w'.heap.size w' w'') := ⟨fun w' hb => by
    have h := Attrs_all 4 lnB (by decide) wB (some ⟨g28, 0, none⟩) 2 w' (Nat.le_refl _) (Kd.C_below HCB hb)
    rw [aB] at h
    exact h⟩
  have HC1' := Aside0.mk HC1
  clear HC0 HC1 HCT HCB hc14 hG7
  go_upto_region 8 with (fail)
  try simp only [Reg.SF]
  have mg3_0 : _ = some (.int .i64 2 : Value) := HX.out.cell 6 0 rfl rfl
  have mg3_1 : _ = some (.int .i64 0 : Value) := HX.out.cell 6 1 rfl rfl
  have mg3_2 : _ = some (.int .i64 1 : Value) := HX.out.cell 6 2 rfl rfl
  have mg3_3 : _ = some (.string (⟨#[]⟩ : ByteArray) : Value) := HX.out.cell 6 3 rfl rfl
  have mg3_4 : _ = some (.slice none 0 0 : Value) := HX.out.cell 6 4 rfl rfl
  have mg4_0 : _ = some (.int .i64 3 : Value) := HX.out.cell 5 0 rfl rfl
  have mg4_1 : _ = some (.int .i64 0 : Value) := HX.out.cell 5 1 rfl rfl
  have mg4_2 : _ = some (.int .i64 1 : Value) := HX.out.cell 5 2 rfl rfl
  have mg4_3 : _ = some (.string (⟨#[]⟩ : ByteArray) : Value) := HX.out.cell 5 3 rfl rfl
  have mg4_4 : _ = some (.slice none 0 0 : Value) := HX.out.cell 5 4 rfl rfl
  have mg8_0 : _ = some (.int .i64 6 : Value) := HX.out.cell 0 0 rfl rfl
  have mg8_1 : _ = some (.int .i64 0 : Value) := HX.out.cell 0 1 rfl rfl
  have mg8_2 : _ = some (.int .i64 0 : Value) := HX.out.cell 0 2 rfl rfl
  have mg8_3 : _ = some (.string (⟨#[44]⟩ : ByteArray) : Value) := HX.out.cell 0 3 rfl rfl
  have mg8_4 : _ = some (.slice (some ⟨g28, 0, none⟩) 2 2 : Value) := HX.out.cell 0 4 rfl rfl
  refine Reg.det [(some 30, Reg.Dv.c (.slice A14 2 c14)), (some 31, Reg.Dv.c (.agg #[.int .i64 2, .int .i64 0, .int .i64 1, .string (⟨#[]⟩ : ByteArray), .slice none 0 0])), (some 32, Reg.Dv.c (.bool true)), (some 33, Reg.Dv.c (.bool false)), (some 34, Reg.Dv.c (.bool false)), (some 35, Reg.Dv.c (.slice A14 2 c14)), (some 36, Reg.Dv.c (.agg #[.int .i64 3, .int .i64 0, .int .i64 1, .string (⟨#[]⟩ : ByteArray), .slice none 0 0])), (some 37, Reg.Dv.c (.bool true)), (some 38, Reg.Dv.c (.bool false)), (some 39, Reg.Dv.c (.bool false)), (some 40, Reg.Dv.c (.bool false)), (some 41, Reg.Dv.c (.slice A14 2 c14)), (some 42, Reg.Dv.c (.agg #[.int .i64 6, .int .i64 0, .int .i64 0, .string (⟨#[44]⟩ : ByteArray), .slice (some ⟨g28, 0, none⟩) 2 2])), (some 43, Reg.Dv.c (.bool true)), (some 44, Reg.Dv.c (.bool false)), (some 45, Reg.Dv.c (.bool false)), (some 46, Reg.Dv.c (.bool false)), (some 47, Reg.Dv.c (.slice A14 2 c14)), (some 48, Reg.Dv.c (.agg #[.int .i64 0, .int .i64 0, .int .i64 0, .string (⟨#[]⟩ : ByteArray), .slice none 0 0])), (some 49, Reg.Dv.c (.bool false)), (some 50, Reg.Dv.c (.bool false)), (some 51, Reg.Dv.c (.bool false)), (some 52, Reg.Dv.c (.slice A14 2 c14)), (some 53, Reg.Dv.c (.slice (some ⟨g17, 0, none⟩) 2 2)), (some 54, Reg.Dv.c (.bool true)), (some 55, Reg.Dv.c (.bool false)), (some 56, Reg.Dv.c (.bool false)), (some 57, Reg.Dv.c (.bool false)), (some 58, Reg.Dv.c (.slice A14 2 c14)), (some 59, Reg.Dv.c (.bool false)), (some 60, Reg.Dv.c (.bool false))] [] 211 rfl (by kernel_rfl) (by kernel_rfl) ?s11 ?_
  case s11 =>
    intro iq oq pq hiq hoq hpq ρ ev W S hE hO ec ef hB hft hΦ
    have e1 : ev (.tmp 1) = .slice A14 2 c14 := hO 1 rfl
    have e2 : ev (.tmp 2) = .slice (some ⟨g17, 0, none⟩) 2 2 := hO 2 rfl
    have e3 : ev (.tmp 3) = .pointer (some ⟨g3, 0, none⟩) := hO 3 rfl
    have e4 : ev (.tmp 4) = .pointer (some ⟨g4, 0, none⟩) := hO 4 rfl
    have e8 : ev (.tmp 8) = .pointer (some ⟨g8, 0, none⟩) := hO 8 rfl
    have mg3_0' := pw_cell_below hB mg3_0
    have mg3_1' := pw_cell_below hB mg3_1
    have mg3_2' := pw_cell_below hB mg3_2
    have mg3_3' := pw_cell_below hB mg3_3
    have mg3_4' := pw_cell_below hB mg3_4
    have mg4_0' := pw_cell_below hB mg4_0
    have mg4_1' := pw_cell_below hB mg4_1
    have mg4_2' := pw_cell_below hB mg4_2
    have mg4_3' := pw_cell_below hB mg4_3
    have mg4_4' := pw_cell_below hB mg4_4
    have mg8_0' := pw_cell_below hB mg8_0
    have mg8_1' := pw_cell_below hB mg8_1
    have mg8_2' := pw_cell_below hB mg8_2
    have mg8_3' := pw_cell_below hB mg8_3
    have mg8_4' := pw_cell_below hB mg8_4
    simp only [Reg.SV] at hE
    obtain ⟨e30, e31, e32, e33, e34, e35, e36, e37, e38, e39, e40, e41, e42, e43, e44, e45, e46, e47, e48, e49, e50, e51, e52, e53, e54, e55, e56, e57, e58, e59, e60, _⟩ := hE
    rcases Reg.lt31 hiq with rfl | rfl | rfl | rfl | rfl | rfl | rfl | rfl | rfl | rfl | rfl | rfl | rfl | rfl | rfl | rfl | rfl | rfl | rfl | rfl | rfl | rfl | rfl | rfl | rfl | rfl | rfl | rfl | rfl | rfl | rfl
    all_goals (cases hoq; cases hpq)
    rotate_left 29
    · refine Reg.D.cc (g := 30) (args := #[.slice A14 2 c14, .slice none 0 0]) hB (by go_simp; try rfl) ?_
      exact HF0.out W (below_step HB7.out hB)
    rotate_right 29
    rotate_left 24
    · refine Reg.D.cc (g := 30) (args := #[.slice A14 2 c14, .slice (some ⟨g17, 0, none⟩) 2 2]) hB (by go_simp; try rfl) ?_
      exact HF1.out W (below_step HB7.out hB)
    rotate_right 24
    rotate_left 19
    · refine Reg.D.cc (g := 27) (args := #[.slice A14 2 c14, .agg #[.int .i64 0, .int .i64 0, .int .i64 0, .string (⟨#[]⟩ : ByteArray), .slice none 0 0]]) hB (by go_simp; try rfl) ?_
      exact HV0.out W (below_step HB7.out hB)
    rotate_right 19
    rotate_left 13
    · refine Reg.D.cc (g := 27) (args := #[.slice A14 2 c14, .agg #[.int .i64 6, .int .i64 0, .int .i64 0, .string (⟨#[44]⟩ : ByteArray), .slice (some ⟨g28, 0, none⟩) 2 2]]) hB (by go_simp; try rfl) ?_
      exact HVB.out W (below_step HB7.out hB)
    rotate_right 13
    rotate_left 7
    · refine Reg.D.cc (g := 27) (args := #[.slice A14 2 c14, .agg #[.int .i64 3, .int .i64 0, .int .i64 1, .string (⟨#[]⟩ : ByteArray), .slice none 0 0]]) hB (by go_simp; try rfl) ?_
      exact HVW.out W (below_step HB7.out hB)
    rotate_right 7
    rotate_left 2
    · refine Reg.D.cc (g := 27) (args := #[.slice A14 2 c14, .agg #[.int .i64 2, .int .i64 0, .int .i64 1, .string (⟨#[]⟩ : ByteArray), .slice none 0 0]]) hB (by go_simp; try rfl) ?_
      exact HVS.out W (below_step HB7.out hB)
    rotate_right 2
    all_goals (first | exact Reg.D.mv hB | skip)
    all_goals (refine Reg.D.cv hB ?_; go_simp; try (first | done | rfl | (simp; done) | (intro h; omega)))
  intro ρ W8 S hB hft hap hΦ
  simp only [Reg.SV, Reg.SF, Nat.reduceAdd]
  have HX := Aside0.mk (HX.out.call hB)
  replace RA := Aside0.mk (Kd.R_below RA.out hB)
  replace HB7 := Aside0.mk (below_step HB7.out hB)
  clear hΦ hft hap mg3_0 mg3_1 mg3_2 mg3_3 mg3_4 mg4_0 mg4_1 mg4_2 mg4_3 mg4_4 mg8_0 mg8_1 mg8_2 mg8_3 mg8_4
  go_upto_region 10 with (fail)
  try simp only [Reg.SF]
  have mg3_0 : _ = some (.int .i64 2 : Value) := HX.out.cell 6 0 rfl rfl
  have mg3_1 : _ = some (.int .i64 0 : Value) := HX.out.cell 6 1 rfl rfl
  have mg3_2 : _ = some (.int .i64 1 : Value) := HX.out.cell 6 2 rfl rfl
  have mg3_3 : _ = some (.string (⟨#[]⟩ : ByteArray) : Value) := HX.out.cell 6 3 rfl rfl
  have mg3_4 : _ = some (.slice none 0 0 : Value) := HX.out.cell 6 4 rfl rfl
  have mg4_0 : _ = some (.int .i64 3 : Value) := HX.out.cell 5 0 rfl rfl
  have mg4_1 : _ = some (.int .i64 0 : Value) := HX.out.cell 5 1 rfl rfl
  have mg4_2 : _ = some (.int .i64 1 : Value) := HX.out.cell 5 2 rfl rfl
  have mg4_3 : _ = some (.string (⟨#[]⟩ : ByteArray) : Value) := HX.out.cell 5 3 rfl rfl
  have mg4_4 : _ = some (.slice none 0 0 : Value) := HX.out.cell 5 4 rfl rfl
  have mg6_0 : _ = some (.int .i64 4 : Value) := HX.out.cell 3 0 rfl rfl
  have mg6_1 : _ = some (.int .i64 0 : Value) := HX.out.cell 3 1 rfl rfl
  have mg6_2 : _ = some (.int .i64 0 : Value) := HX.out.cell 3 2 rfl rfl
  have mg6_3 : _ = some (.string (⟨#[32]⟩ : ByteArray) : Value) := HX.out.cell 3 3 rfl rfl
  have mg6_4 : _ = some (.slice (some ⟨g21, 0, none⟩) 1 1 : Value) := HX.out.cell 3 4 rfl rfl
  have mg7_0 : _ = some (.int .i64 5 : Value) := HX.out.cell 2 0 rfl rfl
  have mg7_1 : _ = some (.int .i64 0 : Value) := HX.out.cell 2 1 rfl rfl
  have mg7_2 : _ = some (.int .i64 0 : Value) := HX.out.cell 2 2 rfl rfl
  have mg7_3 : _ = some (.string (⟨#[32]⟩ : ByteArray) : Value) := HX.out.cell 2 3 rfl rfl
  have mg7_4 : _ = some (.slice (some ⟨g21, 0, none⟩) 1 1 : Value) := HX.out.cell 2 4 rfl rfl
  have mg8_0 : _ = some (.int .i64 6 : Value) := HX.out.cell 0 0 rfl rfl
  have mg8_1 : _ = some (.int .i64 0 : Value) := HX.out.cell 0 1 rfl rfl
  have mg8_2 : _ = some (.int .i64 0 : Value) := HX.out.cell 0 2 rfl rfl
  have mg8_3 : _ = some (.string (⟨#[44]⟩ : ByteArray) : Value) := HX.out.cell 0 3 rfl rfl
  have mg8_4 : _ = some (.slice (some ⟨g28, 0, none⟩) 2 2 : Value) := HX.out.cell 0 4 rfl rfl
  refine Reg.det [(some 61, Reg.Dv.c (.agg #[.int .i64 2, .int .i64 0, .int .i64 1, .string (⟨#[]⟩ : ByteArray), .slice none 0 0])), (some 62, Reg.Dv.c (.slice (some ⟨g17, 0, none⟩) 2 2)), (some 63, Reg.Dv.c (.agg #[.int .i64 2, .int .i64 12300000, .string (⟨#[]⟩ : ByteArray)])), (some 64, Reg.Dv.c (.agg #[.int .i64 2, .int .i64 12300000, .string (⟨#[]⟩ : ByteArray)])), (some 65, Reg.Dv.c (.bool false)), (some 66, Reg.Dv.c (.bool false)), (some 67, Reg.Dv.c (.agg #[.int .i64 3, .int .i64 0, .int .i64 1, .string (⟨#[]⟩ : ByteArray), .slice none 0 0])), (some 68, Reg.Dv.c (.slice (some ⟨g17, 0, none⟩) 2 2)), (some 69, Reg.Dv.c (.agg #[.int .i64 3, .int .i64 0, .string (⟨#[49, 50, 46, 51]⟩ : ByteArray)])), (some 70, Reg.Dv.c (.agg #[.int .i64 3, .int .i64 0, .string (⟨#[49, 50, 46, 51]⟩ : ByteArray)])), (some 71, Reg.Dv.c (.bool false)), (some 72, Reg.Dv.c (.bool false)), (some 73, Reg.Dv.c (.bool false)), (some 74, Reg.Dv.c (.agg #[.int .i64 4, .int .i64 0, .int .i64 0, .string (⟨#[32]⟩ : ByteArray), .slice (some ⟨g21, 0, none⟩) 1 1])), (some 75, Reg.Dv.c (.slice (some ⟨g17, 0, none⟩) 2 2)), (some 76, Reg.Dv.c (.agg #[.int .i64 3, .int .i64 0, .string (⟨#[97, 110, 110]⟩ : ByteArray)])), (some 77, Reg.Dv.c (.agg #[.int .i64 3, .int .i64 0, .string (⟨#[97, 110, 110]⟩ : ByteArray)])), (some 78, Reg.Dv.c (.bool false)), (some 79, Reg.Dv.c (.bool false)), (some 80, Reg.Dv.c (.bool false)), (some 81, Reg.Dv.c (.agg #[.int .i64 5, .int .i64 0, .int .i64 0, .string (⟨#[32]⟩ : ByteArray), .slice (some ⟨g21, 0, none⟩) 1 1])), (some 82, Reg.Dv.c (.slice (some ⟨g17, 0, none⟩) 2 2)), (some 83, Reg.Dv.c (.agg #[.int .i64 3, .int .i64 0, .string (⟨#[108, 101, 101]⟩ : ByteArray)])), (some 84, Reg.Dv.c (.agg #[.int .i64 3, .int .i64 0, .string (⟨#[108, 101, 101]⟩ : ByteArray)])), (some 85, Reg.Dv.c (.bool false)), (some 86, Reg.Dv.c (.bool false)), (some 87, Reg.Dv.c (.bool false)), (some 88, Reg.Dv.c (.agg #[.int .i64 6, .int .i64 0, .int .i64 0, .string (⟨#[44]⟩ : ByteArray), .slice (some ⟨g28, 0, none⟩) 2 2])), (some 89, Reg.Dv.c (.slice (some ⟨g17, 0, none⟩) 2 2)), (some 90, Reg.Dv.c (.agg #[.int .i64 3, .int .i64 0, .string (⟨#[97, 110, 110, 44, 108, 101, 101]⟩ : ByteArray)])), (some 91, Reg.Dv.c (.agg #[.int .i64 3, .int .i64 0, .string (⟨#[97, 110, 110, 44, 108, 101, 101]⟩ : ByteArray)])), (some 92, Reg.Dv.c (.bool false)), (some 93, Reg.Dv.c (.bool false))] [] 211 rfl (by kernel_rfl) (by kernel_rfl) ?s12 ?_
  case s12 =>
    intro iq oq pq hiq hoq hpq ρ ev W S hE hO ec ef hB hft hΦ
    have e2 : ev (.tmp 2) = .slice (some ⟨g17, 0, none⟩) 2 2 := hO 2 rfl
    have e3 : ev (.tmp 3) = .pointer (some ⟨g3, 0, none⟩) := hO 3 rfl
    have e4 : ev (.tmp 4) = .pointer (some ⟨g4, 0, none⟩) := hO 4 rfl
    have e6 : ev (.tmp 6) = .pointer (some ⟨g6, 0, none⟩) := hO 6 rfl
    have e7 : ev (.tmp 7) = .pointer (some ⟨g7, 0, none⟩) := hO 7 rfl
    have e8 : ev (.tmp 8) = .pointer (some ⟨g8, 0, none⟩) := hO 8 rfl
    have mg3_0' := pw_cell_below hB mg3_0
    have mg3_1' := pw_cell_below hB mg3_1
    have mg3_2' := pw_cell_below hB mg3_2
    have mg3_3' := pw_cell_below hB mg3_3
    have mg3_4' := pw_cell_below hB mg3_4
    have mg4_0' := pw_cell_below hB mg4_0
    have mg4_1' := pw_cell_below hB mg4_1
    have mg4_2' := pw_cell_below hB mg4_2
    have mg4_3' := pw_cell_below hB mg4_3
    have mg4_4' := pw_cell_below hB mg4_4
    have mg6_0' := pw_cell_below hB mg6_0
    have mg6_1' := pw_cell_below hB mg6_1
    have mg6_2' := pw_cell_below hB mg6_2
    have mg6_3' := pw_cell_below hB mg6_3
    have mg6_4' := pw_cell_below hB mg6_4
    have mg7_0' := pw_cell_below hB mg7_0
    have mg7_1' := pw_cell_below hB mg7_1
    have mg7_2' := pw_cell_below hB mg7_2
    have mg7_3' := pw_cell_below hB mg7_3
    have mg7_4' := pw_cell_below hB mg7_4
    have mg8_0' := pw_cell_below hB mg8_0
    have mg8_1' := pw_cell_below hB mg8_1
    have mg8_2' := pw_cell_below hB mg8_2
    have mg8_3' := pw_cell_below hB mg8_3
    have mg8_4' := pw_cell_below hB mg8_4
    simp only [Reg.SV] at hE
    obtain ⟨e61, e62, e63, e64, e65, e66, e67, e68, e69, e70, e71, e72, e73, e74, e75, e76, e77, e78, e79, e80, e81, e82, e83, e84, e85, e86, e87, e88, e89, e90, e91, e92, e93, _⟩ := hE
    rcases Reg.lt33 hiq with rfl | rfl | rfl | rfl | rfl | rfl | rfl | rfl | rfl | rfl | rfl | rfl | rfl | rfl | rfl | rfl | rfl | rfl | rfl | rfl | rfl | rfl | rfl | rfl | rfl | rfl | rfl | rfl | rfl | rfl | rfl | rfl | rfl
    all_goals (cases hoq; cases hpq)
    rotate_left 30
    · refine Reg.D.cc (g := 29) (args := #[.string (⟨#[97, 110, 110, 44, 108, 101, 101]⟩ : ByteArray)]) hB (by go_simp; try rfl) ?_
      exact chapmanref16_Texted.calls (⟨#[97, 110, 110, 44, 108, 101, 101]⟩ : ByteArray) 3 0 (⟨#[97, 110, 110, 44, 108, 101, 101]⟩ : ByteArray) W rfl
    rotate_right 30
    rotate_left 29
    · refine Reg.D.cc (g := 12) (args := #[.agg #[.int .i64 6, .int .i64 0, .int .i64 0, .string (⟨#[44]⟩ : ByteArray), .slice (some ⟨g28, 0, none⟩) 2 2], .slice (some ⟨g17, 0, none⟩) 2 2]) hB (by go_simp; try rfl) ?_
      exact HSB.out W (below_step HB7.out hB)
    rotate_right 29
    rotate_left 23
    · refine Reg.D.cc (g := 29) (args := #[.string (⟨#[108, 101, 101]⟩ : ByteArray)]) hB (by go_simp; try rfl) ?_
      exact chapmanref16_Texted.calls (⟨#[108, 101, 101]⟩ : ByteArray) 3 0 (⟨#[108, 101, 101]⟩ : ByteArray) W rfl
    rotate_right 23
    rotate_left 22
    · refine Reg.D.cc (g := 12) (args := #[.agg #[.int .i64 5, .int .i64 0, .int .i64 0, .string (⟨#[32]⟩ : ByteArray), .slice (some ⟨g21, 0, none⟩) 1 1], .slice (some ⟨g17, 0, none⟩) 2 2]) hB (by go_simp; try rfl) ?_
      exact HSR.out W (below_step HB7.out hB)
    rotate_right 22
    rotate_left 16
    · refine Reg.D.cc (g := 29) (args := #[.string (⟨#[97, 110, 110]⟩ : ByteArray)]) hB (by go_simp; try rfl) ?_
      exact chapmanref16_Texted.calls (⟨#[97, 110, 110]⟩ : ByteArray) 3 0 (⟨#[97, 110, 110]⟩ : ByteArray) W rfl
    rotate_right 16
    rotate_left 15
    · refine Reg.D.cc (g := 12) (args := #[.agg #[.int .i64 4, .int .i64 0, .int .i64 0, .string (⟨#[32]⟩ : ByteArray), .slice (some ⟨g21, 0, none⟩) 1 1], .slice (some ⟨g17, 0, none⟩) 2 2]) hB (by go_simp; try rfl) ?_
      exact HSF.out W (below_step HB7.out hB)
    rotate_right 15
    rotate_left 9
    · refine Reg.D.cc (g := 29) (args := #[.string (⟨#[49, 50, 46, 51]⟩ : ByteArray)]) hB (by go_simp; try rfl) ?_
      exact chapmanref16_Texted.calls (⟨#[49, 50, 46, 51]⟩ : ByteArray) 3 0 (⟨#[49, 50, 46, 51]⟩ : ByteArray) W rfl
    rotate_right 9
    rotate_left 8
    · refine Reg.D.cc (g := 12) (args := #[.agg #[.int .i64 3, .int .i64 0, .int .i64 1, .string (⟨#[]⟩ : ByteArray), .slice none 0 0], .slice (some ⟨g17, 0, none⟩) 2 2]) hB (by go_simp; try rfl) ?_
      exact HSW.out W (below_step HB7.out hB)
    rotate_right 8
    rotate_left 2
    · refine Reg.D.cc (g := 12) (args := #[.agg #[.int .i64 2, .int .i64 0, .int .i64 1, .string (⟨#[]⟩ : ByteArray), .slice none 0 0], .slice (some ⟨g17, 0, none⟩) 2 2]) hB (by go_simp; try rfl) ?_
      exact HSS.out W (below_step HB7.out hB)
    rotate_right 2
    all_goals (first | exact Reg.D.mv hB | skip)
    all_goals (refine Reg.D.cv hB ?_; go_simp; try (first | done | rfl | (simp; done) | (intro h; omega)))
  intro ρ W10 S hB hft hap hΦ
  simp only [Reg.SV, Reg.SF, Nat.reduceAdd]
  have HX := Aside0.mk (HX.out.call hB)
  replace RA := Aside0.mk (Kd.R_below RA.out hB)
  replace HB7 := Aside0.mk (below_step HB7.out hB)
  clear hΦ hft hap mg3_0 mg3_1 mg3_2 mg3_3 mg3_4 mg4_0 mg4_1 mg4_2 mg4_3 mg4_4 mg6_0 mg6_1 mg6_2 mg6_3 mg6_4 mg7_0 mg7_1 mg7_2 mg7_3 mg7_4 mg8_0 mg8_1 mg8_2 mg8_3 mg8_4
  go_upto_region 12 with (fail)
  try simp only [Reg.SF]
  have mg3_0 : _ = some (.int .i64 2 : Value) := HX.out.cell 6 0 rfl rfl
  have mg3_1 : _ = some (.int .i64 0 : Value) := HX.out.cell 6 1 rfl rfl
  have mg3_2 : _ = some (.int .i64 1 : Value) := HX.out.cell 6 2 rfl rfl
  have mg3_3 : _ = some (.string (⟨#[]⟩ : ByteArray) : Value) := HX.out.cell 6 3 rfl rfl
  have mg3_4 : _ = some (.slice none 0 0 : Value) := HX.out.cell 6 4 rfl rfl
  refine Reg.det [(some 94, Reg.Dv.c (.slice A14 2 c14)), (some 95, Reg.Dv.c (.agg #[.int .i64 2, .int .i64 0, .int .i64 1, .string (⟨#[]⟩ : ByteArray), .slice none 0 0])), (some 96, Reg.Dv.c (.slice (some ⟨g17, 0, none⟩) 2 2)), (some 97, Reg.Dv.c (.agg #[.int .i64 2, .int .i64 12300000, .string (⟨#[]⟩ : ByteArray)])), (some 98, Reg.Dv.c (.agg #[.slice (some ⟨g17, 0, none⟩) 2 2, .int .i64 2, .int .i64 12300000, .string (⟨#[]⟩ : ByteArray)])), (some 99, gotDv 99 (some ⟨g17, 0, none⟩) 2 exC la), (some 9, Reg.Dv.box 9 36 (fun _ => #[.slice none 0 0, .int .i64 0]) [] true), (none, Reg.Dv.box 9 36 (fun l => (l.headD undef).cells) [99] false)] [(6, 7)] 211 rfl (by kernel_rfl) (by kernel_rfl) ?s13 ?_
  case s13 =>
    intro iq oq pq hiq hoq hpq ρ ev W S hE hO ec ef hB hft hΦ
    have e1 : ev (.tmp 1) = .slice A14 2 c14 := hO 1 rfl
    have e2 : ev (.tmp 2) = .slice (some ⟨g17, 0, none⟩) 2 2 := hO 2 rfl
    have e3 : ev (.tmp 3) = .pointer (some ⟨g3, 0, none⟩) := hO 3 rfl
    have mg3_0' := pw_cell_below hB mg3_0
    have mg3_1' := pw_cell_below hB mg3_1
    have mg3_2' := pw_cell_below hB mg3_2
    have mg3_3' := pw_cell_below hB mg3_3
    have mg3_4' := pw_cell_below hB mg3_4
    simp only [Reg.SV, val_got] at hE
    obtain ⟨e94, e95, e96, e97, e98, e99, e9, _⟩ := hE
    rcases Reg.lt8 hiq with rfl | rfl | rfl | rfl | rfl | rfl | rfl | rfl
    all_goals (cases hoq; cases hpq)
    rotate_left 7
    · obtain ⟨A99, c99, h99, _⟩ := hΦ 5 _ rfl rfl rfl
      replace h99 : ρ 99 = .agg #[.slice A99 2 c99, .int .i64 0] := h99
      exact Reg.DStep.fill (us := [99]) (cs := fun l => (l.headD undef).cells) 6 (by decide) 36 (.tmp 9) (.tmp 99) rfl (by first | exact .inl rfl | exact .inr ⟨_, _, _, rfl, rfl, (by assumption)⟩) hB e9 (by rw [e99]; show ρ 99 = .agg (Value.cells (ρ 99)); rw [h99]; rfl) (hΦ 6 _ rfl rfl rfl) (by show _ = some (Value.cells (ρ 99)).size; rw [h99]; exact info36s) (by show _ = (Value.cells (ρ 99)).size; rw [h99]; rfl) (by show ((Value.cells (ρ 99)).toList.all _) = true; rw [h99]; rfl)
    rotate_right 7
    rotate_left 6
    · refine Reg.D.box hB ?_
      go_simp
      try rfl
    rotate_right 6
    rotate_left 5
    · refine Reg.D.call (g := 11) (args := #[.slice A14 2 c14, .agg #[.int .i64 2, .int .i64 0, .int .i64 1, .string (⟨#[]⟩ : ByteArray), .slice none 0 0], .agg #[.slice (some ⟨g17, 0, none⟩) 2 2, .int .i64 2, .int .i64 12300000, .string (⟨#[]⟩ : ByteArray)]]) (by go_simp; try rfl) ?_
      exact got_step hB (HPa.out W (below_step HB7.out hB))
    rotate_right 5
    all_goals (first | exact Reg.D.mv hB | skip)
    all_goals (refine Reg.D.cv hB ?_; go_simp; try (first | done | rfl | (simp; done) | (intro h; omega)))
  intro ρ W12 S hB hft hap hΦ
  simp only [Reg.SV, val_got, Reg.SF, Nat.reduceAdd]
  obtain ⟨A99, c99, e99, q99⟩ := hΦ 5 _ rfl rfl
  replace e99 : ρ 99 = .agg #[.slice A99 2 c99, .int .i64 0] := e99
  have hr99 : Row2 (some ⟨g17, 0, none⟩) 2 exC W12 w.heap.size A99 c99 la := q99.imp id (fun h => Kd.R_mono (Kd.R_lower h HX.out.below.size) (fun _ _ => trivial))
  obtain ⟨g9, e9, s9, hg9, _, b9⟩ := hΦ 7 _ rfl rfl
  replace e9 : ρ 9 = .pointer (some ⟨g9, 0, none⟩) := e9
  replace b9 : W12.heap[g9]? = some (.cells (Value.cells (ρ 99)) 36 (0, 0)) := b9
  rw [e99] at b9
  try simp only [e99, e9]
  replace b9 : W12.heap[g9]? = some (.cells #[.slice A99 2 c99, .int .i64 0] 36 (0, 0)) := b9
  have HX := Aside0.mk (HX.out.join (Bxs.one hB hg9 b9))
  replace RA := Aside0.mk (Kd.R_below RA.out hB)
  replace HB7 := Aside0.mk (below_step HB7.out hB)
  clear hΦ hft hap mg3_0 mg3_1 mg3_2 mg3_3 mg3_4
  have HRa := Aside0.mk (hr99)
  go_upto_region 13 with (fail)
  try simp only [Reg.SF]
  have mg3_0 : _ = some (.int .i64 2 : Value) := HX.out.cell 7 0 rfl rfl
  have mg3_1 : _ = some (.int .i64 0 : Value) := HX.out.cell 7 1 rfl rfl
  have mg3_2 : _ = some (.int .i64 1 : Value) := HX.out.cell 7 2 rfl rfl
  have mg3_3 : _ = some (.string (⟨#[]⟩ : ByteArray) : Value) := HX.out.cell 7 3 rfl rfl
  have mg3_4 : _ = some (.slice none 0 0 : Value) := HX.out.cell 7 4 rfl rfl
  refine Reg.det [(some 100, Reg.Dv.c (.slice A14 2 c14)), (some 101, Reg.Dv.c (.agg #[.int .i64 2, .int .i64 0, .int .i64 1, .string (⟨#[]⟩ : ByteArray), .slice none 0 0])), (some 102, Reg.Dv.c (.slice (some ⟨g17, 0, none⟩) 2 2)), (some 103, Reg.Dv.c (.agg #[.int .i64 2, .int .i64 12400000, .string (⟨#[]⟩ : ByteArray)])), (some 104, Reg.Dv.c (.agg #[.slice (some ⟨g17, 0, none⟩) 2 2, .int .i64 2, .int .i64 12400000, .string (⟨#[]⟩ : ByteArray)])), (some 105, gotDv 105 (some ⟨g17, 0, none⟩) 2 exC lb), (some 10, Reg.Dv.box 10 36 (fun _ => #[.slice none 0 0, .int .i64 0]) [] true), (none, Reg.Dv.box 10 36 (fun l => (l.headD undef).cells) [105] false)] [(6, 7)] 211 rfl (by kernel_rfl) (by kernel_rfl) ?s14 ?_
  case s14 =>
    intro iq oq pq hiq hoq hpq ρ ev W S hE hO ec ef hB hft hΦ
    have e1 : ev (.tmp 1) = .slice A14 2 c14 := hO 1 rfl
    have e2 : ev (.tmp 2) = .slice (some ⟨g17, 0, none⟩) 2 2 := hO 2 rfl
    have e3 : ev (.tmp 3) = .pointer (some ⟨g3, 0, none⟩) := hO 3 rfl
    have mg3_0' := pw_cell_below hB mg3_0
    have mg3_1' := pw_cell_below hB mg3_1
    have mg3_2' := pw_cell_below hB mg3_2
    have mg3_3' := pw_cell_below hB mg3_3
    have mg3_4' := pw_cell_below hB mg3_4
    simp only [Reg.SV, val_got] at hE
    obtain ⟨e100, e101, e102, e103, e104, e105, e10, _⟩ := hE
    rcases Reg.lt8 hiq with rfl | rfl | rfl | rfl | rfl | rfl | rfl | rfl
    all_goals (cases hoq; cases hpq)
    rotate_left 7
    · obtain ⟨A105, c105, h105, _⟩ := hΦ 5 _ rfl rfl rfl
      replace h105 : ρ 105 = .agg #[.slice A105 2 c105, .int .i64 0] := h105
      exact Reg.DStep.fill (us := [105]) (cs := fun l => (l.headD undef).cells) 6 (by decide) 36 (.tmp 10) (.tmp 105) rfl (by first | exact .inl rfl | exact .inr ⟨_, _, _, rfl, rfl, (by assumption)⟩) hB e10 (by rw [e105]; show ρ 105 = .agg (Value.cells (ρ 105)); rw [h105]; rfl) (hΦ 6 _ rfl rfl rfl) (by show _ = some (Value.cells (ρ 105)).size; rw [h105]; exact info36s) (by show _ = (Value.cells (ρ 105)).size; rw [h105]; rfl) (by show ((Value.cells (ρ 105)).toList.all _) = true; rw [h105]; rfl)
    rotate_right 7
    rotate_left 6
    · refine Reg.D.box hB ?_
      go_simp
      try rfl
    rotate_right 6
    rotate_left 5
    · refine Reg.D.call (g := 11) (args := #[.slice A14 2 c14, .agg #[.int .i64 2, .int .i64 0, .int .i64 1, .string (⟨#[]⟩ : ByteArray), .slice none 0 0], .agg #[.slice (some ⟨g17, 0, none⟩) 2 2, .int .i64 2, .int .i64 12400000, .string (⟨#[]⟩ : ByteArray)]]) (by go_simp; try rfl) ?_
      exact got_step hB (HPb.out W (below_step HB7.out hB))
    rotate_right 5
    all_goals (first | exact Reg.D.mv hB | skip)
    all_goals (refine Reg.D.cv hB ?_; go_simp; try (first | done | rfl | (simp; done) | (intro h; omega)))
  intro ρ W13 S hB hft hap hΦ
  simp only [Reg.SV, val_got, Reg.SF, Nat.reduceAdd]
  obtain ⟨A105, c105, e105, q105⟩ := hΦ 5 _ rfl rfl
  replace e105 : ρ 105 = .agg #[.slice A105 2 c105, .int .i64 0] := e105
  have hr105 : Row2 (some ⟨g17, 0, none⟩) 2 exC W13 w.heap.size A105 c105 lb := q105.imp id (fun h => Kd.R_mono (Kd.R_lower h HX.out.below.size) (fun _ _ => trivial))
  obtain ⟨g10, e10, s10, hg10, _, b10⟩ := hΦ 7 _ rfl rfl
  replace e10 : ρ 10 = .pointer (some ⟨g10, 0, none⟩) := e10
  replace b10 : W13.heap[g10]? = some (.cells (Value.cells (ρ 105)) 36 (0, 0)) := b10
  rw [e105] at b10
  try simp only [e105, e10]
  replace b10 : W13.heap[g10]? = some (.cells #[.slice A105 2 c105, .int .i64 0] 36 (0, 0)) := b10
  have HX := Aside0.mk (HX.out.join (Bxs.one hB hg10 b10))
  replace RA := Aside0.mk (Kd.R_below RA.out hB)
  replace HB7 := Aside0.mk (below_step HB7.out hB)
  replace HRa := Aside0.mk (Row2.below HRa.out hB)
  clear hΦ hft hap mg3_0 mg3_1 mg3_2 mg3_3 mg3_4
  have HRb := Aside0.mk (hr105)
  go_upto_region 14 with (fail)
  try simp only [Reg.SF]
  have mg6_0 : _ = some (.int .i64 4 : Value) := HX.out.cell 5 0 rfl rfl
  have mg6_1 : _ = some (.int .i64 0 : Value) := HX.out.cell 5 1 rfl rfl
  have mg6_2 : _ = some (.int .i64 0 : Value) := HX.out.cell 5 2 rfl rfl
  have mg6_3 : _ = some (.string (⟨#[32]⟩ : ByteArray) : Value) := HX.out.cell 5 3 rfl rfl
  have mg6_4 : _ = some (.slice (some ⟨g21, 0, none⟩) 1 1 : Value) := HX.out.cell 5 4 rfl rfl
  refine Reg.det [(some 106, Reg.Dv.c (.slice A14 2 c14)), (some 107, Reg.Dv.c (.agg #[.int .i64 4, .int .i64 0, .int .i64 0, .string (⟨#[32]⟩ : ByteArray), .slice (some ⟨g21, 0, none⟩) 1 1])), (some 108, Reg.Dv.c (.slice (some ⟨g17, 0, none⟩) 2 2)), (some 109, Reg.Dv.c (.agg #[.int .i64 3, .int .i64 0, .string (⟨#[98, 111, 98]⟩ : ByteArray)])), (some 110, Reg.Dv.c (.agg #[.slice (some ⟨g17, 0, none⟩) 2 2, .int .i64 3, .int .i64 0, .string (⟨#[98, 111, 98]⟩ : ByteArray)])), (some 111, gotDv 111 (some ⟨g17, 0, none⟩) 2 exC lc), (some 11, Reg.Dv.box 11 36 (fun _ => #[.slice none 0 0, .int .i64 0]) [] true), (none, Reg.Dv.box 11 36 (fun l => (l.headD undef).cells) [111] false)] [(6, 7)] 211 rfl (by kernel_rfl) (by kernel_rfl) ?s15 ?_
  case s15 =>
    intro iq oq pq hiq hoq hpq ρ ev W S hE hO ec ef hB hft hΦ
    have e1 : ev (.tmp 1) = .slice A14 2 c14 := hO 1 rfl
    have e2 : ev (.tmp 2) = .slice (some ⟨g17, 0, none⟩) 2 2 := hO 2 rfl
    have e6 : ev (.tmp 6) = .pointer (some ⟨g6, 0, none⟩) := hO 6 rfl
    have mg6_0' := pw_cell_below hB mg6_0
    have mg6_1' := pw_cell_below hB mg6_1
    have mg6_2' := pw_cell_below hB mg6_2
    have mg6_3' := pw_cell_below hB mg6_3
    have mg6_4' := pw_cell_below hB mg6_4
    simp only [Reg.SV, val_got] at hE
    obtain ⟨e106, e107, e108, e109, e110, e111, e11, _⟩ := hE
    rcases Reg.lt8 hiq with rfl | rfl | rfl | rfl | rfl | rfl | rfl | rfl
    all_goals (cases hoq; cases hpq)
    rotate_left 7
    · obtain ⟨A111, c111, h111, _⟩ := hΦ 5 _ rfl rfl rfl
      replace h111 : ρ 111 = .agg #[.slice A111 2 c111, .int .i64 0] := h111
      exact Reg.DStep.fill (us := [111]) (cs := fun l => (l.headD undef).cells) 6 (by decide) 36 (.tmp 11) (.tmp 111) rfl (by first | exact .inl rfl | exact .inr ⟨_, _, _, rfl, rfl, (by assumption)⟩) hB e11 (by rw [e111]; show ρ 111 = .agg (Value.cells (ρ 111)); rw [h111]; rfl) (hΦ 6 _ rfl rfl rfl) (by show _ = some (Value.cells (ρ 111)).size; rw [h111]; exact info36s) (by show _ = (Value.cells (ρ 111)).size; rw [h111]; rfl) (by show ((Value.cells (ρ 111)).toList.all _) = true; rw [h111]; rfl)
    rotate_right 7
    rotate_left 6
    · refine Reg.D.box hB ?_
      go_simp
      try rfl
    rotate_right 6
    rotate_left 5
    · refine Reg.D.call (g := 11) (args := #[.slice A14 2 c14, .agg #[.int .i64 4, .int .i64 0, .int .i64 0, .string (⟨#[32]⟩ : ByteArray), .slice (some ⟨g21, 0, none⟩) 1 1], .agg #[.slice (some ⟨g17, 0, none⟩) 2 2, .int .i64 3, .int .i64 0, .string (⟨#[98, 111, 98]⟩ : ByteArray)]]) (by go_simp; try rfl) ?_
      exact got_step hB (HPc.out W (below_step HB7.out hB))
    rotate_right 5
    rotate_left 3
    · refine Reg.D.cc (g := 29) (args := #[.string (⟨#[98, 111, 98]⟩ : ByteArray)]) hB (by go_simp; try rfl) ?_
      exact chapmanref16_Texted.calls (⟨#[98, 111, 98]⟩ : ByteArray) 3 0 (⟨#[98, 111, 98]⟩ : ByteArray) W rfl
    rotate_right 3
    all_goals (first | exact Reg.D.mv hB | skip)
    all_goals (refine Reg.D.cv hB ?_; go_simp; try (first | done | rfl | (simp; done) | (intro h; omega)))
  intro ρ W14 S hB hft hap hΦ
  simp only [Reg.SV, val_got, Reg.SF, Nat.reduceAdd]
  obtain ⟨A111, c111, e111, q111⟩ := hΦ 5 _ rfl rfl
  replace e111 : ρ 111 = .agg #[.slice A111 2 c111, .int .i64 0] := e111
  have hr111 : Row2 (some ⟨g17, 0, none⟩) 2 exC W14 w.heap.size A111 c111 lc := q111.imp id (fun h => Kd.R_mono (Kd.R_lower h HX.out.below.size) (fun _ _ => trivial))
  obtain ⟨g11, e11, s11, hg11, _, b11⟩ := hΦ 7 _ rfl rfl
  replace e11 : ρ 11 = .pointer (some ⟨g11, 0, none⟩) := e11
  replace b11 : W14.heap[g11]? = some (.cells (Value.cells (ρ 111)) 36 (0, 0)) := b11
  rw [e111] at b11
  try simp only [e111, e11]
  replace b11 : W14.heap[g11]? = some (.cells #[.slice A111 2 c111, .int .i64 0] 36 (0, 0)) := b11
  have HX := Aside0.mk (HX.out.join (Bxs.one hB hg11 b11))
  replace RA := Aside0.mk (Kd.R_below RA.out hB)
  replace HB7 := Aside0.mk (below_step HB7.out hB)
  replace HRa := Aside0.mk (Row2.below HRa.out hB)
  replace HRb := Aside0.mk (Row2.below HRb.out hB)
  clear hΦ hft hap mg6_0 mg6_1 mg6_2 mg6_3 mg6_4
  have HRc := Aside0.mk (hr111)
  go_upto_region 15 with (fail)
  try simp only [Reg.SF]
  have mg7_0 : _ = some (.int .i64 5 : Value) := HX.out.cell 5 0 rfl rfl
  have mg7_1 : _ = some (.int .i64 0 : Value) := HX.out.cell 5 1 rfl rfl
  have mg7_2 : _ = some (.int .i64 0 : Value) := HX.out.cell 5 2 rfl rfl
  have mg7_3 : _ = some (.string (⟨#[32]⟩ : ByteArray) : Value) := HX.out.cell 5 3 rfl rfl
  have mg7_4 : _ = some (.slice (some ⟨g21, 0, none⟩) 1 1 : Value) := HX.out.cell 5 4 rfl rfl
  refine Reg.det [(some 112, Reg.Dv.c (.slice A14 2 c14)), (some 113, Reg.Dv.c (.agg #[.int .i64 5, .int .i64 0, .int .i64 0, .string (⟨#[32]⟩ : ByteArray), .slice (some ⟨g21, 0, none⟩) 1 1])), (some 114, Reg.Dv.c (.slice (some ⟨g17, 0, none⟩) 2 2)), (some 115, Reg.Dv.c (.agg #[.slice (some ⟨g17, 0, none⟩) 2 2, .int .i64 0, .int .i64 0, .string (⟨#[]⟩ : ByteArray)])), (some 116, gotDv 116 (some ⟨g17, 0, none⟩) 2 exC ld), (some 12, Reg.Dv.box 12 36 (fun _ => #[.slice none 0 0, .int .i64 0]) [] true), (none, Reg.Dv.box 12 36 (fun l => (l.headD undef).cells) [116] false)] [(5, 6)] 211 rfl (by kernel_rfl) (by kernel_rfl) ?s16 ?_
  case s16 =>
    intro iq oq pq hiq hoq hpq ρ ev W S hE hO ec ef hB hft hΦ
    have e1 : ev (.tmp 1) = .slice A14 2 c14 := hO 1 rfl
    have e2 : ev (.tmp 2) = .slice (some ⟨g17, 0, none⟩) 2 2 := hO 2 rfl
    have e7 : ev (.tmp 7) = .pointer (some ⟨g7, 0, none⟩) := hO 7 rfl
    have mg7_0' := pw_cell_below hB mg7_0
    have mg7_1' := pw_cell_below hB mg7_1
    have mg7_2' := pw_cell_below hB mg7_2
    have mg7_3' := pw_cell_below hB mg7_3
    have mg7_4' := pw_cell_below hB mg7_4
    simp only [Reg.SV, val_got] at hE
    obtain ⟨e112, e113, e114, e115, e116, e12, _⟩ := hE
    rcases Reg.lt7 hiq with rfl | rfl | rfl | rfl | rfl | rfl | rfl
    all_goals (cases hoq; cases hpq)
    rotate_left 6
    · obtain ⟨A116, c116, h116, _⟩ := hΦ 4 _ rfl rfl rfl
      replace h116 : ρ 116 = .agg #[.slice A116 2 c116, .int .i64 0] := h116
      exact Reg.DStep.fill (us := [116]) (cs := fun l => (l.headD undef).cells) 5 (by decide) 36 (.tmp 12) (.tmp 116) rfl (by first | exact .inl rfl | exact .inr ⟨_, _, _, rfl, rfl, (by assumption)⟩) hB e12 (by rw [e116]; show ρ 116 = .agg (Value.cells (ρ 116)); rw [h116]; rfl) (hΦ 5 _ rfl rfl rfl) (by show _ = some (Value.cells (ρ 116)).size; rw [h116]; exact info36s) (by show _ = (Value.cells (ρ 116)).size; rw [h116]; rfl) (by show ((Value.cells (ρ 116)).toList.all _) = true; rw [h116]; rfl)
    rotate_right 6
    rotate_left 5
    · refine Reg.D.box hB ?_
      go_simp
      try rfl
    rotate_right 5
    rotate_left 4
    · refine Reg.D.call (g := 11) (args := #[.slice A14 2 c14, .agg #[.int .i64 5, .int .i64 0, .int .i64 0, .string (⟨#[32]⟩ : ByteArray), .slice (some ⟨g21, 0, none⟩) 1 1], .agg #[.slice (some ⟨g17, 0, none⟩) 2 2, .int .i64 0, .int .i64 0, .string (⟨#[]⟩ : ByteArray)]]) (by go_simp; try rfl) ?_
      exact got_step hB (HPd.out W (below_step HB7.out hB))
    rotate_right 4
    all_goals (first | exact Reg.D.mv hB | skip)
    all_goals (refine Reg.D.cv hB ?_; go_simp; try (first | done | rfl | (simp; done) | (intro h; omega)))
  intro ρ W15 S hB hft hap hΦ
  simp only [Reg.SV, val_got, Reg.SF, Nat.reduceAdd]
  obtain ⟨A116, c116, e116, q116⟩ := hΦ 4 _ rfl rfl
  replace e116 : ρ 116 = .agg #[.slice A116 2 c116, .int .i64 0] := e116
  have hr116 : Row2 (some ⟨g17, 0, none⟩) 2 exC W15 w.heap.size A116 c116 ld := q116.imp id (fun h => Kd.R_mono (Kd.R_lower h HX.out.below.size) (fun _ _ => trivial))
  obtain ⟨g12, e12, s12, hg12, _, b12⟩ := hΦ 6 _ rfl rfl
  replace e12 : ρ 12 = .pointer (some ⟨g12, 0, none⟩) := e12
  replace b12 : W15.heap[g12]? = some (.cells (Value.cells (ρ 116)) 36 (0, 0)) := b12
  rw [e116] at b12
  try simp only [e116, e12]
  replace b12 : W15.heap[g12]? = some (.cells #[.slice A116 2 c116, .int .i64 0] 36 (0, 0)) := b12
  have HX := Aside0.mk (HX.out.join (Bxs.one hB hg12 b12))
  replace RA := Aside0.mk (Kd.R_below RA.out hB)
  replace HB7 := Aside0.mk (below_step HB7.out hB)
  replace HRa := Aside0.mk (Row2.below HRa.out hB)
  replace HRb := Aside0.mk (Row2.below HRb.out hB)
  replace HRc := Aside0.mk (Row2.below HRc.out hB)
  clear hΦ hft hap mg7_0 mg7_1 mg7_2 mg7_3 mg7_4
  have HRd := Aside0.mk (hr116)
  go_upto_region 16 with (fail)
  try simp only [Reg.SF]
  have mg8_0 : _ = some (.int .i64 6 : Value) := HX.out.cell 4 0 rfl rfl
  have mg8_1 : _ = some (.int .i64 0 : Value) := HX.out.cell 4 1 rfl rfl
  have mg8_2 : _ = some (.int .i64 0 : Value) := HX.out.cell 4 2 rfl rfl
  have mg8_3 : _ = some (.string (⟨#[44]⟩ : ByteArray) : Value) := HX.out.cell 4 3 rfl rfl
  have mg8_4 : _ = some (.slice (some ⟨g28, 0, none⟩) 2 2 : Value) := HX.out.cell 4 4 rfl rfl
  refine Reg.det [(some 117, Reg.Dv.c (.slice A14 2 c14)), (some 118, Reg.Dv.c (.agg #[.int .i64 6, .int .i64 0, .int .i64 0, .string (⟨#[44]⟩ : ByteArray), .slice (some ⟨g28, 0, none⟩) 2 2])), (some 119, Reg.Dv.c (.slice (some ⟨g17, 0, none⟩) 2 2)), (some 120, Reg.Dv.c (.agg #[.int .i64 3, .int .i64 0, .string (⟨#[98, 111, 98]⟩ : ByteArray)])), (some 121, Reg.Dv.c (.agg #[.slice (some ⟨g17, 0, none⟩) 2 2, .int .i64 3, .int .i64 0, .string (⟨#[98, 111, 98]⟩ : ByteArray)])), (some 122, gotDv 122 (some ⟨g17, 0, none⟩) 2 exC le), (some 13, Reg.Dv.box 13 36 (fun _ => #[.slice none 0 0, .int .i64 0]) [] true), (none, Reg.Dv.box 13 36 (fun l => (l.headD undef).cells) [122] false)] [(6, 7)] 211 rfl (by kernel_rfl) (by kernel_rfl) ?s17 ?_
  case s17 =>
    intro iq oq pq hiq hoq hpq ρ ev W S hE hO ec ef hB hft hΦ
    have e1 : ev (.tmp 1) = .slice A14 2 c14 := hO 1 rfl
    have e2 : ev (.tmp 2) = .slice (some ⟨g17, 0, none⟩) 2 2 := hO 2 rfl
    have e8 : ev (.tmp 8) = .pointer (some ⟨g8, 0, none⟩) := hO 8 rfl
    have mg8_0' := pw_cell_below hB mg8_0
    have mg8_1' := pw_cell_below hB mg8_1
    have mg8_2' := pw_cell_below hB mg8_2
    have mg8_3' := pw_cell_below hB mg8_3
    have mg8_4' := pw_cell_below hB mg8_4
    simp only [Reg.SV, val_got] at hE
    obtain ⟨e117, e118, e119, e120, e121, e122, e13, _⟩ := hE
    rcases Reg.lt8 hiq with rfl | rfl | rfl | rfl | rfl | rfl | rfl | rfl
    all_goals (cases hoq; cases hpq)
    rotate_left 7
    · obtain ⟨A122, c122, h122, _⟩ := hΦ 5 _ rfl rfl rfl
      replace h122 : ρ 122 = .agg #[.slice A122 2 c122, .int .i64 0] := h122
      exact Reg.DStep.fill (us := [122]) (cs := fun l => (l.headD undef).cells) 6 (by decide) 36 (.tmp 13) (.tmp 122) rfl (by first | exact .inl rfl | exact .inr ⟨_, _, _, rfl, rfl, (by assumption)⟩) hB e13 (by rw [e122]; show ρ 122 = .agg (Value.cells (ρ 122)); rw [h122]; rfl) (hΦ 6 _ rfl rfl rfl) (by show _ = some (Value.cells (ρ 122)).size; rw [h122]; exact info36s) (by show _ = (Value.cells (ρ 122)).size; rw [h122]; rfl) (by show ((Value.cells (ρ 122)).toList.all _) = true; rw [h122]; rfl)
    rotate_right 7
    rotate_left 6
    · refine Reg.D.box hB ?_
      go_simp
      try rfl
    rotate_right 6
    rotate_left 5
    · refine Reg.D.call (g := 11) (args := #[.slice A14 2 c14, .agg #[.int .i64 6, .int .i64 0, .int .i64 0, .string (⟨#[44]⟩ : ByteArray), .slice (some ⟨g28, 0, none⟩) 2 2], .agg #[.slice (some ⟨g17, 0, none⟩) 2 2, .int .i64 3, .int .i64 0, .string (⟨#[98, 111, 98]⟩ : ByteArray)]]) (by go_simp; try rfl) ?_
      exact got_step hB (HPe.out W (below_step HB7.out hB))
    rotate_right 5
    rotate_left 3
    · refine Reg.D.cc (g := 29) (args := #[.string (⟨#[98, 111, 98]⟩ : ByteArray)]) hB (by go_simp; try rfl) ?_
      exact chapmanref16_Texted.calls (⟨#[98, 111, 98]⟩ : ByteArray) 3 0 (⟨#[98, 111, 98]⟩ : ByteArray) W rfl
    rotate_right 3
    all_goals (first | exact Reg.D.mv hB | skip)
    all_goals (refine Reg.D.cv hB ?_; go_simp; try (first | done | rfl | (simp; done) | (intro h; omega)))
  intro ρ W16 S hB hft hap hΦ
  simp only [Reg.SV, val_got, Reg.SF, Nat.reduceAdd]
  obtain ⟨A122, c122, e122, q122⟩ := hΦ 5 _ rfl rfl
  replace e122 : ρ 122 = .agg #[.slice A122 2 c122, .int .i64 0] := e122
  have hr122 : Row2 (some ⟨g17, 0, none⟩) 2 exC W16 w.heap.size A122 c122 le := q122.imp id (fun h => Kd.R_mono (Kd.R_lower h HX.out.below.size) (fun _ _ => trivial))
  obtain ⟨g13, e13, s13, hg13, _, b13⟩ := hΦ 7 _ rfl rfl
  replace e13 : ρ 13 = .pointer (some ⟨g13, 0, none⟩) := e13
  replace b13 : W16.heap[g13]? = some (.cells (Value.cells (ρ 122)) 36 (0, 0)) := b13
  rw [e122] at b13
  try simp only [e122, e13]
  replace b13 : W16.heap[g13]? = some (.cells #[.slice A122 2 c122, .int .i64 0] 36 (0, 0)) := b13
  have HX := Aside0.mk (HX.out.join (Bxs.one hB hg13 b13))
  replace RA := Aside0.mk (Kd.R_below RA.out hB)
  replace HB7 := Aside0.mk (below_step HB7.out hB)
  replace HRa := Aside0.mk (Row2.below HRa.out hB)
  replace HRb := Aside0.mk (Row2.below HRb.out hB)
  replace HRc := Aside0.mk (Row2.below HRc.out hB)
  replace HRd := Aside0.mk (Row2.below HRd.out hB)
  clear hΦ hft hap mg8_0 mg8_1 mg8_2 mg8_3 mg8_4
  have HRe := Aside0.mk (hr122)
  go_upto_region 17 with (fail)
  try simp only [Reg.SF]
  have mg10_0 : _ = some (.slice A105 2 c105 : Value) := HX.out.cell 3 0 rfl rfl
  have mg11_0 : _ = some (.slice A111 2 c111 : Value) := HX.out.cell 2 0 rfl rfl
  have mg12_0 : _ = some (.slice A116 2 c116 : Value) := HX.out.cell 1 0 rfl rfl
  have mg13_0 : _ = some (.slice A122 2 c122 : Value) := HX.out.cell 0 0 rfl rfl
  refine Reg.det [(some 123, Reg.Dv.c (.pointer (some ⟨g10, 0, none⟩))), (some 124, Reg.Dv.c (.slice A105 2 c105)), (some 125, Reg.Dv.c (.int .i64 2)), (some 126, Reg.Dv.c (.bool false)), (some 127, Reg.Dv.c (.bool false)), (some 128, Reg.Dv.c (.pointer (some ⟨g11, 0, none⟩))), (some 129, Reg.Dv.c (.slice A111 2 c111)), (some 130, Reg.Dv.c (.int .i64 2)), (some 131, Reg.Dv.c (.bool false)), (some 132, Reg.Dv.c (.bool false)), (some 133, Reg.Dv.c (.bool false)), (some 134, Reg.Dv.c (.pointer (some ⟨g12, 0, none⟩))), (some 135, Reg.Dv.c (.slice A116 2 c116)), (some 136, Reg.Dv.c (.int .i64 2)), (some 137, Reg.Dv.c (.bool false)), (some 138, Reg.Dv.c (.bool false)), (some 139, Reg.Dv.c (.bool false)), (some 140, Reg.Dv.c (.pointer (some ⟨g13, 0, none⟩))), (some 141, Reg.Dv.c (.slice A122 2 c122)), (some 142, Reg.Dv.c (.int .i64 2)), (some 143, Reg.Dv.c (.bool false)), (some 144, Reg.Dv.c (.bool false))] [] 211 rfl (by kernel_rfl) (by kernel_rfl) ?s18 ?_
  case s18 =>
    intro iq oq pq hiq hoq hpq ρ ev W S hE hO ec ef hB hft hΦ
    have e10 : ev (.tmp 10) = .pointer (some ⟨g10, 0, none⟩) := hO 10 rfl
    have e11 : ev (.tmp 11) = .pointer (some ⟨g11, 0, none⟩) := hO 11 rfl
    have e12 : ev (.tmp 12) = .pointer (some ⟨g12, 0, none⟩) := hO 12 rfl
    have e13 : ev (.tmp 13) = .pointer (some ⟨g13, 0, none⟩) := hO 13 rfl
    have mg10_0' := pw_cell_below hB mg10_0
    have mg11_0' := pw_cell_below hB mg11_0
    have mg12_0' := pw_cell_below hB mg12_0
    have mg13_0' := pw_cell_below hB mg13_0
    simp only [Reg.SV, val_got] at hE
    obtain ⟨e123, e124, e125, e126, e127, e128, e129, e130, e131, e132, e133, e134, e135, e136, e137, e138, e139, e140, e141, e142, e143, e144, _⟩ := hE
    rcases Reg.lt22 hiq with rfl | rfl | rfl | rfl | rfl | rfl | rfl | rfl | rfl | rfl | rfl | rfl | rfl | rfl | rfl | rfl | rfl | rfl | rfl | rfl | rfl | rfl
    all_goals (cases hoq; cases hpq)
    all_goals (first | exact Reg.D.mv hB | skip)
    all_goals (refine Reg.D.cv hB ?_; go_simp; try (first | done | rfl | (simp; done) | (intro h; omega)))
  intro ρ W17 S hB hft hap hΦ
  simp only [Reg.SV, val_got, Reg.SF, Nat.reduceAdd]
  have HX := Aside0.mk (HX.out.call hB)
  replace RA := Aside0.mk (Kd.R_below RA.out hB)
  replace HB7 := Aside0.mk (below_step HB7.out hB)
  replace HRa := Aside0.mk (Row2.below HRa.out hB)
  replace HRb := Aside0.mk (Row2.below HRb.out hB)
  replace HRc := Aside0.mk (Row2.below HRc.out hB)
  replace HRd := Aside0.mk (Row2.below HRd.out hB)
  replace HRe := Aside0.mk (Row2.below HRe.out hB)
  clear hΦ hft hap mg10_0 mg11_0 mg12_0 mg13_0
  have hc1 : Kd.C k39 W17 (some ⟨g17, 0, none⟩) 2 exC := Kd.C_below HC1'.out HB7.out
  have ha := HRa.out.has (Nat.le_refl 2) hc1
  obtain ⟨adb, eab, xb0, xb1, xb2⟩ := at_T39 (HRb.out.has (Nat.le_refl 2) hc1).2 0 (by decide) (by decide)
  cases eab
  obtain ⟨qb, hqb⟩ : ∃ q, adb.add (0 * 3) = q := ⟨_, rfl⟩
  replace xb0 : W17.cell? qb = some (.int .i64 2) := by rw [← hqb]; exact xb0
  replace xb1 : W17.cell? ⟨qb.block, qb.off + 1, none⟩ = some (.int .i64 12400000) := by rw [← hqb]; exact xb1
  replace xb2 : W17.cell? ⟨qb.block, qb.off + 2, none⟩ = some (.string (⟨#[]⟩ : ByteArray)) := by rw [← hqb]; exact xb2
  obtain ⟨adc, eac, xc0, xc1, xc2⟩ := at_T39 (HRc.out.has (Nat.le_refl 2) hc1).2 1 (by decide) (by decide)
  cases eac
  obtain ⟨qc, hqc⟩ : ∃ q, adc.add (1 * 3) = q := ⟨_, rfl⟩
  replace xc0 : W17.cell? qc = some (.int .i64 3) := by rw [← hqc]; exact xc0
  replace xc1 : W17.cell? ⟨qc.block, qc.off + 1, none⟩ = some (.int .i64 0) := by rw [← hqc]; exact xc1
  replace xc2 : W17.cell? ⟨qc.block, qc.off + 2, none⟩ = some (.string (⟨#[98, 111, 98, 32, 108, 101, 101]⟩ : ByteArray)) := by rw [← hqc]; exact xc2
  obtain ⟨add, ead, xd0, xd1, xd2⟩ := at_T39 (HRd.out.has (Nat.le_refl 2) hc1).2 1 (by decide) (by decide)
  cases ead
  obtain ⟨qd, hqd⟩ : ∃ q, add.add (1 * 3) = q := ⟨_, rfl⟩
  replace xd0 : W17.cell? qd = some (.int .i64 3) := by rw [← hqd]; exact xd0
  replace xd1 : W17.cell? ⟨qd.block, qd.off + 1, none⟩ = some (.int .i64 0) := by rw [← hqd]; exact xd1
  replace xd2 : W17.cell? ⟨qd.block, qd.off + 2, none⟩ = some (.string (⟨#[97, 110, 110]⟩ : ByteArray)) := by rw [← hqd]; exact xd2
  obtain ⟨ade, eae, xe0, xe1, xe2⟩ := at_T39 (HRe.out.has (Nat.le_refl 2) hc1).2 1 (by decide) (by decide)
  cases eae
  obtain ⟨qe, hqe⟩ : ∃ q, ade.add (1 * 3) = q := ⟨_, rfl⟩
  replace xe0 : W17.cell? qe = some (.int .i64 3) := by rw [← hqe]; exact xe0
  replace xe1 : W17.cell? ⟨qe.block, qe.off + 1, none⟩ = some (.int .i64 0) := by rw [← hqe]; exact xe1
  replace xe2 : W17.cell? ⟨qe.block, qe.off + 2, none⟩ = some (.string (⟨#[98, 111, 98]⟩ : ByteArray)) := by rw [← hqe]; exact xe2
  go_upto_region 19 with (fail)
  try simp only [Reg.SF]
  have mg9_0 : _ = some (.slice A99 2 c99 : Value) := HX.out.cell 4 0 rfl rfl
  have mg10_0 : _ = some (.slice (some adb) 2 c105 : Value) := HX.out.cell 3 0 rfl rfl
  have mg11_0 : _ = some (.slice (some adc) 2 c111 : Value) := HX.out.cell 2 0 rfl rfl
  have mg12_0 : _ = some (.slice (some add) 2 c116 : Value) := HX.out.cell 1 0 rfl rfl
  have mg13_0 : _ = some (.slice (some ade) 2 c122 : Value) := HX.out.cell 0 0 rfl rfl
  refine Reg.det [(some 145, Reg.Dv.c (.pointer (some ⟨g9, 0, none⟩))), (some 146, Reg.Dv.c (.slice A99 2 c99)), (some 147, Reg.Dv.c (.slice (some ⟨g17, 0, none⟩) 2 2)), (some 148, Reg.Dv.c (.bool true)), (some 149, Reg.Dv.c (.bool false)), (some 150, Reg.Dv.c (.bool false)), (some 151, Reg.Dv.c (.pointer (some ⟨g10, 0, none⟩))), (some 152, Reg.Dv.c (.slice (some adb) 2 c105)), (some 153, Reg.Dv.c (.pointer (some qb))), (some 154, Reg.Dv.c (.pointer (some ⟨qb.block, qb.off + 1, none⟩))), (some 155, Reg.Dv.c (.int .i64 12400000)), (some 156, Reg.Dv.c (.bool false)), (some 157, Reg.Dv.c (.bool false)), (some 158, Reg.Dv.c (.bool false)), (some 159, Reg.Dv.c (.pointer (some ⟨g11, 0, none⟩))), (some 160, Reg.Dv.c (.slice (some adc) 2 c111)), (some 161, Reg.Dv.c (.pointer (some qc))), (some 162, Reg.Dv.c (.agg #[.int .i64 3, .int .i64 0, .string (⟨#[98, 111, 98, 32, 108, 101, 101]⟩ : ByteArray)])), (some 163, Reg.Dv.c (.agg #[.int .i64 3, .int .i64 0, .string (⟨#[98, 111, 98, 32, 108, 101, 101]⟩ : ByteArray)])), (some 164, Reg.Dv.c (.bool false)), (some 165, Reg.Dv.c (.bool false)), (some 166, Reg.Dv.c (.bool false)), (some 167, Reg.Dv.c (.pointer (some ⟨g12, 0, none⟩))), (some 168, Reg.Dv.c (.slice (some add) 2 c116)), (some 169, Reg.Dv.c (.pointer (some qd))), (some 170, Reg.Dv.c (.agg #[.int .i64 3, .int .i64 0, .string (⟨#[97, 110, 110]⟩ : ByteArray)])), (some 171, Reg.Dv.c (.agg #[.int .i64 3, .int .i64 0, .string (⟨#[97, 110, 110]⟩ : ByteArray)])), (some 172, Reg.Dv.c (.bool false)), (some 173, Reg.Dv.c (.bool false)), (some 174, Reg.Dv.c (.bool false)), (some 175, Reg.Dv.c (.pointer (some ⟨g13, 0, none⟩))), (some 176, Reg.Dv.c (.slice (some ade) 2 c122)), (some 177, Reg.Dv.c (.pointer (some qe))), (some 178, Reg.Dv.c (.agg #[.int .i64 3, .int .i64 0, .string (⟨#[98, 111, 98]⟩ : ByteArray)])), (some 179, Reg.Dv.c (.agg #[.int .i64 3, .int .i64 0, .string (⟨#[98, 111, 98]⟩ : ByteArray)])), (some 180, Reg.Dv.c (.bool false)), (some 181, Reg.Dv.c (.bool false))] [] 211 rfl (by kernel_rfl) (by kernel_rfl) ?s19 ?_
  case s19 =>
    intro iq oq pq hiq hoq hpq ρ ev W S hE hO ec ef hB hft hΦ
    have e2 : ev (.tmp 2) = .slice (some ⟨g17, 0, none⟩) 2 2 := hO 2 rfl
    have e9 : ev (.tmp 9) = .pointer (some ⟨g9, 0, none⟩) := hO 9 rfl
    have e10 : ev (.tmp 10) = .pointer (some ⟨g10, 0, none⟩) := hO 10 rfl
    have e11 : ev (.tmp 11) = .pointer (some ⟨g11, 0, none⟩) := hO 11 rfl
    have e12 : ev (.tmp 12) = .pointer (some ⟨g12, 0, none⟩) := hO 12 rfl
    have e13 : ev (.tmp 13) = .pointer (some ⟨g13, 0, none⟩) := hO 13 rfl
    have mg9_0' := pw_cell_below hB mg9_0
    have mg10_0' := pw_cell_below hB mg10_0
    have mg11_0' := pw_cell_below hB mg11_0
    have mg12_0' := pw_cell_below hB mg12_0
    have mg13_0' := pw_cell_below hB mg13_0
    have xb0' := pw_cell_below hB xb0
    have xb1' := pw_cell_below hB xb1
    have xb2' := pw_cell_below hB xb2
    have xc0' := pw_cell_below hB xc0
    have xc1' := pw_cell_below hB xc1
    have xc2' := pw_cell_below hB xc2
    have xd0' := pw_cell_below hB xd0
    have xd1' := pw_cell_below hB xd1
    have xd2' := pw_cell_below hB xd2
    have xe0' := pw_cell_below hB xe0
    have xe1' := pw_cell_below hB xe1
    have xe2' := pw_cell_below hB xe2
    simp only [Reg.SV, val_got] at hE
    obtain ⟨e145, e146, e147, e148, e149, e150, e151, e152, e153, e154, e155, e156, e157, e158, e159, e160, e161, e162, e163, e164, e165, e166, e167, e168, e169, e170, e171, e172, e173, e174, e175, e176, e177, e178, e179, e180, e181, _⟩ := hE
    rcases Reg.lt37 hiq with rfl | rfl | rfl | rfl | rfl | rfl | rfl | rfl | rfl | rfl | rfl | rfl | rfl | rfl | rfl | rfl | rfl | rfl | rfl | rfl | rfl | rfl | rfl | rfl | rfl | rfl | rfl | rfl | rfl | rfl | rfl | rfl | rfl | rfl | rfl | rfl | rfl
    all_goals (cases hoq; cases hpq)
    rotate_left 34
    · refine Reg.D.cc (g := 29) (args := #[.string (⟨#[98, 111, 98]⟩ : ByteArray)]) hB (by go_simp; try rfl) ?_
      exact chapmanref16_Texted.calls (⟨#[98, 111, 98]⟩ : ByteArray) 3 0 (⟨#[98, 111, 98]⟩ : ByteArray) W rfl
    rotate_right 34
    rotate_left 26
    · refine Reg.D.cc (g := 29) (args := #[.string (⟨#[97, 110, 110]⟩ : ByteArray)]) hB (by go_simp; try rfl) ?_
      exact chapmanref16_Texted.calls (⟨#[97, 110, 110]⟩ : ByteArray) 3 0 (⟨#[97, 110, 110]⟩ : ByteArray) W rfl
    rotate_right 26
    rotate_left 18
    · refine Reg.D.cc (g := 29) (args := #[.string (⟨#[98, 111, 98, 32, 108, 101, 101]⟩ : ByteArray)]) hB (by go_simp; try rfl) ?_
      exact chapmanref16_Texted.calls (⟨#[98, 111, 98, 32, 108, 101, 101]⟩ : ByteArray) 3 0 (⟨#[98, 111, 98, 32, 108, 101, 101]⟩ : ByteArray) W rfl
    rotate_right 18
    rotate_left 3
    · refine Reg.D.cc (g := 13) (args := #[.slice A99 2 c99, .slice (some ⟨g17, 0, none⟩) 2 2]) hB (by go_simp; try rfl) ?_
      exact (chapmanref16_Same.calls 5 A99 c99 la (some ⟨g17, 0, none⟩) 2 exC true W (Kd.C_below ha.2 hB) ha.1 (Kd.C_below hc1 hB) (Nat.le_refl _) same_a).mono (fun e w' h => ⟨h.1, below_of_drawn h.2⟩)
    rotate_right 3
    all_goals (first | exact Reg.D.mv hB | skip)
    all_goals (refine Reg.D.cv hB ?_; go_simp; try (first | done | rfl | (rw [← hqb]; rfl) | (rw [← hqc]; rfl) | (rw [← hqd]; rfl) | (rw [← hqe]; rfl) | (simp; done)))
  intro ρ W19 S hB hft hap hΦ
  simp only [Reg.SV, val_got, Reg.SF, Nat.reduceAdd]
  have HX := Aside0.mk (HX.out.call hB)
  replace RA := Aside0.mk (Kd.R_below RA.out hB)
  replace HB7 := Aside0.mk (below_step HB7.out hB)
  replace HRa := Aside0.mk (Row2.below HRa.out hB)
  replace HRb := Aside0.mk (Row2.below HRb.out hB)
  replace HRc := Aside0.mk (Row2.below HRc.out hB)
  replace HRd := Aside0.mk (Row2.below HRd.out hB)
  replace HRe := Aside0.mk (Row2.below HRe.out hB)
  clear hΦ hft hap mg9_0 mg10_0 mg11_0 mg12_0 mg13_0
  go_upto_region 21 with (fail)
  try simp only [Reg.SF]
  have mg4_0 : _ = some (.int .i64 3 : Value) := HX.out.cell 10 0 rfl rfl
  have mg4_1 : _ = some (.int .i64 0 : Value) := HX.out.cell 10 1 rfl rfl
  have mg4_2 : _ = some (.int .i64 1 : Value) := HX.out.cell 10 2 rfl rfl
  have mg4_3 : _ = some (.string (⟨#[]⟩ : ByteArray) : Value) := HX.out.cell 10 3 rfl rfl
  have mg4_4 : _ = some (.slice none 0 0 : Value) := HX.out.cell 10 4 rfl rfl
  have mg8_0 : _ = some (.int .i64 6 : Value) := HX.out.cell 5 0 rfl rfl
  have mg8_1 : _ = some (.int .i64 0 : Value) := HX.out.cell 5 1 rfl rfl
  have mg8_2 : _ = some (.int .i64 0 : Value) := HX.out.cell 5 2 rfl rfl
  have mg8_3 : _ = some (.string (⟨#[44]⟩ : ByteArray) : Value) := HX.out.cell 5 3 rfl rfl
  have mg8_4 : _ = some (.slice (some ⟨g28, 0, none⟩) 2 2 : Value) := HX.out.cell 5 4 rfl rfl
  refine Reg.det [(some 182, Reg.Dv.c (.slice A14 2 c14)), (some 183, Reg.Dv.c (.agg #[.int .i64 3, .int .i64 0, .int .i64 1, .string (⟨#[]⟩ : ByteArray), .slice none 0 0])), (some 184, Reg.Dv.c (.slice (some ⟨g17, 0, none⟩) 2 2)), (some 185, Reg.Dv.c (.agg #[.int .i64 3, .int .i64 0, .string (⟨#[49, 50, 46, 52, 48]⟩ : ByteArray)])), (some 186, Reg.Dv.c (.agg #[.slice (some ⟨g17, 0, none⟩) 2 2, .int .i64 3, .int .i64 0, .string (⟨#[49, 50, 46, 52, 48]⟩ : ByteArray)])), (some 187, Reg.Dv.c (.agg #[.slice none 0 0, .int .i64 160])), (some 188, Reg.Dv.c (.int .i64 160)), (some 189, Reg.Dv.c (.bool true)), (some 190, Reg.Dv.c (.bool true)), (some 191, Reg.Dv.c (.slice A14 2 c14)), (some 192, Reg.Dv.c (.agg #[.int .i64 6, .int .i64 0, .int .i64 0, .string (⟨#[44]⟩ : ByteArray), .slice (some ⟨g28, 0, none⟩) 2 2])), (some 193, Reg.Dv.c (.slice (some ⟨g17, 0, none⟩) 2 2)), (some 194, Reg.Dv.c (.agg #[.int .i64 3, .int .i64 0, .string (⟨#[97, 32, 98, 44, 99]⟩ : ByteArray)])), (some 195, Reg.Dv.c (.agg #[.slice (some ⟨g17, 0, none⟩) 2 2, .int .i64 3, .int .i64 0, .string (⟨#[97, 32, 98, 44, 99]⟩ : ByteArray)])), (some 196, Reg.Dv.c (.agg #[.slice none 0 0, .int .i64 160])), (some 197, Reg.Dv.c (.int .i64 160)), (some 198, Reg.Dv.c (.bool true)), (some 199, Reg.Dv.c (.bool true)), (some 200, Reg.Dv.c (.bool true)), (some 201, Reg.Dv.c (.agg #[.int .i64 6, .int .i64 0, .int .i64 0, .string (⟨#[44]⟩ : ByteArray), .slice (some ⟨g28, 0, none⟩) 2 2])), (some 202, Reg.Dv.row 202 (Kd.int .i64) 3 ([1])), (some 203, Reg.Dv.c (.bool true)), (some 204, Reg.Dv.c (.bool true)), (some 205, Reg.Dv.c (.bool true)), (some 206, Reg.Dv.c (.agg #[.int .i64 6, .int .i64 0, .int .i64 0, .string (⟨#[44]⟩ : ByteArray), .slice (some ⟨g28, 0, none⟩) 2 2])), (some 207, Reg.Dv.row 207 (Kd.int .i64) 3 ([1])), (some 208, Reg.Dv.c (.int .i64 1)), (some 209, Reg.Dv.c (.bool true)), (some 210, Reg.Dv.c (.bool true)), (some 0, Reg.Dv.c (.bool true))] [] 211 rfl (by kernel_rfl) (by kernel_rfl) ?s20 ?_
  case s20 =>
    intro iq oq pq hiq hoq hpq ρ ev W S hE hO ec ef hB hft hΦ
    have e1 : ev (.tmp 1) = .slice A14 2 c14 := hO 1 rfl
    have e2 : ev (.tmp 2) = .slice (some ⟨g17, 0, none⟩) 2 2 := hO 2 rfl
    have e4 : ev (.tmp 4) = .pointer (some ⟨g4, 0, none⟩) := hO 4 rfl
    have e8 : ev (.tmp 8) = .pointer (some ⟨g8, 0, none⟩) := hO 8 rfl
    have mg4_0' := pw_cell_below hB mg4_0
    have mg4_1' := pw_cell_below hB mg4_1
    have mg4_2' := pw_cell_below hB mg4_2
    have mg4_3' := pw_cell_below hB mg4_3
    have mg4_4' := pw_cell_below hB mg4_4
    have mg8_0' := pw_cell_below hB mg8_0
    have mg8_1' := pw_cell_below hB mg8_1
    have mg8_2' := pw_cell_below hB mg8_2
    have mg8_3' := pw_cell_below hB mg8_3
    have mg8_4' := pw_cell_below hB mg8_4
    simp only [Reg.SV, val_got] at hE
    obtain ⟨e182, e183, e184, e185, e186, e187, e188, e189, e190, e191, e192, e193, e194, e195, e196, e197, e198, e199, e200, e201, e202, e203, e204, e205, e206, e207, e208, e209, e210, e0, _⟩ := hE
    rcases Reg.lt30 hiq with rfl | rfl | rfl | rfl | rfl | rfl | rfl | rfl | rfl | rfl | rfl | rfl | rfl | rfl | rfl | rfl | rfl | rfl | rfl | rfl | rfl | rfl | rfl | rfl | rfl | rfl | rfl | rfl | rfl | rfl
    all_goals (cases hoq; cases hpq)
    rotate_left 26
    · obtain ⟨_, _, h207⟩ := Kd.R_slice (hΦ 25 _ rfl rfl rfl)
      replace h207 : ρ 207 = _ := h207
      refine Reg.D.cv hB ?_
      go_simp
      try (first | done | rfl | (simp; done) | (intro h; omega))
    rotate_right 26
    rotate_left 25
    · refine Reg.D.crow (g := 14) (args := #[.agg #[.int .i64 6, .int .i64 0, .int .i64 0, .string (⟨#[44]⟩ : ByteArray), .slice (some ⟨g28, 0, none⟩) 2 2]]) hB (by go_simp; try rfl) ?_
      exact HAB.out W (below_step HB7.out hB)
    rotate_right 25
    rotate_left 21
    · refine Reg.D.cc (g := 19) (args := #[ρ 202, .int .i64 1]) hB (by go_simp; try rfl) ?_
      have r := hΦ 20 _ rfl rfl rfl
      replace r : Kd.R (Kd.int .i64) 3 W _ _ (ρ 202) [1] := r
      obtain ⟨A, c, e⟩ := Kd.R_slice r
      rw [e] at r ⊢
      exact (chapmanref16_In.calls 5 A c [1] 1 true W (Kd.R_reads' r).2.2 (Kd.R_reads' r).2.1 in_B).mono (fun e w' h => ⟨h.1, below_of_drawn h.2⟩)
    rotate_right 21
    rotate_left 20
    · refine Reg.D.crow (g := 14) (args := #[.agg #[.int .i64 6, .int .i64 0, .int .i64 0, .string (⟨#[44]⟩ : ByteArray), .slice (some ⟨g28, 0, none⟩) 2 2]]) hB (by go_simp; try rfl) ?_
      exact HAB.out W (below_step HB7.out hB)
    rotate_right 20
    rotate_left 14
    · refine Reg.D.cc (g := 11) (args := #[.slice A14 2 c14, .agg #[.int .i64 6, .int .i64 0, .int .i64 0, .string (⟨#[44]⟩ : ByteArray), .slice (some ⟨g28, 0, none⟩) 2 2], .agg #[.slice (some ⟨g17, 0, none⟩) 2 2, .int .i64 3, .int .i64 0, .string (⟨#[97, 32, 98, 44, 99]⟩ : ByteArray)]]) hB (by go_simp; try rfl) ?_
      exact (HPg.out W (below_step HB7.out hB)).mono (fun e w' h => ⟨h.2, h.1⟩)
    rotate_right 14
    rotate_left 12
    · refine Reg.D.cc (g := 29) (args := #[.string (⟨#[97, 32, 98, 44, 99]⟩ : ByteArray)]) hB (by go_simp; try rfl) ?_
      exact chapmanref16_Texted.calls (⟨#[97, 32, 98, 44, 99]⟩ : ByteArray) 3 0 (⟨#[97, 32, 98, 44, 99]⟩ : ByteArray) W rfl
    rotate_right 12
    rotate_left 5
    · refine Reg.D.cc (g := 11) (args := #[.slice A14 2 c14, .agg #[.int .i64 3, .int .i64 0, .int .i64 1, .string (⟨#[]⟩ : ByteArray), .slice none 0 0], .agg #[.slice (some ⟨g17, 0, none⟩) 2 2, .int .i64 3, .int .i64 0, .string (⟨#[49, 50, 46, 52, 48]⟩ : ByteArray)]]) hB (by go_simp; try rfl) ?_
      exact (HPf.out W (below_step HB7.out hB)).mono (fun e w' h => ⟨h.2, h.1⟩)
    rotate_right 5
    rotate_left 3
    · refine Reg.D.cc (g := 29) (args := #[.string (⟨#[49, 50, 46, 52, 48]⟩ : ByteArray)]) hB (by go_simp; try rfl) ?_
      exact chapmanref16_Texted.calls (⟨#[49, 50, 46, 52, 48]⟩ : ByteArray) 3 0 (⟨#[49, 50, 46, 52, 48]⟩ : ByteArray) W rfl
    rotate_right 3
    all_goals (first | exact Reg.D.mv hB | skip)
    all_goals (refine Reg.D.cv hB ?_; go_simp; try (first | done | rfl | (simp; done) | (intro h; omega)))
  intro ρ W21 S hB hft hap hΦ
  simp only [Reg.SV, val_got, Reg.SF, Nat.reduceAdd]
  have r202 : Kd.R (Kd.int .i64) 3 W21 _ _ (ρ 202) ([1]) := hΦ 20 _ rfl rfl
  obtain ⟨A202, c202, e202⟩ := Kd.R_slice r202
  replace e202 : ρ 202 = .slice A202 1 c202 := e202
  rw [e202] at r202
  replace r202 := Kd.R_mono (ok' := fun _ => True) (Kd.R_lower r202 HX.out.below.size) (fun _ _ => trivial)
  have r207 : Kd.R (Kd.int .i64) 3 W21 _ _ (ρ 207) ([1]) := hΦ 25 _ rfl rfl
  obtain ⟨A207, c207, e207⟩ := Kd.R_slice r207
  replace e207 : ρ 207 = .slice A207 1 c207 := e207
  rw [e207] at r207
  replace r207 := Kd.R_mono (ok' := fun _ => True) (Kd.R_lower r207 HX.out.below.size) (fun _ _ => trivial)
  try simp only [e202, e207]
  have HX := Aside0.mk (HX.out.call hB)
  replace RA := Aside0.mk (Kd.R_below RA.out hB)
  replace HB7 := Aside0.mk (below_step HB7.out hB)
  replace HRa := Aside0.mk (Row2.below HRa.out hB)
  replace HRb := Aside0.mk (Row2.below HRb.out hB)
  replace HRc := Aside0.mk (Row2.below HRc.out hB)
  replace HRd := Aside0.mk (Row2.below HRd.out hB)
  replace HRe := Aside0.mk (Row2.below HRe.out hB)
  clear hΦ hft hap mg4_0 mg4_1 mg4_2 mg4_3 mg4_4 mg8_0 mg8_1 mg8_2 mg8_3 mg8_4
  go_wp2_with fail
  go_ret
  exact ⟨rfl, HX.out.below⟩
end Go.Proofs.YtmebkjdknhknbaaGreatDoor.H
end
section
namespace Go.Proofs.YtmebkjdknhknbaaGreatDoor.H
open Go.RowKit Go.Proofs.YtmebkjdknhknbaaGreatDoor.G Go.Proofs.YtmebkjdknhknbaaGreatDoorW.PrintWords Go.Proofs.YtmebkjdknhknbaaGreatDoorW.PrintLast Go.Proofs.YtmebkjdknhknbaaGreatDoorW.PrintMore
theorem same_from (l : List S39) (hz : l.length ≤ 1000) : ∀ (m i k : Nat), i + m = l.length → m < k → chapmanref16_Same.l0 k l l (i : Int) = some true := by
  intro m
  induction m with
  | zero =>
    intro i k hi hk
    obtain ⟨k, rfl⟩ : ∃ j, k = j + 1 := ⟨k - 1, by omega⟩
    rw [chapmanref16_Same.l0, if_neg (by omega)]
  | succ m ih =>
    intro i k hi hk
    obtain ⟨k, rfl⟩ : ∃ j, k = j + 1 := ⟨k - 1, by omega⟩
    have hw : wrap64 ((i : Int) + 1) = ((i + 1 : Nat) : Int) := by unfold wrap64; omega
    rw [chapmanref16_Same.l0, if_pos (by omega), if_pos (by omega), if_pos (by omega), if_neg (by simp), hw]
    exact ih (i + 1) k (by omega) (by omega)
theorem same_self (l : List S39) (hz : l.length ≤ 1000) : ∃ k, chapmanref16_Same.f k l l = some true := ⟨l.length + 1, by
  unfold chapmanref16_Same.f
  rw [if_pos rfl]
  exact same_from l hz l.length 0 (l.length + 1) (by omega) (by omega)⟩
set_option maxHeartbeats 16000000 in
set_option maxRecDepth 100000 in
theorem getput_law (B1 B2 B3 B4 : Option Addr) (d1 d2 d3 d4 : Nat) (l1 l2 l3 l4 : List Int) (w : World) (hgl : Gl w) (hb1 : ∀ x, x ∈ l1 → 0 ≤ x ∧ x ≤ 255) (hb2 : ∀ x, x ∈ l2 → 0 ≤ x ∧ x ≤ 255) (hb3 : ∀ x, x ∈ l3 → 0 ≤ x ∧ x ≤ 255) (hb4 : ∀ x, x ∈ l4 → 0 ≤ x ∧ x ≤ 255) (hd1 : l1.length ≤ d1) (hd2 : l2.length ≤ d2) (hd3 : l3.length ≤ d3) (hd4 : l4.length ≤ d4) (hr1 : Kd.C (Kd.int .u8) w B1 l1.length l1) (hr2 : Kd.C (Kd.int .u8) w B2 l2.length l2) (hr3 : Kd.C (Kd.int .u8) w B3 l3.length l3) (hr4 : Kd.C (Kd.int .u8) w B4 l4.length l4) :
    Calls Tryz.prog 3 #[.agg #[.slice B1 l1.length d1, .slice B2 l2.length d2, .slice B3 l3.length d3, .slice B4 l4.length d4]] w fun e w' => e = .returned (.bool true) ∧ Below w.heap.size w w' := by
  have hu := Tryz.underlying24
  have hu32 := Tryz.underlying32
  have hu29 := Tryz.underlying29
  have hu36 := Tryz.underlying36
  have hu42 := Tryz.underlying42
  have HX := Aside0.mk (Bxs.start w)
  have HG := Aside0.mk hgl
  have HMd : Aside0 (∀ w', Below w.heap.size w w' → Calls Tryz.prog 10 #[.agg #[.slice B1 l1.length d1, .slice B2 l2.length d2, .slice B3 l3.length d3, .slice B4 l4.length d4]] w' fun e w'' => (∃ v, e = .returned v ∧ mdP v w'.heap.size w'' (fun _ => True)) ∧ Below w'.heap.size w' w'') := ⟨fun w' hb => made_calls B1 B2 B3 B4 d1 d2 d3 l4.length d4 l1 l2 l3 hb1 hb2 hb3 hd1 hd2 hd3 w' (Kd.C_below hr1 hb) (Kd.C_below hr2 hb) (Kd.C_below hr3 hb)⟩
  go_enter Tryz.func3, Tryz.ntmps3
  go_upto_region 0 with (fail)
  refine Reg.det [(some 1, Reg.Dv.box 1 24 (fun _ => #[.slice B1 l1.length d1, .slice B2 l2.length d2, .slice B3 l3.length d3, .slice B4 l4.length d4]) [] true), (some 2, Reg.Dv.c (.bool false))] [] 37 rfl (by kernel_rfl) (by kernel_rfl) ?s1 ?_
  case s1 =>
    intro iq oq pq hiq hoq hpq ρ ev W S hE hO ec ef hB hft hΦ
    have e0 : ev (.tmp 0) = .agg #[.slice B1 l1.length d1, .slice B2 l2.length d2, .slice B3 l3.length d3, .slice B4 l4.length d4] := hO 0 rfl
    simp only [Reg.SV, val_md, val_got] at hE
    obtain ⟨e1, e2, _⟩ := hE
    rcases Reg.lt2 hiq with rfl | rfl
    all_goals (cases hoq; cases hpq)
    · refine Reg.D.box hB ?_
      go_simp
      try rfl
    all_goals (first | exact Reg.D.mv hB | skip)
    all_goals (refine Reg.D.cv hB ?_; go_simp; try (first | done | rfl | (simp; done) | (intro h; omega)))
  intro ρ W0 S hB hft hap hΦ
  simp only [Reg.SV, val_md, val_got, Reg.SF, Nat.reduceAdd]
  obtain ⟨g1, e1, s1, hg1, _, b1⟩ := hΦ 0 _ rfl rfl
  replace e1 : ρ 1 = .pointer (some ⟨g1, 0, none⟩) := e1
  try simp only [e1]
  replace b1 : W0.heap[g1]? = some (.cells #[.slice B1 l1.length d1, .slice B2 l2.length d2, .slice B3 l3.length d3, .slice B4 l4.length d4] 24 (0, 0)) := b1
  have HX := Aside0.mk (HX.out.join (Bxs.one hB hg1 b1))
  clear hΦ hft hap 
  go_upto_region 1 with (fail)
  try simp only [Reg.SF]
  refine Reg.det [(some 6, Reg.Dv.c (.bool true)), (some 3, Reg.Dv.c (.bool true))] [] 37 rfl (by kernel_rfl) (by kernel_rfl) ?s2 ?_
  case s2 =>
    intro iq oq pq hiq hoq hpq ρ ev W S hE hO ec ef hB hft hΦ
    simp only [Reg.SV, val_md, val_got] at hE
    obtain ⟨e6, e3, _⟩ := hE
    rcases Reg.lt2 hiq with rfl | rfl
    all_goals (cases hoq; cases hpq)
    · refine Reg.D.cc (g := 9) (args := #[]) hB (by go_simp; try rfl) ?_
      exact examples_calls W (HG.out.below (below_step HX.out.below hB))
    all_goals (first | exact Reg.D.mv hB | skip)
    all_goals (refine Reg.D.cv hB ?_; go_simp; try (first | done | rfl | (simp; done) | (intro h; omega)))
  intro ρ W1 S hB hft hap hΦ
  simp only [Reg.SV, val_md, val_got, Reg.SF, Nat.reduceAdd]
  have HX := Aside0.mk (HX.out.call hB)
  clear hΦ hft hap 
  go_upto_region 2 with (fail)
  try simp only [Reg.SF]
  refine Reg.det [(some 7, Reg.Dv.c (.bool true)), (some 8, Reg.Dv.c (.bool false))] [] 37 rfl (by kernel_rfl) (by kernel_rfl) ?s3 ?_
  case s3 =>
    intro iq oq pq hiq hoq hpq ρ ev W S hE hO ec ef hB hft hΦ
    have e3 : ev (.tmp 3) = .bool true := hO 3 rfl
    simp only [Reg.SV, val_md, val_got] at hE
    obtain ⟨e7, e8, _⟩ := hE
    rcases Reg.lt2 hiq with rfl | rfl
    all_goals (cases hoq; cases hpq)
    all_goals (first | exact Reg.D.mv hB | skip)
    all_goals (refine Reg.D.cv hB ?_; go_simp; try (first | done | rfl | (simp; done) | (intro h; omega)))
  intro ρ W2 S hB hft hap hΦ
  simp only [Reg.SV, val_md, val_got, Reg.SF, Nat.reduceAdd]
  have HX := Aside0.mk (HX.out.call hB)
  clear hΦ hft hap 
  go_upto_region 4 with (fail)
  try simp only [Reg.SF]
  have mg1_0 : _ = some (.slice B1 l1.length d1 : Value) := HX.out.cell 0 0 rfl rfl
  have mg1_1 : _ = some (.slice B2 l2.length d2 : Value) := HX.out.cell 0 1 rfl rfl
  have mg1_2 : _ = some (.slice B3 l3.length d3 : Value) := HX.out.cell 0 2 rfl rfl
  have mg1_3 : _ = some (.slice B4 l4.length d4 : Value) := HX.out.cell 0 3 rfl rfl
  refine Reg.det [(some 9, Reg.Dv.c (.agg #[.slice B1 l1.length d1, .slice B2 l2.length d2, .slice B3 l3.length d3, .slice B4 l4.length d4])), (some 10, mdDv 10), (some 4, Reg.Dv.box 4 32 (fun _ => #[.slice none 0 0, .int .i64 0, .int .i64 0, .int .i64 0, .string (⟨#[]⟩ : ByteArray), .slice none 0 0, .slice none 0 0]) [] true), (none, Reg.Dv.box 4 32 (fun l => (l.headD undef).cells) [10] false)] [(2, 3)] 37 rfl (by kernel_rfl) (by kernel_rfl) ?s4 ?_
  case s4 =>
    intro iq oq pq hiq hoq hpq ρ ev W S hE hO ec ef hB hft hΦ
    have e1 : ev (.tmp 1) = .pointer (some ⟨g1, 0, none⟩) := hO 1 rfl
    have mg1_0' := pw_cell_below hB mg1_0
    have mg1_1' := pw_cell_below hB mg1_1
    have mg1_2' := pw_cell_below hB mg1_2
    have mg1_3' := pw_cell_below hB mg1_3
    simp only [Reg.SV, val_md, val_got] at hE
    obtain ⟨e9, e10, e4, _⟩ := hE
    rcases Reg.lt4 hiq with rfl | rfl | rfl | rfl
    all_goals (cases hoq; cases hpq)
    rotate_left 3
    · obtain ⟨y0, y, y1, u0, u4, u2, h10, _, sA, sX, sL⟩ := hΦ 1 _ rfl rfl rfl
      obtain ⟨_, _, eu0⟩ := Kd.R_slice sA
      obtain ⟨_, _, eu4⟩ := Kd.R_slice sX
      obtain ⟨_, _, eu2⟩ := Kd.R_slice sL
      subst eu0 eu4 eu2
      replace h10 : ρ 10 = .agg _ := h10
      exact Reg.DStep.fill (us := [10]) (cs := fun l => (l.headD undef).cells) 2 (by decide) 32 (.tmp 4) (.tmp 10) rfl (by first | exact .inl rfl | exact .inr ⟨_, _, _, rfl, rfl, (by assumption)⟩) hB e4 (by rw [e10]; show ρ 10 = .agg (Value.cells (ρ 10)); rw [h10]; rfl) (hΦ 2 _ rfl rfl rfl) (by show _ = some (Value.cells (ρ 10)).size; rw [h10]; exact info32s) (by show _ = (Value.cells (ρ 10)).size; rw [h10]; rfl) (by show ((Value.cells (ρ 10)).toList.all _) = true; rw [h10]; rfl)
    rotate_right 3
    rotate_left 2
    · refine Reg.D.box hB ?_
      go_simp
      try rfl
    rotate_right 2
    rotate_left 1
    · refine Reg.D.call (g := 10) (args := #[.agg #[.slice B1 l1.length d1, .slice B2 l2.length d2, .slice B3 l3.length d3, .slice B4 l4.length d4]]) (by go_simp; try rfl) ?_
      exact md_step hB (HMd.out W (below_step HX.out.below hB))
    rotate_right 1
    all_goals (refine Reg.D.cv hB ?_; go_simp; try (first | done | rfl | (simp; done) | (intro h; omega)))
  intro ρ W4 S hB hft hap hΦ
  simp only [Reg.SV, val_md, val_got, Reg.SF, Nat.reduceAdd]
  obtain ⟨l0, x, l, v0, v4, v2, e10, ⟨hat, hx, hll, hce⟩, rA, rX, rL⟩ := hΦ 1 _ rfl rfl
  obtain ⟨A0, c0, ev0⟩ := Kd.R_slice rA
  obtain ⟨AX, cX, ev4⟩ := Kd.R_slice rX
  obtain ⟨AL, cL, ev2⟩ := Kd.R_slice rL
  subst ev0 ev4 ev2
  replace e10 : ρ 10 = .agg #[.slice A0 l0.length c0, .int .i64 x.f0, .int .i64 x.f1, .int .i64 x.f2, .string x.f3, .slice AX x.f4.length cX, .slice AL l.length cL] := e10
  have RA := Aside0.mk (Kd.R_mono (ok' := fun _ => True) rA (fun _ _ => trivial))
  have RX := Aside0.mk (Kd.R_mono (ok' := fun _ => True) rX (fun _ _ => trivial))
  have RL := Aside0.mk (Kd.R_mono (ok' := fun _ => True) rL (fun _ _ => trivial))
  clear rA rX rL
  obtain ⟨g4, e4, s4, hg4, _, b4⟩ := hΦ 3 _ rfl rfl
  replace e4 : ρ 4 = .pointer (some ⟨g4, 0, none⟩) := e4
  replace b4 : W4.heap[g4]? = some (.cells (Value.cells (ρ 10)) 32 (0, 0)) := b4
  rw [e10] at b4
  try simp only [e10, e4]
  replace b4 : W4.heap[g4]? = some (.cells #[.slice A0 l0.length c0, .int .i64 x.f0, .int .i64 x.f1, .int .i64 x.f2, .string x.f3, .slice AX x.f4.length cX, .slice AL l.length cL] 32 (0, 0)) := b4
  have HX := Aside0.mk (HX.out.join (Bxs.one hB hg4 b4))
  clear hΦ hft hap mg1_0 mg1_1 mg1_2 mg1_3
  have hfit := cells_fit hat hll hce
  have hsh := show_ok hfit 3 x hx
  obtain ⟨sv, hsv⟩ : ∃ s, shV 3 l x = s := ⟨_, rfl⟩
  have hpv : putsV 3 l0 l x sv = some l := by rw [putsV_succ, hsv]; unfold putsR; rw [if_pos ((eqV_iff sv sv).2 rfl)]
  have hz6 : l0.length ≤ 6 := hat.2.1
  have HS : Aside0 (∀ w', Below W4.heap.size W4 w' → Calls Tryz.prog 12 #[.agg #[.int .i64 x.f0, .int .i64 x.f1, .int .i64 x.f2, .string x.f3, .slice AX x.f4.length cX], .slice AL l.length cL] w' fun e w'' => e = .returned (.agg #[.int .i64 sv.f0, .int .i64 sv.f1, .string sv.f2]) ∧ Below w'.heap.size w' w'') := ⟨fun w' hb => by
    have h := shows_all none 0 0 l 3 x hsh.1
    rw [hsv] at h
    exact Show_calls l x sv AL cL AX cX w' ((HG.out.below HX.out.below).below hb) (Kd.C_below (Kd.R_reads' RL.out).2.2 hb) (Kd.R_reads' RX.out).2.1 (Kd.C_below (Kd.R_reads' RX.out).2.2 hb) h⟩
  have HP : Aside0 (∀ w', Below W4.heap.size W4 w' → Calls Tryz.prog 11 #[.slice A0 l0.length c0, .agg #[.int .i64 x.f0, .int .i64 x.f1, .int .i64 x.f2, .string x.f3, .slice AX x.f4.length cX], .agg #[.slice AL l.length cL, .int .i64 sv.f0, .int .i64 sv.f1, .string sv.f2]] w' fun e w'' => gotOut AL cL l (some l) w' w'' e) := ⟨fun w' hb => by
    have h := puts_all l0 (by omega) 3 x hx l sv hfit
    rw [hpv] at h
    exact put_calls l0 l x sv _ h A0 c0 AL cL AX cX w' ((HG.out.below HX.out.below).below hb) (Kd.R_reads' RA.out).2.1 (Kd.C_below (Kd.R_reads' RA.out).2.2 hb) (Kd.R_reads' RL.out).2.1 (Kd.C_below (Kd.R_reads' RL.out).2.2 hb) (Kd.R_reads' RX.out).2.1 (Kd.C_below (Kd.R_reads' RX.out).2.2 hb)⟩
  obtain ⟨ks, hks⟩ := same_self l (by omega)
  clear hfit hsh hpv
  go_upto_region 5 with (fail)
  try simp only [Reg.SF]
  have mg4_0 : _ = some (.slice A0 l0.length c0 : Value) := HX.out.cell 0 0 rfl rfl
  have mg4_1 : _ = some (.int .i64 x.f0 : Value) := HX.out.cell 0 1 rfl rfl
  have mg4_2 : _ = some (.int .i64 x.f1 : Value) := HX.out.cell 0 2 rfl rfl
  have mg4_3 : _ = some (.int .i64 x.f2 : Value) := HX.out.cell 0 3 rfl rfl
  have mg4_4 : _ = some (.string x.f3 : Value) := HX.out.cell 0 4 rfl rfl
  have mg4_5 : _ = some (.slice AX x.f4.length cX : Value) := HX.out.cell 0 5 rfl rfl
  have mg4_6 : _ = some (.slice AL l.length cL : Value) := HX.out.cell 0 6 rfl rfl
  refine Reg.det [(some 11, Reg.Dv.c (.pointer (some ⟨g4, 0, none⟩))), (some 12, Reg.Dv.c (.slice A0 l0.length c0)), (some 13, Reg.Dv.c (.pointer (some ⟨g4, 1, none⟩))), (some 14, Reg.Dv.c (.agg #[.int .i64 x.f0, .int .i64 x.f1, .int .i64 x.f2, .string x.f3, .slice AX x.f4.length cX])), (some 15, Reg.Dv.c (.pointer (some ⟨g4, 6, none⟩))), (some 16, Reg.Dv.c (.slice AL l.length cL)), (some 17, Reg.Dv.c (.pointer (some ⟨g4, 1, none⟩))), (some 18, Reg.Dv.c (.agg #[.int .i64 x.f0, .int .i64 x.f1, .int .i64 x.f2, .string x.f3, .slice AX x.f4.length cX])), (some 19, Reg.Dv.c (.pointer (some ⟨g4, 6, none⟩))), (some 20, Reg.Dv.c (.slice AL l.length cL)), (some 21, Reg.Dv.c (.agg #[.int .i64 sv.f0, .int .i64 sv.f1, .string sv.f2])), (some 22, Reg.Dv.c (.agg #[.slice AL l.length cL, .int .i64 sv.f0, .int .i64 sv.f1, .string sv.f2])), (some 23, gotDv 23 AL cL l l), (some 5, Reg.Dv.box 5 36 (fun _ => #[.slice none 0 0, .int .i64 0]) [] true), (none, Reg.Dv.box 5 36 (fun l => (l.headD undef).cells) [23] false)] [(13, 14)] 37 rfl (by kernel_rfl) (by kernel_rfl) ?s5 ?_
  case s5 =>
    intro iq oq pq hiq hoq hpq ρ ev W S hE hO ec ef hB hft hΦ
    have e4 : ev (.tmp 4) = .pointer (some ⟨g4, 0, none⟩) := hO 4 rfl
    have mg4_0' := pw_cell_below hB mg4_0
    have mg4_1' := pw_cell_below hB mg4_1
    have mg4_2' := pw_cell_below hB mg4_2
    have mg4_3' := pw_cell_below hB mg4_3
    have mg4_4' := pw_cell_below hB mg4_4
    have mg4_5' := pw_cell_below hB mg4_5
    have mg4_6' := pw_cell_below hB mg4_6
    simp only [Reg.SV, val_md, val_got] at hE
    obtain ⟨e11, e12, e13, e14, e15, e16, e17, e18, e19, e20, e21, e22, e23, e5, _⟩ := hE
    rcases Reg.lt15 hiq with rfl | rfl | rfl | rfl | rfl | rfl | rfl | rfl | rfl | rfl | rfl | rfl | rfl | rfl | rfl
    all_goals (cases hoq; cases hpq)
    rotate_left 14
    · obtain ⟨A23, c23, h23, _⟩ := hΦ 12 _ rfl rfl rfl
      replace h23 : ρ 23 = .agg #[.slice A23 l.length c23, .int .i64 0] := h23
      exact Reg.DStep.fill (us := [23]) (cs := fun l => (l.headD undef).cells) 13 (by decide) 36 (.tmp 5) (.tmp 23) rfl (by first | exact .inl rfl | exact .inr ⟨_, _, _, rfl, rfl, (by assumption)⟩) hB e5 (by rw [e23]; show ρ 23 = .agg (Value.cells (ρ 23)); rw [h23]; rfl) (hΦ 13 _ rfl rfl rfl) (by show _ = some (Value.cells (ρ 23)).size; rw [h23]; exact info36s) (by show _ = (Value.cells (ρ 23)).size; rw [h23]; rfl) (by show ((Value.cells (ρ 23)).toList.all _) = true; rw [h23]; rfl)
    rotate_right 14
    rotate_left 13
    · refine Reg.D.box hB ?_
      go_simp
      try rfl
    rotate_right 13
    rotate_left 12
    · refine Reg.D.call (g := 11) (args := #[.slice A0 l0.length c0, .agg #[.int .i64 x.f0, .int .i64 x.f1, .int .i64 x.f2, .string x.f3, .slice AX x.f4.length cX], .agg #[.slice AL l.length cL, .int .i64 sv.f0, .int .i64 sv.f1, .string sv.f2]]) (by go_simp; try rfl) ?_
      exact got_step hB (HP.out W hB)
    rotate_right 12
    rotate_left 10
    · refine Reg.D.cc (g := 12) (args := #[.agg #[.int .i64 x.f0, .int .i64 x.f1, .int .i64 x.f2, .string x.f3, .slice AX x.f4.length cX], .slice AL l.length cL]) hB (by go_simp; try rfl) ?_
      exact HS.out W hB
    rotate_right 10
    all_goals (refine Reg.D.cv hB ?_; go_simp; try (first | done | rfl | (simp; done) | (intro h; omega)))
  intro ρ W5 S hB hft hap hΦ
  simp only [Reg.SV, val_md, val_got, Reg.SF, Nat.reduceAdd]
  obtain ⟨A23, c23, e23, q23⟩ := hΦ 12 _ rfl rfl
  replace e23 : ρ 23 = .agg #[.slice A23 l.length c23, .int .i64 0] := e23
  have hr23 : Row2 AL cL l W5 w.heap.size A23 c23 l := q23.imp id (fun h => Kd.R_mono (Kd.R_lower h HX.out.below.size) (fun _ _ => trivial))
  obtain ⟨g5, e5, s5, hg5, _, b5⟩ := hΦ 14 _ rfl rfl
  replace e5 : ρ 5 = .pointer (some ⟨g5, 0, none⟩) := e5
  replace b5 : W5.heap[g5]? = some (.cells (Value.cells (ρ 23)) 36 (0, 0)) := b5
  rw [e23] at b5
  try simp only [e23, e5]
  replace b5 : W5.heap[g5]? = some (.cells #[.slice A23 l.length c23, .int .i64 0] 36 (0, 0)) := b5
  have HX := Aside0.mk (HX.out.join (Bxs.one hB hg5 b5))
  replace RA := Aside0.mk (Kd.R_below RA.out hB)
  replace RX := Aside0.mk (Kd.R_below RX.out hB)
  replace RL := Aside0.mk (Kd.R_below RL.out hB)
  clear hΦ hft hap mg4_0 mg4_1 mg4_2 mg4_3 mg4_4 mg4_5 mg4_6
  have hc1 := (Kd.R_reads' RL.out)
  have HC1 := Aside0.mk (hr23.has hc1.2.1 hc1.2.2)
  go_upto_region 6 with (fail)
  try simp only [Reg.SF]
  have mg5_1 : _ = some (.int .i64 0 : Value) := HX.out.cell 0 1 rfl rfl
  have mg5_0 : _ = some (.slice A23 l.length c23 : Value) := HX.out.cell 0 0 rfl rfl
  have mg4_6 : _ = some (.slice AL l.length cL : Value) := HX.out.cell 1 6 rfl rfl
  refine Reg.det [(some 24, Reg.Dv.c (.pointer (some ⟨g5, 1, none⟩))), (some 25, Reg.Dv.c (.int .i64 0)), (some 26, Reg.Dv.c (.bool true)), (some 27, Reg.Dv.c (.bool true)), (some 28, Reg.Dv.c (.pointer (some ⟨g5, 0, none⟩))), (some 29, Reg.Dv.c (.slice A23 l.length c23)), (some 30, Reg.Dv.c (.pointer (some ⟨g4, 6, none⟩))), (some 31, Reg.Dv.c (.slice AL l.length cL)), (some 32, Reg.Dv.c (.bool true)), (some 33, Reg.Dv.c (.bool true)), (some 34, Reg.Dv.c (.bool true)), (some 35, Reg.Dv.c (.bool true)), (some 36, Reg.Dv.c (.bool true)), (some 2, Reg.Dv.c (.bool true))] [] 37 rfl (by kernel_rfl) (by kernel_rfl) ?s6 ?_
  case s6 =>
    intro iq oq pq hiq hoq hpq ρ ev W S hE hO ec ef hB hft hΦ
    have e3 : ev (.tmp 3) = .bool true := hO 3 rfl
    have e4 : ev (.tmp 4) = .pointer (some ⟨g4, 0, none⟩) := hO 4 rfl
    have e5 : ev (.tmp 5) = .pointer (some ⟨g5, 0, none⟩) := hO 5 rfl
    have mg5_1' := pw_cell_below hB mg5_1
    have mg5_0' := pw_cell_below hB mg5_0
    have mg4_6' := pw_cell_below hB mg4_6
    simp only [Reg.SV, val_md, val_got] at hE
    obtain ⟨e24, e25, e26, e27, e28, e29, e30, e31, e32, e33, e34, e35, e36, e2, _⟩ := hE
    rcases Reg.lt14 hiq with rfl | rfl | rfl | rfl | rfl | rfl | rfl | rfl | rfl | rfl | rfl | rfl | rfl | rfl
    all_goals (cases hoq; cases hpq)
    rotate_left 8
    · refine Reg.D.cc (g := 13) (args := #[.slice A23 l.length c23, .slice AL l.length cL]) hB (by go_simp; try rfl) ?_
      exact (chapmanref16_Same.calls ks A23 c23 l AL cL l true W (Kd.C_below HC1.out.2 hB) HC1.out.1 (Kd.C_below hc1.2.2 hB) hc1.2.1 hks).mono (fun e w' h => ⟨h.1, below_drawn h.2⟩)
    rotate_right 8
    all_goals (first | exact Reg.D.mv hB | skip)
    all_goals (refine Reg.D.cv hB ?_; go_simp; try (first | done | rfl | (simp; done) | (intro h; omega)))
  intro ρ W6 S hB hft hap hΦ
  simp only [Reg.SV, val_md, val_got, Reg.SF, Nat.reduceAdd]
  have HX := Aside0.mk (HX.out.call hB)
  replace RA := Aside0.mk (Kd.R_below RA.out hB)
  replace RX := Aside0.mk (Kd.R_below RX.out hB)
  replace RL := Aside0.mk (Kd.R_below RL.out hB)
  clear hΦ hft hap mg5_1 mg5_0 mg4_6
  go_wp2_with fail
  go_ret
  exact ⟨rfl, HX.out.below⟩
def U8Row (w : World) (A : Option Addr) (len cap : Nat) (zs : List Int) : Prop := (A = none ∧ len = 0 ∧ cap = 0 ∧ zs = []) ∨ ∃ x, A = some x ∧ len ≤ cap ∧ cap ≤ maxLen ∧ zs.length = cap ∧ (∀ i, i < zs.length → w.cell? (x.add i) = some (.int .u8 (zs.getD i 0))) ∧ ∀ n ∈ zs, (Lit.int .u8 n).wf = true
theorem u8_in {l : List Int} (h : ∀ x ∈ l, (Lit.int .u8 x).wf = true) (x : Int) (hx : x ∈ l) : 0 ≤ x ∧ x ≤ 255 := by simpa [Lit.wf, IntKind.min, IntKind.max, IntKind.signed, IntKind.bits] using h x hx
theorem getput_law2 (A1 : Option Addr) (n1 c1 : Nat) (z1 : List Int) (A2 : Option Addr) (n2 c2 : Nat) (z2 : List Int) (A3 : Option Addr) (n3 c3 : Nat) (z3 : List Int) (A4 : Option Addr) (n4 c4 : Nat) (z4 : List Int) (w : World) (hgl : Gl w) (h1 : U8Row w A1 n1 c1 z1) (h2 : U8Row w A2 n2 c2 z2) (h3 : U8Row w A3 n3 c3 z3) (h4 : U8Row w A4 n4 c4 z4) :
    Calls Tryz.prog 3 #[.agg #[.slice A1 n1 c1, .slice A2 n2 c2, .slice A3 n3 c3, .slice A4 n4 c4]] w fun e w' => e = .returned (.bool true) ∧ Below w.heap.size w w' := by
  obtain ⟨l1, rfl, hr1, hm1, hw1, hc1⟩ := ReadsInt.ofRowC h1
  obtain ⟨l2, rfl, hr2, hm2, hw2, hc2⟩ := ReadsInt.ofRowC h2
  obtain ⟨l3, rfl, hr3, hm3, hw3, hc3⟩ := ReadsInt.ofRowC h3
  obtain ⟨l4, rfl, hr4, hm4, hw4, hc4⟩ := ReadsInt.ofRowC h4
  exact getput_law A1 A2 A3 A4 c1 c2 c3 c4 l1 l2 l3 l4 w hgl (u8_in hw1) (u8_in hw2) (u8_in hw3) (u8_in hw4) hc1 hc2 hc3 hc4 (Kd.C_of_reads (d := (0 : Int)) (h1 := fun _ => rfl) hr1) (Kd.C_of_reads (d := (0 : Int)) (h1 := fun _ => rfl) hr2) (Kd.C_of_reads (d := (0 : Int)) (h1 := fun _ => rfl) hr3) (Kd.C_of_reads (d := (0 : Int)) (h1 := fun _ => rfl) hr4)
end Go.Proofs.YtmebkjdknhknbaaGreatDoor.H
end
