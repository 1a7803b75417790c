/- Plain facts on texts of numbers: what a text is made of, that parsing tells it again, and that nothing else is parsed. -/
import Derived.Test.YtckonpphagkfeaaGreatDoorHText
set_option linter.unusedVariables false
set_option linter.unusedSimpArgs false
namespace Go.Proofs.YtckonpphagkfeaaGreatDoor.H
open Go.RowKit

/-! ### values of digits -/
theorem isDig_bounds {c : UInt8} (h : isDig c = true) : 48 ≤ c.toNat ∧ c.toNat ≤ 57 := by
  simpa [isDig] using h
theorem digV_le {c : UInt8} (h : isDig c = true) : digV c ≤ 9 := by
  have := isDig_bounds h
  rw [digV_eq]; omega
theorem digV_inj {c d : UInt8} (hc : isDig c = true) (hd : isDig d = true) (h : digV c = digV d) : c = d := by
  have h1 := isDig_bounds hc
  have h2 := isDig_bounds hd
  rw [digV_eq, digV_eq] at h
  exact UInt8.toNat_inj.mp (by omega)
theorem digV_pos {c : UInt8} (hc : isDig c = true) (h : c ≠ 48) : 1 ≤ digV c := by
  have h1 := isDig_bounds hc
  rw [digV_eq]
  have : c.toNat ≠ 48 := fun e => h (UInt8.toNat_inj.mp e)
  omega
theorem valB_nil : valB [] = 0 := rfl
theorem valB_append (l m : List UInt8) : valB (l ++ m) = valB l * 10 ^ m.length + valB m := by
  unfold valB
  rw [valFrom_append, valFrom_lin]
theorem valB_one (c : UInt8) : valB [c] = digV c := by
  show valFrom (10 * 0 + digV c) [] = _
  rw [Nat.mul_zero, Nat.zero_add]; rfl
theorem valB_cons (c : UInt8) (r : List UInt8) : valB (c :: r) = digV c * 10 ^ r.length + valB r := by
  have := valB_append [c] r
  rw [valB_one] at this
  exact this
theorem split_uniq {c d v v' P : Nat} (hv : v < P) (hv' : v' < P) (h : c * P + v = d * P + v') : c = d ∧ v = v' := by
  have h1 : c = d := by
    have := congrArg (· / P) h
    simp only [Nat.mul_comm _ P, Nat.mul_add_div (show 0 < P by omega), Nat.div_eq_of_lt hv, Nat.div_eq_of_lt hv', Nat.add_zero] at this
    exact this
  subst h1
  exact ⟨rfl, by omega⟩
theorem valB_inj : ∀ (D E : List UInt8), D.all isDig = true → E.all isDig = true → D.length = E.length → valB D = valB E → D = E
  | [], [], _, _, _, _ => rfl
  | [], _ :: _, _, _, hl, _ => by simp at hl
  | _ :: _, [], _, _, hl, _ => by simp at hl
  | c :: r, d :: s, hD, hE, hl, hv => by
    simp only [List.all_cons, Bool.and_eq_true] at hD hE
    have hl' : r.length = s.length := by simpa using hl
    rw [valB_cons, valB_cons, hl'] at hv
    have h1 := valB_lt r hD.2
    have h2 := valB_lt s hE.2
    rw [hl'] at h1
    obtain ⟨h3, h4⟩ := split_uniq h1 h2 hv
    rw [digV_inj hD.1 hE.1 h3, valB_inj r s hD.2 hE.2 hl' h4]
theorem valB_ge {c : UInt8} {r : List UInt8} (hc : isDig c = true) (h : c ≠ 48) : 10 ^ r.length ≤ valB (c :: r) := by
  rw [valB_cons]
  have := Nat.mul_le_mul_right (10 ^ r.length) (digV_pos hc h)
  omega

/-! ### canonical digits, at least seven -/
def Canon (D : List UInt8) : Prop := D.all isDig = true ∧ 7 ≤ D.length ∧ (D.length = 7 ∨ D.head? ≠ some 48)
theorem canon_len {D E : List UInt8} (hD : Canon D) (hE : Canon E) (h : valB D = valB E) (hl : D.length < E.length) : False := by
  obtain ⟨d1, d2, d3⟩ := hD
  obtain ⟨e1, e2, e3⟩ := hE
  cases E with
  | nil => simp at hl
  | cons c r =>
    rw [List.length_cons] at hl e3
    have hne : c ≠ 48 := by
      rcases e3 with e3 | e3
      · omega
      · intro e; exact e3 (by rw [e]; rfl)
    simp only [List.all_cons, Bool.and_eq_true] at e1
    have h1 := valB_ge (r := r) e1.1 hne
    have h2 := valB_lt D d1
    have h3 : 10 ^ D.length ≤ 10 ^ r.length := Nat.pow_le_pow_right (by decide) (by omega)
    omega
theorem canon_uniq {D E : List UInt8} (hD : Canon D) (hE : Canon E) (h : valB D = valB E) : D = E := by
  rcases Nat.lt_trichotomy D.length E.length with hl | hl | hl
  · exact (canon_len hD hE h hl).elim
  · exact valB_inj D E hD.1 hE.1 hl h
  · exact (canon_len hE hD h.symm hl).elim

theorem digit_of (u : Nat) (hu : u < 10) : isDig (UInt8.ofNat (48 + u)) = true ∧ digV (UInt8.ofNat (48 + u)) = u ∧ (u ≠ 0 → UInt8.ofNat (48 + u) ≠ 48) := by
  have h : ∀ i : Fin 10, isDig (UInt8.ofNat (48 + i.val)) = true ∧ (UInt8.ofNat (48 + i.val)).toNat = 48 + i.val ∧ (i.val ≠ 0 → UInt8.ofNat (48 + i.val) ≠ 48) := by decide
  obtain ⟨h1, h2, h3⟩ := h ⟨u, hu⟩
  refine ⟨h1, ?_, h3⟩
  rw [digV_eq]
  dsimp only at h2
  omega
theorem dec_spec : ∀ (k u : Nat), u < 10 ^ k → 1 ≤ k → (dec k u).all isDig = true ∧ valB (dec k u) = u ∧ dec k u ≠ [] ∧ (u ≠ 0 → (dec k u).head? ≠ some 48)
  | 0, _, _, h => by omega
  | k + 1, u, hu, _ => by
    unfold dec
    by_cases h : u < 10
    · rw [if_pos h]
      obtain ⟨h1, h2, h3⟩ := digit_of u h
      refine ⟨by rw [List.all_cons, h1, List.all_nil]; rfl, by rw [valB_one, h2], by simp, fun h0 => ?_⟩
      have := h3 h0
      simpa using this
    · rw [if_neg h]
      have hk : 1 ≤ k := by
        rcases k with _ | k
        · simp at hu; omega
        · omega
      obtain ⟨i1, i2, i3, i4⟩ := dec_spec k (u / 10) (by rw [Nat.pow_succ] at hu; omega) hk
      obtain ⟨h1, h2, h3⟩ := digit_of (u % 10) (Nat.mod_lt _ (by decide))
      refine ⟨by simp only [List.all_append, i1, List.all_cons, h1, List.all_nil, Bool.and_self], ?_, by simp, fun _ => ?_⟩
      · rw [valB_append, i2, valB_one, h2]
        simp only [List.length_cons, List.length_nil]
        omega
      · have := i4 (by omega)
        cases hd : dec k (u / 10) with
        | nil => exact (i3 hd).elim
        | cons c r => rw [hd] at this; simpa using this

theorem repeat_rep (m : Nat) : Lib.repeatL [48] m = List.replicate m 48 := by
  induction m with
  | zero => rfl
  | succ m ih => rw [Lib.repeatL, ih, List.replicate_succ]; rfl
theorem zeros_dig (m : Nat) : (List.replicate m (48 : UInt8)).all isDig = true := by
  rw [List.all_replicate]
  split
  · rfl
  · decide
theorem zeros_val : ∀ m : Nat, valB (List.replicate m (48 : UInt8)) = 0
  | 0 => rfl
  | m + 1 => by
    rw [List.replicate_succ, valB_cons, zeros_val m, digV_eq]
    simp

theorem padB_canon (n : Int) (h : n.natAbs < 10 ^ 20) : Canon (padB n) ∧ valB (padB n) = n.natAbs := by
  obtain ⟨i1, i2, i3, i4⟩ := dec_spec 20 n.natAbs h (by decide)
  have hz : n.natAbs = 0 → (dec 20 n.natAbs).length = 1 := fun h => by rw [h]; rfl
  unfold padB
  rw [repeat_rep]
  generalize dec 20 n.natAbs = d at *
  refine ⟨⟨by rw [List.all_append, zeros_dig, i1]; rfl, by rw [List.length_append, List.length_replicate]; omega, ?_⟩, by rw [valB_append, zeros_val, i2]; omega⟩
  by_cases hl : d.length ≤ 7
  · left
    rw [List.length_append, List.length_replicate]; omega
  · right
    have e : 7 - d.length = 0 := by omega
    rw [e, List.replicate_zero, List.nil_append]
    refine i4 fun h0 => ?_
    have := hz h0
    omega

/-! ### zeros behind -/
theorem trim_spec (F : List UInt8) : ∃ m, F = Lib.trimRightB F 48 ++ List.replicate m 48 ∧ (Lib.trimRightB F 48 = [] ∨ ∃ X c, Lib.trimRightB F 48 = X ++ [c] ∧ c ≠ 48) := by
  unfold Lib.trimRightB
  have h : ∀ L : List UInt8, ∃ m, L = List.replicate m 48 ++ L.dropWhile (· == 48) ∧ (L.dropWhile (· == 48) = [] ∨ ∃ c X, L.dropWhile (· == 48) = c :: X ∧ c ≠ 48) := by
    intro L
    induction L with
    | nil => exact ⟨0, rfl, .inl rfl⟩
    | cons c r ih =>
      rw [List.dropWhile_cons]
      by_cases hc : c = 48
      · subst hc
        obtain ⟨m, h1, h2⟩ := ih
        refine ⟨m + 1, ?_, h2⟩
        simp only [beq_self_eq_true, if_true]
        rw [List.replicate_succ, List.cons_append, ← h1]
      · refine ⟨0, ?_, ?_⟩
        · simp [hc]
        · right
          exact ⟨c, r, by simp [hc], hc⟩
  obtain ⟨m, h1, h2⟩ := h F.reverse
  refine ⟨m, ?_, ?_⟩
  · have := congrArg List.reverse h1
    rw [List.reverse_reverse, List.reverse_append, List.reverse_replicate] at this
    exact this
  · rcases h2 with h2 | ⟨c, X, h2, hc⟩
    · left; rw [h2]; rfl
    · right; exact ⟨X.reverse, c, by rw [h2, List.reverse_cons], hc⟩
theorem trim_uniq (Pt : List UInt8) (m : Nat) (h : Pt = [] ∨ ∃ X c, Pt = X ++ [c] ∧ c ≠ 48) : Lib.trimRightB (Pt ++ List.replicate m 48) 48 = Pt := by
  unfold Lib.trimRightB
  rw [List.reverse_append, List.reverse_replicate]
  have h1 : ∀ (m : Nat) (L : List UInt8), (List.replicate m 48 ++ L).dropWhile (· == 48) = L.dropWhile (· == 48) := by
    intro m L
    induction m with
    | zero => rfl
    | succ m ih => rw [List.replicate_succ, List.cons_append, List.dropWhile_cons]; simp [ih]
  rw [h1]
  rcases h with h | ⟨X, c, h, hc⟩
  · subst h; rfl
  · subst h
    rw [List.reverse_append]
    simp [List.dropWhile_cons, hc]

/-! ### what a text is made of -/
structure Form (W Pt : List UInt8) : Prop where
  w : numB W = true
  wc : W = [48] ∨ W.head? ≠ some 48
  p : Pt.all isDig = true
  pl : Pt.length ≤ 6
  pe : Pt = [] ∨ ∃ X c, Pt = X ++ [c] ∧ c ≠ 48

theorem Form.canon {W Pt : List UInt8} (h : Form W Pt) : Canon (W ++ Pt ++ List.replicate (6 - Pt.length) 48) := by
  have hw := h.w
  have hpl := h.pl
  simp only [numB, Bool.and_eq_true, Bool.not_eq_true', List.isEmpty_eq_false_iff] at hw
  have hl : 1 ≤ W.length := by
    rcases W with _ | ⟨c, r⟩
    · exact (hw.1 rfl).elim
    · simp
  refine ⟨by rw [List.all_append, List.all_append, hw.2, h.p, zeros_dig]; rfl, by simp only [List.length_append, List.length_replicate]; omega, ?_⟩
  rcases h.wc with hc | hc
  · left
    simp only [List.length_append, List.length_replicate, hc, List.length_cons, List.length_nil]; omega
  · right
    rcases W with _ | ⟨c, r⟩
    · exact (hw.1 rfl).elim
    · simpa using hc

theorem form_of (n : Int) (h : n.natAbs < 10 ^ 20) : Form (wholeB n) (partB n) ∧ wholeB n ++ partB n ++ List.replicate (6 - (partB n).length) 48 = padB n := by
  obtain ⟨⟨c1, c2, c3⟩, _⟩ := padB_canon n h
  unfold wholeB partB
  generalize padB n = D at *
  obtain ⟨m, hm, he⟩ := trim_spec (D.drop (D.length - 6))
  have hF : (D.drop (D.length - 6)).length = 6 := by rw [List.length_drop]; omega
  have hD : D.take (D.length - 6) ++ D.drop (D.length - 6) = D := List.take_append_drop _ _
  have hall := c1
  rw [← hD, List.all_append, Bool.and_eq_true] at hall
  have hW : (D.take (D.length - 6)).length = D.length - 6 := by rw [List.length_take]; omega
  have hlen : (Lib.trimRightB (D.drop (D.length - 6)) 48).length + m = 6 := by
    have := congrArg List.length hm
    rw [List.length_append, List.length_replicate, hF] at this
    omega
  have hall2 : (Lib.trimRightB (D.drop (D.length - 6)) 48).all isDig = true := by
    have := hall.2
    rw [hm, List.all_append, Bool.and_eq_true] at this
    exact this.1
  have hcat : D.take (D.length - 6) ++ Lib.trimRightB (D.drop (D.length - 6)) 48 ++ List.replicate (6 - (Lib.trimRightB (D.drop (D.length - 6)) 48).length) 48 = D := by
    rw [show 6 - (Lib.trimRightB (D.drop (D.length - 6)) 48).length = m by omega, List.append_assoc, ← hm, hD]
  refine ⟨⟨?_, ?_, hall2, by omega, he⟩, hcat⟩
  · rw [numB, hall.1, Bool.and_true]
    cases hw : D.take (D.length - 6) with
    | nil => rw [hw] at hW; simp at hW; omega
    | cons c r => rfl
  · rcases c3 with c3 | c3
    · have : (D.take (D.length - 6)).length = 1 := by rw [hW]; omega
      obtain ⟨c, hc⟩ := List.length_eq_one_iff.mp this
      rw [hc]
      by_cases h48 : c = 48
      · left; rw [h48]
      · right; simpa using h48
    · right
      rw [List.head?_take, if_neg (by omega)]
      exact c3

theorem parts_of {W Pt : List UInt8} (hf : Form W Pt) (n : Int) (h : n.natAbs < 10 ^ 20) (hv : valB (W ++ Pt ++ List.replicate (6 - Pt.length) 48) = n.natAbs) : wholeB n = W ∧ partB n = Pt := by
  obtain ⟨c1, c2⟩ := padB_canon n h
  have e := canon_uniq c1 hf.canon (by rw [c2, hv])
  have hpl := hf.pl
  have hl : (padB n).length - 6 = W.length := by
    rw [e]
    simp only [List.length_append, List.length_replicate]; omega
  unfold wholeB partB
  rw [hl, e, List.append_assoc, List.take_left', List.drop_left']
  · exact ⟨rfl, trim_uniq Pt _ hf.pe⟩
  · rfl
  · rfl

/-! ### cutting at the point -/
theorem no_point {l : List UInt8} (h : l.all isDig = true) : (46 : UInt8) ∉ l := by
  intro hm
  have := List.all_eq_true.mp h 46 hm
  exact absurd this (by decide)
theorem index_point (Pt : List UInt8) : ∀ W : List UInt8, (46 : UInt8) ∉ W → Lib.index (W ++ 46 :: Pt) [46] = (W.length : Int)
  | [], _ => by simp [Lib.index, List.isPrefixOf]
  | c :: r, h => by
    simp only [List.mem_cons, not_or] at h
    have ih := index_point Pt r h.2
    have hc : ((46 : UInt8) == c) = false := by simpa using h.1
    rw [List.cons_append]
    unfold Lib.index
    rw [ih]
    simp only [List.isPrefixOf, hc, Bool.false_and, Bool.false_eq_true, if_false]
    rw [if_neg (by simp), List.length_cons]
    rfl
theorem index_none : ∀ W : List UInt8, (46 : UInt8) ∉ W → Lib.index W [46] = -1
  | [], _ => rfl
  | c :: r, h => by
    simp only [List.mem_cons, not_or] at h
    have ih := index_none r h.2
    have hc : ((46 : UInt8) == c) = false := by simpa using h.1
    unfold Lib.index
    rw [ih]
    simp only [List.isPrefixOf, hc, Bool.false_and, Bool.false_eq_true, if_false]
    rfl
theorem cut_point {W Pt : List UInt8} (h : (46 : UInt8) ∉ W) : Lib.cut (W ++ 46 :: Pt) [46] = (W, Pt, true) := by
  unfold Lib.cut
  rw [index_point Pt W h, if_pos (by omega), Int.toNat_natCast]
  simp
theorem cut_plain {W : List UInt8} (h : (46 : UInt8) ∉ W) : Lib.cut W [46] = (W, [], false) := by
  unfold Lib.cut
  rw [index_none W h, if_neg (by decide)]
theorem cut_back (l : List UInt8) : l = (Lib.cut l [46]).1 ++ (if (Lib.cut l [46]).2.2 then 46 :: (Lib.cut l [46]).2.1 else []) ∧ ((Lib.cut l [46]).2.2 = false → (Lib.cut l [46]).2.1 = []) := by
  refine ⟨?_, cut_none l [46]⟩
  unfold Lib.cut
  rcases Lib.index_spec l [46] with ⟨h, _⟩ | ⟨i, h, hi, ho, _⟩
  · rw [h, if_neg (by decide)]
    simp
  · rw [h, if_pos (by omega), Int.toNat_natCast]
    simp only [if_true]
    have hd : l.drop i = 46 :: l.drop (i + 1) := by
      unfold Lib.occAt at ho
      cases hl : l.drop i with
      | nil => rw [hl] at ho; simp [List.isPrefixOf] at ho
      | cons c r =>
        rw [hl] at ho
        have hc : c = 46 := by
          have : (46 : UInt8) = c := by simpa [List.isPrefixOf] using ho
          exact this.symm
        subst hc
        have : l.drop (i + 1) = (l.drop i).drop 1 := by rw [List.drop_drop]
        rw [this, hl]
        rfl
    simp only [List.length_cons, List.length_nil, Nat.zero_add]
    rw [← hd, List.take_append_drop]

/-! ### parsing a text -/
def textOf (mn : Bool) (W Pt : List UInt8) : List UInt8 := (if mn then [45] else []) ++ W ++ (if Pt = [] then [] else 46 :: Pt)
def valOf (W Pt : List UInt8) : Nat := valB (W ++ Pt ++ List.replicate (6 - Pt.length) 48)

theorem Form.head {W Pt : List UInt8} (h : Form W Pt) : ∃ c r, W = c :: r ∧ isDig c = true := by
  have hw := h.w
  cases W with
  | nil => simp [numB] at hw
  | cons c r =>
    simp only [numB, List.all_cons, Bool.and_eq_true] at hw
    exact ⟨c, r, rfl, hw.2.1⟩
theorem size_of {mn : Bool} {W Pt : List UInt8} (h : Form W Pt) :
    Lib.hasPrefix (textOf mn W Pt) [45] = mn ∧ Lib.trimPrefix (textOf mn W Pt) [45] = W ++ (if Pt = [] then [] else 46 :: Pt) := by
  have hp : Lib.hasPrefix (textOf mn W Pt) [45] = mn := by
    unfold Lib.hasPrefix textOf
    cases mn with
    | true => simp [List.isPrefixOf]
    | false =>
      obtain ⟨c, r, rfl, hc⟩ := h.head
      have : ((45 : UInt8) == c) = false := by
        rw [beq_eq_false_iff_ne]
        rintro rfl
        exact absurd hc (by decide)
      simp [List.isPrefixOf, this]
  refine ⟨hp, ?_⟩
  unfold Lib.trimPrefix
  rw [hp]
  unfold textOf
  cases mn <;> simp
theorem cut_of {W Pt : List UInt8} (h : Form W Pt) : Lib.cut (W ++ (if Pt = [] then [] else 46 :: Pt)) [46] = (W, Pt, decide (Pt ≠ [])) := by
  have hw := h.w
  simp only [numB, Bool.and_eq_true] at hw
  have hn := no_point hw.2
  by_cases hp : Pt = []
  · subst hp
    rw [if_pos rfl, List.append_nil, cut_plain hn]
    rfl
  · rw [if_neg hp, cut_point hn, decide_eq_true hp]

theorem valOf_zero {W Pt : List UInt8} (h : Form W Pt) (h0 : valOf W Pt = 0) : W = [48] ∧ Pt = [] := by
  unfold valOf at h0
  rw [valB_append, zeros_val, Nat.add_zero, valB_append] at h0
  have hp : 0 < 10 ^ (6 - Pt.length) := Nat.pow_pos (by decide)
  have hp2 : 0 < 10 ^ Pt.length := Nat.pow_pos (by decide)
  simp only [List.length_replicate] at h0
  have h1 : valB W * 10 ^ Pt.length + valB Pt = 0 := by
    rcases Nat.mul_eq_zero.mp h0 with h0 | h0
    · exact h0
    · omega
  have h2 : valB W = 0 := by
    have : valB W * 10 ^ Pt.length = 0 := by omega
    rcases Nat.mul_eq_zero.mp this with h | h
    · exact h
    · omega
  have h3 : valB Pt = 0 := by omega
  constructor
  · rcases h.wc with hc | hc
    · exact hc
    · obtain ⟨c, r, rfl, hd⟩ := h.head
      have := valB_ge (r := r) hd (by simpa using hc)
      have hp3 : 0 < 10 ^ r.length := Nat.pow_pos (by decide)
      omega
  · rcases h.pe with hc | ⟨X, c, hc, hne⟩
    · exact hc
    · subst hc
      have hd := h.p
      simp only [List.all_append, List.all_cons, List.all_nil, Bool.and_true, Bool.and_eq_true] at hd
      rw [valB_append, valB_one] at h3
      have := digV_pos hd.2 hne
      omega

theorem suffix_zero {Pt : List UInt8} (h : Pt = [] ∨ ∃ X c, Pt = X ++ [c] ∧ c ≠ 48) : Lib.hasSuffix Pt [48] = false := by
  unfold Lib.hasSuffix
  rcases h with h | ⟨X, c, h, hc⟩
  · subst h; rfl
  · subst h
    unfold List.isSuffixOf
    rw [List.reverse_append]
    have : ((48 : UInt8) == c) = false := by rw [beq_eq_false_iff_ne]; exact fun e => hc e.symm
    simp [List.isPrefixOf, this]
theorem suffix_back {Pt : List UInt8} (h : Lib.hasSuffix Pt [48] = false) : Pt = [] ∨ ∃ X c, Pt = X ++ [c] ∧ c ≠ 48 := by
  rcases List.eq_nil_or_concat Pt with h0 | ⟨X, c, h0⟩
  · exact .inl h0
  · subst h0
    refine .inr ⟨X, c, by simp, ?_⟩
    rintro rfl
    unfold Lib.hasSuffix List.isSuffixOf at h
    simp [List.isPrefixOf] at h

theorem parse_text {mn : Bool} {W Pt : List UInt8} (h : Form W Pt) (hm : mn = true → valOf W Pt ≠ 0) (k : Nat) (hk : k < 7) :
    parseR (textOf mn W Pt) (k : Int) = if Pt.length ≤ k then (if 1000000000000000 < valOf W Pt then (0, 2) else (if mn then -(valOf W Pt : Int) else (valOf W Pt : Int), 0)) else (0, 5) := by
  obtain ⟨s1, s2⟩ := size_of (mn := mn) h
  unfold parseR
  rw [if_pos (by omega), s1, s2, cut_of h, Int.toNat_natCast]
  dsimp only
  unfold parseTail
  have hb1 : bad1 W (W ++ (if Pt = [] then [] else 46 :: Pt)) mn = false := by
    unfold bad1
    rw [h.w]
    have e2 : (!(W == [48]) && W.head? == some 48) = false := by
      rcases h.wc with hc | hc
      · rw [hc]; rfl
      · have : (W.head? == some 48) = false := by simpa using hc
        rw [this, Bool.and_false]
    rw [e2]
    have e3 : (W ++ (if Pt = [] then [] else 46 :: Pt) == [48] && mn) = false := by
      cases hmn : mn with
      | false => rw [Bool.and_false]
      | true =>
        rw [Bool.and_true, beq_eq_false_iff_ne]
        intro e
        by_cases hp : Pt = []
        · rw [if_pos hp, List.append_nil] at e
          apply hm hmn
          unfold valOf
          rw [e, hp]
          exact zeros_val 7
        · rw [if_neg hp] at e
          have := congrArg List.length e
          obtain ⟨c, r, rfl, _⟩ := h.head
          simp at this
    rw [e3]
    rfl
  have hb2 : bad2 Pt (decide (Pt ≠ [])) k = decide (k < Pt.length) := by
    unfold bad2
    rw [suffix_zero h.pe, Bool.or_false]
    by_cases hp : Pt = []
    · subst hp; rfl
    · have : numB Pt = true := by
        unfold numB
        rw [h.p, Bool.and_true]
        simpa using hp
      rw [this, decide_eq_true hp]
      simp
  rw [hb1, hb2, repeat_rep]
  simp only [Bool.false_eq_true, if_false, decide_eq_true_eq]
  by_cases hl : Pt.length ≤ k
  · rw [if_neg (by omega), if_pos hl]
    rfl
  · rw [if_pos (by omega), if_neg hl]

theorem parse_back {l : List UInt8} {n : Int} {k : Nat} (hk : k < 7) (h : parseR l (k : Int) = (n, 0)) :
    ∃ mn W Pt, l = textOf mn W Pt ∧ Form W Pt ∧ (mn = true → valOf W Pt ≠ 0) ∧ Pt.length ≤ k ∧ valOf W Pt ≤ 1000000000000000 ∧ n = (if mn then -(valOf W Pt : Int) else (valOf W Pt : Int)) := by
  unfold parseR at h
  rw [if_pos (by omega), Int.toNat_natCast] at h
  obtain ⟨c1, c2⟩ := cut_back (Lib.trimPrefix l [45])
  generalize hS : Lib.trimPrefix l [45] = S at *
  generalize hM : Lib.hasPrefix l [45] = mn at *
  have hl : l = (if mn then [45] else []) ++ S := by
    unfold Lib.trimPrefix at hS
    rw [hM] at hS
    cases mn with
    | false => simpa using hS
    | true =>
      simp only [if_true] at hS ⊢
      unfold Lib.hasPrefix at hM
      cases l with
      | nil => simp [List.isPrefixOf] at hM
      | cons c r =>
        have hc : c = 45 := by
          have : (45 : UInt8) = c := by simpa [List.isPrefixOf] using hM
          exact this.symm
        subst hc
        have : r = S := by simpa using hS
        rw [this]; rfl
  generalize (Lib.cut S [46]).1 = W at *
  generalize (Lib.cut S [46]).2.1 = Pt at *
  generalize (Lib.cut S [46]).2.2 = pt at *
  unfold parseTail at h
  cases hb1 : bad1 W S mn with
  | true => rw [hb1] at h; simp at h
  | false =>
    cases hb2 : bad2 Pt pt k with
    | true => rw [hb1, hb2] at h; simp at h
    | false =>
      rw [hb1, hb2, repeat_rep] at h
      simp only [Bool.false_eq_true, if_false] at h
      unfold bad1 at hb1
      simp only [Bool.or_eq_false_iff, Bool.not_eq_false'] at hb1
      obtain ⟨⟨b1, b2⟩, b3⟩ := hb1
      unfold bad2 at hb2
      have hpt : pt = decide (Pt ≠ []) ∧ Pt.all isDig = true ∧ Pt.length ≤ k ∧ (Pt = [] ∨ ∃ X c, Pt = X ++ [c] ∧ c ≠ 48) := by
        cases pt with
        | false =>
          have := c2 rfl
          subst this
          exact ⟨rfl, rfl, Nat.zero_le _, .inl rfl⟩
        | true =>
          rw [Bool.true_and, Bool.or_eq_false_iff, Bool.or_eq_false_iff] at hb2
          obtain ⟨⟨p1, p2⟩, p3⟩ := hb2
          have p1' : numB Pt = true := by simpa using p1
          simp only [numB, Bool.and_eq_true, Bool.not_eq_true', List.isEmpty_eq_false_iff] at p1'
          refine ⟨(decide_eq_true p1'.1).symm, p1'.2, by simpa using p2, suffix_back p3⟩
      obtain ⟨q1, q2, q3, q4⟩ := hpt
      have hf : Form W Pt := ⟨b1, by
        by_cases hw : W = [48]
        · exact .inl hw
        · right
          have : (W == [48]) = false := by simpa using hw
          rw [this] at b2
          simpa using b2, q2, by omega, q4⟩
      have hS2 : S = W ++ (if Pt = [] then [] else 46 :: Pt) := by
        rw [c1, q1]
        by_cases hp : Pt = [] <;> simp [hp]
      have hv : valB (W ++ Pt ++ List.replicate (6 - Pt.length) 48) = valOf W Pt := rfl
      rw [hv] at h
      split at h
      · simp at h
      · rename_i hbig
        refine ⟨mn, W, Pt, by rw [hl, hS2, textOf, List.append_assoc], hf, ?_, q3, by omega, ?_⟩
        · intro hmn h0
          obtain ⟨e1, e2⟩ := valOf_zero hf h0
          rw [hS2, e1, e2, hmn] at b3
          exact absurd b3 (by decide)
        · exact (congrArg Prod.fst h).symm

/-! ### the text of a number -/
theorem textL_eq (n : Int) : textL n = textOf (decide (n < 0)) (wholeB n) (partB n) := by
  unfold textL textOf signB
  by_cases h : n < 0 <;> simp [h]
theorem valOf_parts (n : Int) (h : n.natAbs < 10 ^ 20) : Form (wholeB n) (partB n) ∧ valOf (wholeB n) (partB n) = n.natAbs := by
  obtain ⟨h1, h2⟩ := form_of n h
  exact ⟨h1, by unfold valOf; rw [h2]; exact (padB_canon n h).2⟩

theorem parse_textL (n : Int) (h : n.natAbs < 10 ^ 20) (k : Nat) (hk : k < 7) :
    parseR (textL n) (k : Int) = if (partB n).length ≤ k then (if 1000000000000000 < n.natAbs then (0, 2) else (n, 0)) else (0, 5) := by
  obtain ⟨h1, h2⟩ := valOf_parts n h
  rw [textL_eq, parse_text h1 (fun hm => by rw [h2]; have := of_decide_eq_true hm; omega) k hk, h2]
  congr 2
  by_cases hn : n < 0
  · rw [decide_eq_true hn, if_pos rfl]; congr 1; omega
  · rw [decide_eq_false hn, if_neg (by decide)]; congr 1; omega

theorem textL_back {l : List UInt8} {n : Int} {k : Nat} (hk : k < 7) (h : parseR l (k : Int) = (n, 0)) : textL n = l ∧ (partB n).length ≤ k ∧ -1000000000000000 ≤ n ∧ n ≤ 1000000000000000 := by
  obtain ⟨mn, W, Pt, h1, h2, h3, h4, h5, h6⟩ := parse_back hk h
  have hn : n.natAbs = valOf W Pt := by cases mn <;> simp at h6 <;> omega
  obtain ⟨p1, p2⟩ := parts_of h2 n (by rw [hn]; exact Nat.lt_of_le_of_lt h5 (by decide)) hn.symm
  refine ⟨?_, by rw [p2]; exact h4, by omega, by omega⟩
  rw [textL_eq, p1, p2, h1]
  congr 1
  cases mn with
  | true =>
    have := h3 rfl
    simp only [if_true] at h6
    exact decide_eq_true (by omega)
  | false =>
    simp only [Bool.false_eq_true, if_false] at h6
    exact decide_eq_false (by omega)

theorem textL_inj {a b : Int} (ha : a.natAbs < 10 ^ 20) (hb : b.natAbs < 10 ^ 20) (h : textL a = textL b) : a = b := by
  obtain ⟨a1, a2⟩ := valOf_parts a ha
  obtain ⟨b1, b2⟩ := valOf_parts b hb
  rw [textL_eq, textL_eq] at h
  obtain ⟨s1, s2⟩ := size_of (mn := decide (a < 0)) a1
  obtain ⟨s3, s4⟩ := size_of (mn := decide (b < 0)) b1
  rw [h, s3] at s1
  rw [h, s4] at s2
  have h1 := cut_of a1
  have h2 := cut_of b1
  rw [s2, h1] at h2
  simp only [Prod.mk.injEq] at h2
  have e : a.natAbs = b.natAbs := by rw [← a2, ← b2, h2.1, h2.2.1]
  have := decide_eq_decide.mp s1
  omega

theorem fits_iff (n : Int) (h : n.natAbs < 10 ^ 20) (k : Nat) (hk : k < 7) : (Int.tmod n (stepOf (k : Int)) == 0) = decide ((partB n).length ≤ k) := by
  obtain ⟨h1, h2⟩ := valOf_parts n h
  have hst : stepOf (k : Int) = ((10 ^ (6 - k) : Nat) : Int) := by
    have : ∀ i : Fin 7, stepsTab.getD i.val 0 = ((10 ^ (6 - i.val) : Nat) : Int) := by decide
    have := this ⟨k, hk⟩
    unfold stepOf
    rw [Int.toNat_natCast]
    exact this
  have hpl := h1.pl
  have e0 : (Int.tmod n (stepOf (k : Int)) = 0) ↔ 10 ^ (6 - k) ∣ n.natAbs := by
    rw [hst]
    constructor
    · intro hd
      have := Int.dvd_of_tmod_eq_zero hd
      have := Int.natAbs_dvd_natAbs.mpr this
      simpa using this
    · intro hd
      exact Int.tmod_eq_zero_of_dvd (Int.ofNat_dvd_left.mpr hd)
  have e1 : 10 ^ (6 - k) ∣ n.natAbs ↔ (partB n).length ≤ k := by
    rw [← h2]
    unfold valOf
    rw [valB_append, zeros_val, Nat.add_zero, List.length_replicate]
    generalize partB n = Pt at *
    generalize wholeB n = W at *
    constructor
    · intro hd
      rcases Nat.lt_or_ge k Pt.length with hlt | hge
      · exfalso
        rcases h1.pe with hc | ⟨X, c, hc, hne⟩
        · rw [hc] at hlt; simp at hlt
        · have hdig := h1.p
          rw [hc, List.all_append] at hdig
          simp only [List.all_cons, List.all_nil, Bool.and_true, Bool.and_eq_true] at hdig
          have hle := digV_le hdig.2
          have hpos := digV_pos hdig.2 hne
          have hv : valB (W ++ Pt) = valB (W ++ X) * 10 + digV c := by
            rw [hc, ← List.append_assoc, valB_append, valB_one]
            rfl
          rw [hv] at hd
          have hd2 : 10 * 10 ^ (6 - Pt.length) ∣ (valB (W ++ X) * 10 + digV c) * 10 ^ (6 - Pt.length) := by
            refine Nat.dvd_trans ?_ hd
            rw [← Nat.pow_succ', show 6 - k = (6 - Pt.length).succ + (Pt.length - k - 1) by omega, Nat.pow_add]
            exact Nat.dvd_mul_right _ _
          have := Nat.dvd_of_mul_dvd_mul_right (Nat.pow_pos (by decide)) hd2
          omega
      · exact hge
    · intro hle
      refine Nat.dvd_trans (Nat.pow_dvd_pow 10 (show 6 - k ≤ 6 - Pt.length by omega)) (Nat.dvd_mul_left _ _)
  rw [Bool.eq_iff_iff, beq_iff_eq, decide_eq_true_eq]
  exact e0.trans e1

theorem textL_len (n : Int) : (textL n).length ≤ 30 := by
  have hp := padB_len n
  have h1 : (wholeB n).length ≤ 20 := by unfold wholeB; rw [List.length_take]; omega
  have h2 : (partB n).length ≤ 6 := by
    unfold partB Lib.trimRightB
    rw [List.length_reverse]
    have := dropWhile_len (· == 48) ((padB n).drop ((padB n).length - 6)).reverse
    rw [List.length_reverse, List.length_drop] at this
    omega
  unfold textL signB
  simp only [List.length_append]
  split <;> split <;> simp only [List.length_cons, List.length_nil] <;> omega
end Go.Proofs.YtckonpphagkfeaaGreatDoor.H
