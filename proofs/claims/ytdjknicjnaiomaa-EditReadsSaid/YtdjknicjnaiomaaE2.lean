/-
  Edits' bytes; what the law EditPuts answers.
-/
import Derived.Test.YtdjknicjnaiomaaE1
set_option linter.unusedVariables false
set_option linter.unusedSimpArgs false
set_option maxHeartbeats 1600000
/- Edits: alike or not, light or not; their bytes by the reference. -/
namespace Go.Proofs.Ytdjknicjnaiomaa.Sx
attribute [local simp ↓] den_start deb_op deb_ret deb_jump deb_itev deb_itel deb_loop deb_fail deb_nilcv
attribute [local simp] nilE_some opE_some debP_nil debP_cons pushL_nil pushL_cons retE_some iteE_some evB_nil evB_v evB_l lkE_cons consE_some d_int d_bool d_str d_nil o_add o_sub o_mul o_and o_or o_xor o_andNot o_quo o_rem o_shl o_shr o_eql o_neq o_lss o_leq o_gtr o_geq o_seql o_sneq o_slss o_sleq o_sgtr o_sgeq o_beql o_bneq o_scat o_not o_neg o_com o_conv o_s2b o_b2s o_len o_slen o_inb o_idx o_sidx o_sub3 o_sub2 o_ssub3 o_ssub2 o_app o_apps o_mk mkE_some consD_some mkD_zero mkD_int mkD_str mkD_sl o_imin o_imax o_smin o_smax o_eqs eqsE_some eqC_nil andE_some eqC_int eqC_bool eqC_str j1 outE_some outE_none outE_ite agE_1 loopE_1 agE_2 loopE_2 agE_3 loopE_3 agE_4 loopE_4 agE_5 loopE_5 agE_6 loopE_6 agE_7 loopE_7 agE_8 loopE_8 agE_9 loopE_9 List.cons_append List.nil_append List.append_nil split List.take_succ_cons List.take_zero List.drop_succ_cons List.drop_zero

instance : DecidableEq Ed := fun x y => decidable_of_iff (x.1 = y.1 ∧ x.2.1 = y.2.1 ∧ x.2.2.1 = y.2.2.1 ∧ x.2.2.2.1 = y.2.2.2.1 ∧ x.2.2.2.2.1.1 = y.2.2.2.2.1.1 ∧ x.2.2.2.2.1.2.1 = y.2.2.2.2.1.2.1 ∧ x.2.2.2.2.1.2.2 = y.2.2.2.2.1.2.2 ∧ x.2.2.2.2.2.1 = y.2.2.2.2.2.1 ∧ x.2.2.2.2.2.2.1 = y.2.2.2.2.2.2.1 ∧ x.2.2.2.2.2.2.2.1 = y.2.2.2.2.2.2.2.1 ∧ x.2.2.2.2.2.2.2.2.1 = y.2.2.2.2.2.2.2.2.1 ∧ x.2.2.2.2.2.2.2.2.2 = y.2.2.2.2.2.2.2.2.2)
  (by obtain ⟨a, b, c, d, ⟨e, f, g⟩, h, i, j, k, l⟩ := x; obtain ⟨a', b', c', d', ⟨e', f', g'⟩, h', i', j', k', l'⟩ := y; simp only [Prod.mk.injEq]; constructor <;> (intro h; obtain ⟨h1, h2, h3, h4, h5⟩ := h; simp_all))

theorem ed_ne {x y : Ed} (h : ¬ x = y) : ¬ x.1 = y.1 ∨ ¬ x.2.1 = y.2.1 ∨ ¬ x.2.2.1 = y.2.2.1 ∨ ¬ x.2.2.2.1 = y.2.2.2.1 ∨ ¬ x.2.2.2.2.1.1 = y.2.2.2.2.1.1 ∨ ¬ x.2.2.2.2.1.2.1 = y.2.2.2.2.1.2.1 ∨ ¬ x.2.2.2.2.1.2.2 = y.2.2.2.2.1.2.2 ∨ ¬ x.2.2.2.2.2.1 = y.2.2.2.2.2.1 ∨ ¬ x.2.2.2.2.2.2.1 = y.2.2.2.2.2.2.1 ∨ ¬ x.2.2.2.2.2.2.2.1 = y.2.2.2.2.2.2.2.1 ∨ ¬ x.2.2.2.2.2.2.2.2.1 = y.2.2.2.2.2.2.2.2.1 ∨ ¬ x.2.2.2.2.2.2.2.2.2 = y.2.2.2.2.2.2.2.2.2 := by
  obtain ⟨a, b, c, d, ⟨e, f, g⟩, i, j, k, l, m⟩ := x; obtain ⟨a', b', c', d', ⟨e', f', g'⟩, i', j', k', l', m'⟩ := y
  simp only [Prod.mk.injEq] at h ⊢
  refine Classical.byContradiction fun hn => h ?_
  simp only [not_or, Classical.not_not] at hn
  obtain ⟨h1, h2, h3, h4, h5, h6, h7, h8⟩ := hn
  exact ⟨h1, h2, h3, h4, ⟨h5, h6, h7⟩, h8⟩

theorem f87 (l w : List Ed) (hl : l.length < 1000000) : F87 [⟨.sl EdT, l⟩, ⟨.sl EdT, w⟩] = some [⟨.bool, decide (l = w)⟩] := by
  simp only [F87, Fof, ir87]
  by_cases hlen : l.length = w.length
  · have hlen' : (l.length : Int) = w.length := by omega
    simp -implicitDefEqProofs [hlen']
    refine (iter_meas (fun s : Int => (l.length - s).toNat) (fun s => ([⟨.bool, decide (l.drop s.toNat = w.drop s.toNat)⟩] : List D)) (fun s => 0 ≤ s ∧ s ≤ l.length) (by exact ⟨by omega, by omega⟩) ?_).trans (by simp)
    rintro i ⟨h1, h2⟩
    by_cases hi : i < w.length
    · rw [dropI h1 (by omega), dropI (l := w) h1 (by omega)]
      have g1 := getG (l := l) (d := dflt EdT) h1 (by omega)
      have g2 := getG (l := w) (d := dflt EdT) h1 (by omega)
      have b1 : 0 ≤ i ∧ i < (w.length : Int) := ⟨h1, hi⟩
      have wi : IntKind.i64.wrap (i + 1) = i + 1 := wi64 _ (by omega) (by omega)
      generalize hcx : l[i.toNat]'(by omega) = x at *
      generalize hcy : w[i.toNat]'(by omega) = y at *
      by_cases he : x = y
      · subst he
        refine .inl ⟨i + 1, ?_, ⟨by omega, by omega⟩, by omega, by simp⟩
        simp -implicitDefEqProofs [hlen', hi, b1, g1, g2, hcx, hcy, wi]
      · refine .inr ?_
        have hne := ed_ne he
        have hne2 : ¬ (x :: l.drop (i + 1).toNat : List Ed) = y :: w.drop (i + 1).toNat := fun e => he (List.cons.inj e).1
        rw [decide_eq_false hne2]
        simp -implicitDefEqProofs [hlen', hi, b1, g1, g2, hcx, hcy, hne]
    · refine .inr ?_
      rw [List.drop_eq_nil_of_le (by omega), List.drop_eq_nil_of_le (by omega)]
      simp -implicitDefEqProofs [hi]
  · have hlen' : ¬ (l.length : Int) = w.length := by omega
    have hne : ¬ l = w := fun e => hlen (by rw [e])
    rw [decide_eq_false hne]
    simp -implicitDefEqProofs [hlen']
theorem s87 {lc : List Ct} (hl0 : look (lc.map fun c => (c.sig.id, c)) 87 = some c87) : ∀ (l w : List Ed) (hl : l.length < 1000000), Does1 (Phi lc) 87 [⟨.sl EdT, l⟩, ⟨.sl EdT, w⟩] [⟨.bool, decide (l = w)⟩] :=
  fun l w hl => by
    have eFc : c87.F = F87 := rfl
    have eFh := f87 l w hl
    rw [← eFc] at eFh
    exact Does1.of hl0 eFh rfl
theorem f40 (l w : List Ed) (hl : l.length < 1000000) : F40 [⟨.sl EdT, l⟩, ⟨.sl EdT, w⟩] = some [⟨.bool, decide (l = w)⟩] := by
  have h87 := s87 (lc := [c87]) rfl
  simp only [F40, Fof, ir40]
  generalize Phi [c87] = Φ at *
  have k := h87 l w hl
  simp -implicitDefEqProofs [k]
theorem s40 {lc : List Ct} (hl0 : look (lc.map fun c => (c.sig.id, c)) 40 = some c40) : ∀ (l w : List Ed) (hl : l.length < 1000000), Does1 (Phi lc) 40 [⟨.sl EdT, l⟩, ⟨.sl EdT, w⟩] [⟨.bool, decide (l = w)⟩] :=
  fun l w hl => by
    have eFc : c40.F = F40 := rfl
    have eFh := f40 l w hl
    rw [← eFc] at eFh
    exact Does1.of hl0 eFh rfl
theorem f41 (l w : List Ed) (hl : l.length < 1000000) : F41 [⟨.sl EdT, l⟩, ⟨.sl EdT, w⟩] = some [⟨.bool, decide (l = w)⟩] := by
  simp only [F41, Fof, ir41]
  by_cases hlen : l.length = w.length
  · have hlen' : (l.length : Int) = w.length := by omega
    simp -implicitDefEqProofs [hlen']
    refine (iter_meas (fun s : Int => (l.length - s).toNat) (fun s => ([⟨.bool, decide (l.drop s.toNat = w.drop s.toNat)⟩] : List D)) (fun s => 0 ≤ s ∧ s ≤ l.length) (by exact ⟨by omega, by omega⟩) ?_).trans (by simp)
    rintro i ⟨h1, h2⟩
    by_cases hi : i < w.length
    · rw [dropI h1 (by omega), dropI (l := w) h1 (by omega)]
      have g1 := getG (l := l) (d := dflt EdT) h1 (by omega)
      have g2 := getG (l := w) (d := dflt EdT) h1 (by omega)
      have b1 : 0 ≤ i ∧ i < (w.length : Int) := ⟨h1, hi⟩
      have wi : IntKind.i64.wrap (i + 1) = i + 1 := wi64 _ (by omega) (by omega)
      generalize hcx : l[i.toNat]'(by omega) = x at *
      generalize hcy : w[i.toNat]'(by omega) = y at *
      by_cases he : x = y
      · subst he
        refine .inl ⟨i + 1, ?_, ⟨by omega, by omega⟩, by omega, by simp⟩
        simp -implicitDefEqProofs [hlen', hi, b1, g1, g2, hcx, hcy, wi]
      · refine .inr ?_
        have hne := ed_ne he
        have hne2 : ¬ (x :: l.drop (i + 1).toNat : List Ed) = y :: w.drop (i + 1).toNat := fun e => he (List.cons.inj e).1
        rw [decide_eq_false hne2]
        simp -implicitDefEqProofs [hlen', hi, b1, g1, g2, hcx, hcy, hne]
    · refine .inr ?_
      rw [List.drop_eq_nil_of_le (by omega), List.drop_eq_nil_of_le (by omega)]
      simp -implicitDefEqProofs [hi]
  · have hlen' : ¬ (l.length : Int) = w.length := by omega
    have hne : ¬ l = w := fun e => hlen (by rw [e])
    rw [decide_eq_false hne]
    simp -implicitDefEqProofs [hlen']
theorem s41 {lc : List Ct} (hl0 : look (lc.map fun c => (c.sig.id, c)) 41 = some c41) : ∀ (l w : List Ed) (hl : l.length < 1000000), Does1 (Phi lc) 41 [⟨.sl EdT, l⟩, ⟨.sl EdT, w⟩] [⟨.bool, decide (l = w)⟩] :=
  fun l w hl => by
    have eFc : c41.F = F41 := rfl
    have eFh := f41 l w hl
    rw [← eFc] at eFh
    exact Does1.of hl0 eFh rfl
abbrev Ed.f (e : Ed) : List Int := e.2.2.2.2.2.2.2.2.1
abbrev Ed.l (e : Ed) : List Int := e.2.2.2.2.2.2.2.2.2
def lightE (l : List Ed) : Bool := decide (l.length ≤ 40) && l.all fun x ↦ decide (x.f.length ≤ 200 ∧ x.l.length ≤ 200)

theorem f35 (l : List Ed) : F35 [⟨.sl EdT, l⟩] = some [⟨.bool, lightE l⟩] := by
  simp only [F35, Fof, ir35]
  simp -implicitDefEqProofs []
  refine (iter_meas (fun s : Int => (l.length - s).toNat) (fun s => ([⟨.bool, decide (l.length ≤ 40) && (l.drop s.toNat).all fun x ↦ decide (x.f.length ≤ 200 ∧ x.l.length ≤ 200)⟩] : List D)) (fun s => 0 ≤ s ∧ s ≤ l.length) (by exact ⟨by omega, by omega⟩) ?_).trans (by simp [lightE])
  rintro i ⟨h1, h2⟩
  by_cases hi : i < l.length
  · by_cases h40 : i ≤ 40
    · have g1 := getG (l := l) (d := dflt EdT) h1 hi
      have b1 : 0 ≤ i ∧ i < (l.length : Int) := ⟨h1, hi⟩
      have wi : IntKind.i64.wrap (i + 1) = i + 1 := wi64 _ (by omega) (by omega)
      rw [dropI h1 hi]
      generalize hcx : l[i.toNat]'(by omega) = x at *
      by_cases c1 : x.f.length ≤ 200
      · have c1' : ¬ (200 : Int) < x.f.length := by omega
        by_cases c2 : x.l.length ≤ 200
        · have c2' : ¬ (200 : Int) < x.l.length := by omega
          refine .inl ⟨i + 1, ?_, ⟨by omega, by omega⟩, by omega, by simp [c1, c2]⟩
          simp -implicitDefEqProofs [hi, h40, b1, g1, hcx, c1', c2', wi]
        · have c2' : (200 : Int) < x.l.length := by omega
          refine .inr ?_
          simp -implicitDefEqProofs [hi, h40, b1, g1, hcx, c1', c2', c2]
      · have c1' : (200 : Int) < x.f.length := by omega
        refine .inr ?_
        simp -implicitDefEqProofs [hi, h40, b1, g1, hcx, c1', c1]
    · refine .inr ?_
      have e1 : ¬ l.length ≤ 40 := by omega
      have e2 : ¬ (l.length : Int) ≤ 40 := by omega
      simp -implicitDefEqProofs [hi, h40, e1, e2]
  · refine .inr ?_
    rw [List.drop_eq_nil_of_le (by omega)]
    by_cases e1 : l.length ≤ 40
    · have e2 : (l.length : Int) ≤ 40 := by omega
      simp -implicitDefEqProofs [hi, e1, e2]
    · have e2 : ¬ (l.length : Int) ≤ 40 := by omega
      simp -implicitDefEqProofs [hi, e1, e2]
theorem s35 {lc : List Ct} (hl0 : look (lc.map fun c => (c.sig.id, c)) 35 = some c35) : ∀ (l : List Ed), Does1 (Phi lc) 35 [⟨.sl EdT, l⟩] [⟨.bool, lightE l⟩] :=
  fun l => by
    have eFc : c35.F = F35 := rfl
    have eFh := f35 l
    rw [← eFc] at eFh
    exact Does1.of hl0 eFh rfl
end Go.Proofs.Ytdjknicjnaiomaa.Sx

set_option maxHeartbeats 1600000
/- Edits' bytes by the reference. -/
namespace Go.Proofs.Ytdjknicjnaiomaa.Sx
attribute [local simp ↓] den_start deb_op deb_ret deb_jump deb_itev deb_itel deb_loop deb_fail deb_nilcv
attribute [local simp] nilE_some opE_some debP_nil debP_cons pushL_nil pushL_cons retE_some iteE_some evB_nil evB_v evB_l lkE_cons consE_some d_int d_bool d_str d_nil o_add o_sub o_mul o_and o_or o_xor o_andNot o_quo o_rem o_shl o_shr o_eql o_neq o_lss o_leq o_gtr o_geq o_seql o_sneq o_slss o_sleq o_sgtr o_sgeq o_beql o_bneq o_scat o_not o_neg o_com o_conv o_s2b o_b2s o_len o_slen o_inb o_idx o_sidx o_sub3 o_sub2 o_ssub3 o_ssub2 o_app o_apps o_mk mkE_some consD_some mkD_zero mkD_int mkD_str mkD_sl o_imin o_imax o_smin o_smax o_eqs eqsE_some eqC_nil andE_some eqC_int eqC_bool eqC_str j1 outE_some outE_none outE_ite agE_1 loopE_1 agE_2 loopE_2 agE_3 loopE_3 agE_4 loopE_4 agE_5 loopE_5 agE_6 loopE_6 agE_7 loopE_7 agE_8 loopE_8 agE_9 loopE_9 List.cons_append List.nil_append List.append_nil split List.take_succ_cons List.take_zero List.drop_succ_cons List.drop_zero

def textL (s : List Int) : List Int := putL [(s.length : Int)] ++ s
def numOf (x1 x2 x3 x4 x5 x6 x7 x8 x9 : Int) (c : Int) : List Int :=
  if c = 78 then [x1] else if c = 73 then [x2] else if c = 84 then [x3] else if c = 72 then [x4, x5, x6] else if c = 66 then [x7, x8, x9] else []
theorem numOf_len (x1 x2 x3 x4 x5 x6 x7 x8 x9 c : Int) : (numOf x1 x2 x3 x4 x5 x6 x7 x8 x9 c).length ≤ 3 := by
  unfold numOf
  repeat' split
  all_goals simp
def numsL (k x1 x2 x3 x4 x5 x6 x7 x8 x9 : Int) : List Int := (partsL k).flatMap (numOf x1 x2 x3 x4 x5 x6 x7 x8 x9)
theorem partsL_len (k : Int) : (partsL k).length ≤ 4 := by
  unfold partsL
  split
  · simp
  · split
    · simp
    · have : k = 1 ∨ k = 2 ∨ k = 3 ∨ k = 4 ∨ k = 5 ∨ k = 6 ∨ k = 7 ∨ k = 8 ∨ k = 9 := by omega
      rcases this with rfl | rfl | rfl | rfl | rfl | rfl | rfl | rfl | rfl <;> decide

theorem f86 (s : List Int) (hl : s.length < 1000000) : F86 [⟨.str, s⟩] = some [⟨.sl (.int .u8), textL s⟩] := by
  have h66 := s66 (lc := [c66]) rfl
  simp only [F86, Fof, ir86]
  generalize Phi [c66] = Φ at *
  have w : IntKind.u64.wrap (s.length : Int) = s.length := wu64 _ (by omega) (by omega)
  have k := h66 [(s.length : Int)] (by simp; omega) (by simp)
  have hmk : mkD (Ty.int IntKind.u64) 1 [⟨.int .u64, (s.length : Int)⟩] = some ⟨.sl (.int .u64), [(s.length : Int)]⟩ := rfl
  have hp := putL_len [(s.length : Int)] (by simp; omega)
  simp only [List.length_cons, List.length_nil] at hp
  have hb : (putL [(s.length : Int)]).length + s.length ≤ BIG := by simp only [BIG]; omega
  simp -implicitDefEqProofs [w, hmk, k, hb, textL]
theorem s86 {lc : List Ct} (hl0 : look (lc.map fun c => (c.sig.id, c)) 86 = some c86) : ∀ (s : List Int) (hl : s.length < 1000000), Does1 (Phi lc) 86 [⟨.str, s⟩] [⟨.sl (.int .u8), textL s⟩] :=
  fun s hl => by
    have eFc : c86.F = F86 := rfl
    have eFh := f86 s hl
    rw [← eFc] at eFh
    exact Does1.of hl0 eFh rfl
theorem f128 (s : List Int) (hl : s.length < 1000000) : F128 [⟨.str, s⟩] = some [⟨.sl (.int .u8), textL s⟩] := by
  have h71 := s71 (lc := [c71]) rfl
  simp only [F128, Fof, ir128]
  generalize Phi [c71] = Φ at *
  have w : IntKind.u64.wrap (s.length : Int) = s.length := wu64 _ (by omega) (by omega)
  have k := h71 (s.length : Int) ⟨by omega, by omega⟩
  have hp := one_len10 s.length (by omega)
  have hb : (one s.length).length + s.length ≤ BIG := by simp only [BIG]; omega
  have e : textL s = one s.length ++ s := by simp [textL, putL]
  rw [Int.toNat_natCast] at k
  rw [e]
  simp -implicitDefEqProofs [w, k, hb]
theorem s128 {lc : List Ct} (hl0 : look (lc.map fun c => (c.sig.id, c)) 128 = some c128) : ∀ (s : List Int) (hl : s.length < 1000000), Does1 (Phi lc) 128 [⟨.str, s⟩] [⟨.sl (.int .u8), textL s⟩] :=
  fun s hl => by
    have eFc : c128.F = F128 := rfl
    have eFh := f128 s hl
    rw [← eFc] at eFh
    exact Does1.of hl0 eFh rfl
theorem f127 (k x1 x2 x3 x4 x5 x6 x7 x8 x9 : Int) (x10 x11 : List Int) : F127 [⟨.int .i64, k⟩, ⟨.int .i64, x1⟩, ⟨.int .i64, x2⟩, ⟨.int .i64, x3⟩, ⟨.int .i64, x4⟩, ⟨.int .i64, x5⟩, ⟨.int .i64, x6⟩, ⟨.int .i64, x7⟩, ⟨.int .i64, x8⟩, ⟨.int .i64, x9⟩, ⟨.str, x10⟩, ⟨.str, x11⟩] = some [⟨.sl (.int .u64), (numsL k x1 x2 x3 x4 x5 x6 x7 x8 x9).map IntKind.u64.wrap⟩] := by
  have h80 := s80 (lc := [c80]) rfl
  simp only [F127, Fof, ir127]
  generalize Phi [c80] = Φ at *
  have h80 := h80 k
  have hP := partsL_len k
  unfold numsL
  generalize partsL k = P at *
  have m0 : mkD (Ty.int IntKind.i64) 0 [] = some ⟨.sl (.int .i64), []⟩ := rfl
  have m1 : ∀ x : Int, mkD (Ty.int IntKind.i64) 1 [⟨.int .i64, x⟩] = some ⟨.sl (.int .i64), [x]⟩ := fun _ => rfl
  have m3 : ∀ x y z : Int, mkD (Ty.int IntKind.i64) 3 [⟨.int .i64, x⟩, ⟨.int .i64, y⟩, ⟨.int .i64, z⟩] = some ⟨.sl (.int .i64), [x, y, z]⟩ := fun _ _ _ => rfl
  have n0 : mkD (Ty.int IntKind.u64) 0 [] = some ⟨.sl (.int .u64), []⟩ := rfl
  have n1 : ∀ x : Int, mkD (Ty.int IntKind.u64) 1 [⟨.int .u64, x⟩] = some ⟨.sl (.int .u64), [x]⟩ := fun _ => rfl
  simp -implicitDefEqProofs [h80, m0]
  refine (iter_meas (fun s : List Int × Int => (P.length - s.2).toNat) (fun s => ([⟨.sl (.int .u64), (s.1 ++ (P.drop s.2.toNat).flatMap (numOf x1 x2 x3 x4 x5 x6 x7 x8 x9)).map IntKind.u64.wrap⟩] : List D))
    (fun s => 0 ≤ s.2 ∧ s.2 ≤ P.length ∧ s.1.length ≤ 3 * s.2.toNat) ?_ ?_).trans (by simp)
  · exact ⟨by simp, by simp, by simp⟩
  rintro ⟨b, i⟩ ⟨h1, h2, h3⟩
  simp only at h1 h2 h3 ⊢
  by_cases hi : i < P.length
  · have g1 := getI (l := P) (d := (0 : Int)) h1 hi
    have b1 : 0 ≤ i ∧ i < (P.length : Int) := ⟨h1, hi⟩
    have wi : IntKind.i64.wrap (i + 1) = i + 1 := wi64 _ (by omega) (by omega)
    rw [dropI h1 hi]
    generalize hcx : P[i.toNat]'(by omega) = c at *
    have B1 : b.length + 1 ≤ BIG := by simp only [BIG]; omega
    have B3 : b.length + 3 ≤ BIG := by simp only [BIG]; omega
    refine .inl ⟨(b ++ numOf x1 x2 x3 x4 x5 x6 x7 x8 x9 c, i + 1), ?_, ⟨by (try simp only); omega, by (try simp only); omega, ?_⟩, by (try simp only); omega, ?_⟩
    · unfold numOf
      by_cases e1 : c = 78
      · simp -implicitDefEqProofs [hi, b1, g1, hcx, wi, B1, B3, m1, m3, e1]
      by_cases e2 : c = 73
      · simp -implicitDefEqProofs [hi, b1, g1, hcx, wi, B1, B3, m1, m3, e2]
      by_cases e3 : c = 84
      · simp -implicitDefEqProofs [hi, b1, g1, hcx, wi, B1, B3, m1, m3, e3]
      by_cases e4 : c = 72
      · simp -implicitDefEqProofs [hi, b1, g1, hcx, wi, B1, B3, m1, m3, e4]
      by_cases e5 : c = 66
      · simp -implicitDefEqProofs [hi, b1, g1, hcx, wi, B1, B3, m1, m3, e5]
      simp -implicitDefEqProofs [hi, b1, g1, hcx, wi, B1, B3, m1, m3, e1, e2, e3, e4, e5]
    · have := numOf_len x1 x2 x3 x4 x5 x6 x7 x8 x9 c
      simp only [List.length_append]
      omega
    · simp [List.flatMap_cons, List.append_assoc]
  · refine .inr ?_
    rw [List.drop_eq_nil_of_le (by omega)]
    simp -implicitDefEqProofs [hi, n0]
    refine (iter_meas (fun s : List Int × Int => (b.length - s.2).toNat) (fun s => (LS.out [⟨.sl (.int .u64), s.1 ++ (b.drop s.2.toNat).map IntKind.u64.wrap⟩] : LS (List Int × Int) (List D)))
      (fun s => 0 ≤ s.2 ∧ s.2 ≤ b.length ∧ s.1.length ≤ s.2.toNat) ?_ ?_).trans (by simp)
    · exact ⟨by simp, by simp, by simp⟩
    rintro ⟨d, j⟩ ⟨k1, k2, k3⟩
    simp only at k1 k2 k3 ⊢
    by_cases hj : j < b.length
    · have g1 := getI (l := b) (d := dflt (Ty.int IntKind.i64)) k1 hj
      have b1 : 0 ≤ j ∧ j < (b.length : Int) := ⟨k1, hj⟩
      have wj : IntKind.i64.wrap (j + 1) = j + 1 := wi64 _ (by omega) (by omega)
      rw [dropI k1 hj]
      generalize hcx : b[j.toNat]'(by omega) = c at *
      have B1 : d.length + 1 ≤ BIG := by simp only [BIG]; omega
      refine .inl ⟨(d ++ [IntKind.u64.wrap c], j + 1), ?_, ⟨by (try simp only); omega, by (try simp only); omega, by simp; omega⟩, by (try simp only); omega, by simp⟩
      simp -implicitDefEqProofs [hj, b1, g1, hcx, wj, B1, n1]
    · refine .inr ?_
      rw [List.drop_eq_nil_of_le (by omega)]
      simp -implicitDefEqProofs [hj]
theorem s127 {lc : List Ct} (hl0 : look (lc.map fun c => (c.sig.id, c)) 127 = some c127) : ∀ (k x1 x2 x3 x4 x5 x6 x7 x8 x9 : Int) (x10 x11 : List Int), Does1 (Phi lc) 127 [⟨.int .i64, k⟩, ⟨.int .i64, x1⟩, ⟨.int .i64, x2⟩, ⟨.int .i64, x3⟩, ⟨.int .i64, x4⟩, ⟨.int .i64, x5⟩, ⟨.int .i64, x6⟩, ⟨.int .i64, x7⟩, ⟨.int .i64, x8⟩, ⟨.int .i64, x9⟩, ⟨.str, x10⟩, ⟨.str, x11⟩] [⟨.sl (.int .u64), (numsL k x1 x2 x3 x4 x5 x6 x7 x8 x9).map IntKind.u64.wrap⟩] :=
  fun k x1 x2 x3 x4 x5 x6 x7 x8 x9 x10 x11 => by
    have eFc : c127.F = F127 := rfl
    have eFh := f127 k x1 x2 x3 x4 x5 x6 x7 x8 x9 x10 x11
    rw [← eFc] at eFh
    exact Does1.of hl0 eFh rfl
end Go.Proofs.Ytdjknicjnaiomaa.Sx

set_option maxHeartbeats 1600000
/- Edits' bytes. -/
namespace Go.Proofs.Ytdjknicjnaiomaa.Sx
attribute [local simp ↓] den_start deb_op deb_ret deb_jump deb_itev deb_itel deb_loop deb_fail deb_nilcv
attribute [local simp] nilE_some opE_some debP_nil debP_cons pushL_nil pushL_cons retE_some iteE_some evB_nil evB_v evB_l lkE_cons consE_some d_int d_bool d_str d_nil o_add o_sub o_mul o_and o_or o_xor o_andNot o_quo o_rem o_shl o_shr o_eql o_neq o_lss o_leq o_gtr o_geq o_seql o_sneq o_slss o_sleq o_sgtr o_sgeq o_beql o_bneq o_scat o_not o_neg o_com o_conv o_s2b o_b2s o_len o_slen o_inb o_idx o_sidx o_sub3 o_sub2 o_ssub3 o_ssub2 o_app o_apps o_mk mkE_some consD_some mkD_zero mkD_int mkD_str mkD_sl o_imin o_imax o_smin o_smax o_eqs eqsE_some eqC_nil andE_some eqC_int eqC_bool eqC_str j1 outE_some outE_none outE_ite agE_1 loopE_1 agE_2 loopE_2 agE_3 loopE_3 agE_4 loopE_4 agE_5 loopE_5 agE_6 loopE_6 agE_7 loopE_7 agE_8 loopE_8 agE_9 loopE_9 List.cons_append List.nil_append List.append_nil split List.take_succ_cons List.take_zero List.drop_succ_cons List.drop_zero

theorem cnt_rng {n : Int} {z : Bool} (h : cntB n z = true) : 0 ≤ n ∧ n ≤ 2147483647 := by
  simp only [cntB, cnt, Bool.or_eq_true, decide_eq_true_eq, Bool.and_eq_true] at h; omega

structure EdR (k x1 x2 x3 x4 x5 x6 x7 x8 x9 : Int) (x10 x11 : List Int) : Prop where
  k1 : 1 ≤ k ∧ k ≤ 9
  r1 : 0 ≤ x1 ∧ x1 ≤ 2147483647
  r2 : 0 ≤ x2 ∧ x2 ≤ 2147483647
  r3 : 0 ≤ x3 ∧ x3 ≤ 2147483647
  r4 : 0 ≤ x4 ∧ x4 ≤ 2147483647
  r5 : 0 ≤ x5 ∧ x5 ≤ 2147483647
  r6 : 0 ≤ x6 ∧ x6 ≤ 2147483647
  r7 : 0 ≤ x7 ∧ x7 ≤ 2147483647
  r8 : 0 ≤ x8 ∧ x8 ≤ 2147483647
  r9 : 0 ≤ x9 ∧ x9 ≤ 2147483647
  l10 : x10.length ≤ 64
  l11 : x11.length ≤ 64

theorem edOk_rng {k x1 x2 x3 x4 x5 x6 x7 x8 x9 : Int} {x10 x11 : List Int} (h : edOk k x1 x2 x3 x4 x5 x6 x7 x8 x9 x10 x11 = true) : EdR k x1 x2 x3 x4 x5 x6 x7 x8 x9 x10 x11 := by
  unfold edOk at h
  simp only [Bool.and_eq_true] at h
  obtain ⟨⟨⟨⟨⟨h1, h2⟩, h3⟩, h4⟩, h5⟩, h6⟩ := h
  have a1 : (1 ≤ k ∧ k ≤ 9) ∧ 0 ≤ x1 ∧ x1 ≤ 2147483647 := by
    split at h1
    · exact ⟨by omega, cnt_rng h1⟩
    · simp only [decide_eq_true_eq] at h1; omega
  have a2 : 0 ≤ x2 ∧ x2 ≤ 2147483647 := by
    split at h2
    · exact cnt_rng h2
    · simp only [decide_eq_true_eq] at h2; omega
  have a3 : 0 ≤ x3 ∧ x3 ≤ 2147483647 := by
    split at h3
    · exact cnt_rng h3
    · simp only [decide_eq_true_eq] at h3; omega
  have a5 : (0 ≤ x4 ∧ x4 ≤ 2147483647) ∧ (0 ≤ x5 ∧ x5 ≤ 2147483647) ∧ (0 ≤ x6 ∧ x6 ≤ 2147483647) := by
    split at h5
    · simp only [Bool.and_eq_true] at h5
      exact ⟨cnt_rng h5.1.1, cnt_rng h5.1.2, cnt_rng h5.2⟩
    · simp only [decide_eq_true_eq] at h5; omega
  have a6 : (0 ≤ x7 ∧ x7 ≤ 2147483647) ∧ (0 ≤ x8 ∧ x8 ≤ 2147483647) ∧ (0 ≤ x9 ∧ x9 ≤ 2147483647) ∧ x10.length ≤ 64 ∧ x11.length ≤ 64 := by
    split at h6
    · simp only [tabOk, cnt, Bool.and_eq_true, decide_eq_true_eq] at h6
      omega
    · simp only [decide_eq_true_eq] at h6
      obtain ⟨e1, e2, e3, rfl, rfl⟩ := h6
      simp; omega
  exact ⟨a1.1, a1.2, a2, a3, a5.1, a5.2.1, a5.2.2, a6.1, a6.2.1, a6.2.2.1, a6.2.2.2.1, a6.2.2.2.2⟩

def encC (k x1 x2 x3 x4 x5 x6 x7 x8 x9 : Int) (x10 x11 : List Int) : List Int :=
  k :: (putL (numsL k x1 x2 x3 x4 x5 x6 x7 x8 x9) ++ if k = 4 then textL x10 ++ textL x11 else [])
def encE (e : Ed) : List Int := encC e.1 e.2.1 e.2.2.1 e.2.2.2.1 e.2.2.2.2.1.1 e.2.2.2.2.1.2.1 e.2.2.2.2.1.2.2 e.2.2.2.2.2.1 e.2.2.2.2.2.2.1 e.2.2.2.2.2.2.2.1 e.f e.l
def okE (e : Ed) : Bool := edOk e.1 e.2.1 e.2.2.1 e.2.2.2.1 e.2.2.2.2.1.1 e.2.2.2.2.1.2.1 e.2.2.2.2.1.2.2 e.2.2.2.2.2.1 e.2.2.2.2.2.2.1 e.2.2.2.2.2.2.2.1 e.f e.l
def encEs : List Ed → List Int
  | [] => []
  | e :: r => encE e ++ encEs r

theorem nums_rng {k x1 x2 x3 x4 x5 x6 x7 x8 x9 : Int} {x10 x11 : List Int} (h : EdR k x1 x2 x3 x4 x5 x6 x7 x8 x9 x10 x11) :
    (∀ u ∈ numsL k x1 x2 x3 x4 x5 x6 x7 x8 x9, 0 ≤ u ∧ u ≤ 2147483647) ∧ (numsL k x1 x2 x3 x4 x5 x6 x7 x8 x9).length ≤ 12 := by
  obtain ⟨k1, r1, r2, r3, r4, r5, r6, r7, r8, r9, _, _⟩ := h
  constructor
  · intro u hu
    unfold numsL at hu
    obtain ⟨c, _, hc⟩ := List.mem_flatMap.1 hu
    unfold numOf at hc
    repeat' split at hc
    all_goals simp only [List.mem_cons, List.not_mem_nil, or_false] at hc
    all_goals omega
  · have : k = 1 ∨ k = 2 ∨ k = 3 ∨ k = 4 ∨ k = 5 ∨ k = 6 ∨ k = 7 ∨ k = 8 ∨ k = 9 := by omega
    rcases this with rfl | rfl | rfl | rfl | rfl | rfl | rfl | rfl | rfl <;> simp [numsL, partsL, numOf]

theorem textL_len {s : List Int} (h : s.length ≤ 1000) : (textL s).length ≤ 10 + s.length := by
  have := putL_len [(s.length : Int)] (by simp; omega)
  simp only [textL, List.length_append, List.length_cons, List.length_nil] at *
  omega
theorem encC_len {k x1 x2 x3 x4 x5 x6 x7 x8 x9 : Int} {x10 x11 : List Int} (h : EdR k x1 x2 x3 x4 x5 x6 x7 x8 x9 x10 x11) : (encC k x1 x2 x3 x4 x5 x6 x7 x8 x9 x10 x11).length ≤ 300 := by
  obtain ⟨h1, h2⟩ := nums_rng h
  have := putL_len (numsL k x1 x2 x3 x4 x5 x6 x7 x8 x9) (fun u hu => by have := h1 u hu; omega)
  have t1 := textL_len (s := x10) (by have := h.l10; omega)
  have t2 := textL_len (s := x11) (by have := h.l11; omega)
  have := h.l10
  have := h.l11
  unfold encC
  split <;> simp only [List.length_cons, List.length_append, List.length_nil] <;> omega

theorem f88 (k x1 x2 x3 x4 x5 x6 x7 x8 x9 : Int) (x10 x11 : List Int) (ho : edOk k x1 x2 x3 x4 x5 x6 x7 x8 x9 x10 x11 = true) : F88 [⟨.int .i64, k⟩, ⟨.int .i64, x1⟩, ⟨.int .i64, x2⟩, ⟨.int .i64, x3⟩, ⟨.int .i64, x4⟩, ⟨.int .i64, x5⟩, ⟨.int .i64, x6⟩, ⟨.int .i64, x7⟩, ⟨.int .i64, x8⟩, ⟨.int .i64, x9⟩, ⟨.str, x10⟩, ⟨.str, x11⟩] = some [⟨.sl (.int .u8), encC k x1 x2 x3 x4 x5 x6 x7 x8 x9 x10 x11⟩] := by
  have h127 := s127 (lc := [c127, c120, c128]) rfl
  have h120 := s120 (lc := [c127, c120, c128]) rfl
  have h128 := s128 (lc := [c127, c120, c128]) rfl
  simp only [F88, Fof, ir88]
  generalize Phi [c127, c120, c128] = Φ at *
  have hr := edOk_rng ho
  obtain ⟨n1, n2⟩ := nums_rng hr
  have k127 := h127 k x1 x2 x3 x4 x5 x6 x7 x8 x9 x10 x11
  have hmap : (numsL k x1 x2 x3 x4 x5 x6 x7 x8 x9).map IntKind.u64.wrap = numsL k x1 x2 x3 x4 x5 x6 x7 x8 x9 := by
    conv => rhs; rw [← List.map_id (numsL k x1 x2 x3 x4 x5 x6 x7 x8 x9)]
    apply List.map_congr_left
    intro u hu
    have := n1 u hu
    exact wu64 u (by omega) (by omega)
  rw [hmap] at k127
  have t1 := textL_len (s := x10) (by have := hr.l10; omega)
  have t2 := textL_len (s := x11) (by have := hr.l11; omega)
  have l1 := hr.l10
  have l2 := hr.l11
  have k1 := hr.k1
  have ka := h128 x10 (by omega)
  have kb := h128 x11 (by omega)
  unfold encC
  have hpl := putL_len (numsL k x1 x2 x3 x4 x5 x6 x7 x8 x9) (fun u hu => by have := n1 u hu; omega)
  have k120 := h120 (numsL k x1 x2 x3 x4 x5 x6 x7 x8 x9) (fun u hu => by have := n1 u hu; omega) (by omega)
  generalize numsL k x1 x2 x3 x4 x5 x6 x7 x8 x9 = L at *
  generalize hT1 : textL x10 = T1 at *
  generalize hT2 : textL x11 = T2 at *
  generalize hPL : putL L = PL at *
  have wk : IntKind.u8.wrap k = k := by rw [wu8]; omega
  have m1 : ∀ x : Int, mkD (Ty.int IntKind.u8) 1 [⟨.int .u8, x⟩] = some ⟨.sl (.int .u8), [x]⟩ := fun _ => rfl
  have B1 : 1 + PL.length ≤ BIG := by simp only [BIG]; omega
  have B2 : PL.length + 1 + T1.length ≤ BIG := by simp only [BIG]; omega
  have B3 : PL.length + T1.length + 1 + T2.length ≤ BIG := by simp only [BIG]; omega
  by_cases h4 : k = 4
  · rw [if_pos h4]
    subst h4
    simp -implicitDefEqProofs [k127, k120, wk, m1, B1, B2, B3, ka, kb]
  · rw [if_neg h4]
    simp -implicitDefEqProofs [k127, k120, wk, m1, B1, h4]
theorem s88 {lc : List Ct} (hl0 : look (lc.map fun c => (c.sig.id, c)) 88 = some c88) : ∀ (k x1 x2 x3 x4 x5 x6 x7 x8 x9 : Int) (x10 x11 : List Int) (ho : edOk k x1 x2 x3 x4 x5 x6 x7 x8 x9 x10 x11 = true), Does1 (Phi lc) 88 [⟨.int .i64, k⟩, ⟨.int .i64, x1⟩, ⟨.int .i64, x2⟩, ⟨.int .i64, x3⟩, ⟨.int .i64, x4⟩, ⟨.int .i64, x5⟩, ⟨.int .i64, x6⟩, ⟨.int .i64, x7⟩, ⟨.int .i64, x8⟩, ⟨.int .i64, x9⟩, ⟨.str, x10⟩, ⟨.str, x11⟩] [⟨.sl (.int .u8), encC k x1 x2 x3 x4 x5 x6 x7 x8 x9 x10 x11⟩] :=
  fun k x1 x2 x3 x4 x5 x6 x7 x8 x9 x10 x11 ho => by
    have eFc : c88.F = F88 := rfl
    have eFh := f88 k x1 x2 x3 x4 x5 x6 x7 x8 x9 x10 x11 ho
    rw [← eFc] at eFh
    exact Does1.of hl0 eFh rfl
theorem f42 (l : List Ed) (hl : l.length ≤ 1000) (ho : ∀ e ∈ l, okE e = true) : F42 [⟨.sl EdT, l⟩] = some [⟨.sl (.int .u8), putL [(l.length : Int)] ++ encEs l⟩] := by
  have h71 := s71 (lc := [c71, c88]) rfl
  have h88 := s88 (lc := [c71, c88]) rfl
  simp only [F42, Fof, ir42]
  generalize Phi [c71, c88] = Φ at *
  have wl : IntKind.u64.wrap (l.length : Int) = l.length := wu64 _ (by omega) (by omega)
  have k71 := h71 (l.length : Int) ⟨by omega, by omega⟩
  have hp1 := one_len10 l.length (by omega)
  rw [Int.toNat_natCast] at k71
  have e0 : putL [(l.length : Int)] = one l.length := by simp [putL]
  rw [e0]
  simp -implicitDefEqProofs [wl, k71]
  refine (iter_meas (fun s : List Int × Int => (l.length - s.2).toNat) (fun s => ([⟨.sl (.int .u8), s.1 ++ encEs (l.drop s.2.toNat)⟩] : List D))
    (fun s => 0 ≤ s.2 ∧ s.2 ≤ l.length ∧ s.1.length ≤ 10 + 300 * s.2.toNat) ?_ ?_).trans (by simp)
  · exact ⟨by simp, by simp, by simpa using hp1⟩
  rintro ⟨b, i⟩ ⟨h1, h2, h3⟩
  simp only at h1 h2 h3 ⊢
  by_cases hi : i < l.length
  · have g1 := getG (l := l) (d := dflt EdT) h1 hi
    have b1 : 0 ≤ i ∧ i < (l.length : Int) := ⟨h1, hi⟩
    have wi : IntKind.i64.wrap (i + 1) = i + 1 := wi64 _ (by omega) (by omega)
    have hx := ho (l[i.toNat]'(by omega)) (List.getElem_mem _)
    rw [dropI h1 hi]
    generalize hcx : l[i.toNat]'(by omega) = x at *
    have k88 := h88 _ _ _ _ _ _ _ _ _ _ _ _ hx
    have hen := encC_len (edOk_rng hx)
    have hB : b.length + (encE x).length ≤ BIG := by simp only [BIG, encE]; omega
    have k88' : Does1 Φ 88 [⟨.int .i64, x.1⟩, ⟨.int .i64, x.2.1⟩, ⟨.int .i64, x.2.2.1⟩, ⟨.int .i64, x.2.2.2.1⟩, ⟨.int .i64, x.2.2.2.2.1.1⟩, ⟨.int .i64, x.2.2.2.2.1.2.1⟩, ⟨.int .i64, x.2.2.2.2.1.2.2⟩, ⟨.int .i64, x.2.2.2.2.2.1⟩, ⟨.int .i64, x.2.2.2.2.2.2.1⟩, ⟨.int .i64, x.2.2.2.2.2.2.2.1⟩, ⟨.str, x.f⟩, ⟨.str, x.l⟩] [⟨.sl (.int .u8), encE x⟩] := k88
    refine .inl ⟨(b ++ encE x, i + 1), ?_, ⟨by (try simp only); omega, by (try simp only); omega, ?_⟩, by (try simp only); omega, by simp [encEs]⟩
    · simp -implicitDefEqProofs [hi, b1, g1, hcx, wi, k88', hB]
    · simp only [List.length_append, encE]; omega
  · refine .inr ?_
    rw [List.drop_eq_nil_of_le (by omega)]
    simp -implicitDefEqProofs [hi, encEs]
theorem s42 {lc : List Ct} (hl0 : look (lc.map fun c => (c.sig.id, c)) 42 = some c42) : ∀ (l : List Ed) (hl : l.length ≤ 1000) (ho : ∀ e ∈ l, okE e = true), Does1 (Phi lc) 42 [⟨.sl EdT, l⟩] [⟨.sl (.int .u8), putL [(l.length : Int)] ++ encEs l⟩] :=
  fun l hl ho => by
    have eFc : c42.F = F42 := rfl
    have eFh := f42 l hl ho
    rw [← eFc] at eFh
    exact Does1.of hl0 eFh rfl
end Go.Proofs.Ytdjknicjnaiomaa.Sx

set_option maxHeartbeats 4000000
/- Edits put; the law EditPuts. -/
namespace Go.Proofs.Ytdjknicjnaiomaa.Sx
attribute [local simp ↓] den_start deb_op deb_ret deb_jump deb_itev deb_itel deb_loop deb_fail deb_nilcv
attribute [local simp] nilE_some opE_some debP_nil debP_cons pushL_nil pushL_cons retE_some iteE_some evB_nil evB_v evB_l lkE_cons consE_some d_int d_bool d_str d_nil o_add o_sub o_mul o_and o_or o_xor o_andNot o_quo o_rem o_shl o_shr o_eql o_neq o_lss o_leq o_gtr o_geq o_seql o_sneq o_slss o_sleq o_sgtr o_sgeq o_beql o_bneq o_scat o_not o_neg o_com o_conv o_s2b o_b2s o_len o_slen o_inb o_idx o_sidx o_sub3 o_sub2 o_ssub3 o_ssub2 o_app o_apps o_mk mkE_some consD_some mkD_zero mkD_int mkD_str mkD_sl o_imin o_imax o_smin o_smax o_eqs eqsE_some eqC_nil andE_some eqC_int eqC_bool eqC_str j1 outE_some outE_none outE_ite agE_1 loopE_1 agE_2 loopE_2 agE_3 loopE_3 agE_4 loopE_4 agE_5 loopE_5 agE_6 loopE_6 agE_7 loopE_7 agE_8 loopE_8 agE_9 loopE_9 List.cons_append List.nil_append List.append_nil split List.take_succ_cons List.take_zero List.drop_succ_cons List.drop_zero

theorem bigpos {n : Nat} {α : Type} {a b : α} (h : n ≤ BIG) : (if n ≤ BIG then a else b) = a := if_pos h
def putE (l : List Ed) : List Int := putL [(l.length : Int)] ++ encEs l
def mayE (l : List Ed) : Bool := decide (1 ≤ l.length ∧ l.length ≤ 200) && l.all okE

def resE (l : List Ed) (b : Bool) : List D := [⟨.sl (.int .u8), if b = true then putE l else []⟩, ⟨.int .i64, if b = true then 0 else 1⟩]
theorem f39 (l : List Ed) : F39 [⟨.sl EdT, l⟩] = some (resE l (mayE l)) := by
  have h37 := s37 (lc := [c37, c66, c86]) rfl
  have h66 := s66 (lc := [c37, c66, c86]) rfl
  have h86 := s86 (lc := [c37, c66, c86]) rfl
  simp only [F39, Fof, ir39]
  generalize Phi [c37, c66, c86] = Φ at *
  have hBIG : BIG = 549755813888 := rfl
  by_cases c1 : (l.length : Int) < 1
  · have e : mayE l = false := by unfold mayE; rw [decide_eq_false (by omega), Bool.false_and]
    simp -implicitDefEqProofs [c1, e, resE]
  by_cases c2 : 200 < (l.length : Int)
  · have e : mayE l = false := by unfold mayE; rw [decide_eq_false (by omega), Bool.false_and]
    simp -implicitDefEqProofs [c1, c2, e, resE]
  have e0 : mayE l = l.all okE := by unfold mayE; rw [decide_eq_true (by omega), Bool.true_and]
  rw [e0]
  simp -implicitDefEqProofs [c1, c2]
  refine (iter_meas (fun s : Int × Int => (l.length - s.2).toNat) (fun s => resE l ((l.drop s.2.toNat).all okE))
    (fun s => 0 ≤ s.2 ∧ s.2 ≤ l.length ∧ (l.take s.2.toNat).all okE = true) ?_ ?_).trans (by rw [show (0 : Int).toNat = 0 from rfl, List.drop_zero])
  · exact ⟨by simp, by simp, by simp⟩
  rintro ⟨s0, i⟩ ⟨h1, h2, h3⟩
  simp only at h1 h2 h3 ⊢
  by_cases hi : i < l.length
  · have g1 := getG (l := l) (d := dflt EdT) h1 hi
    have b1 : 0 ≤ i ∧ i < (l.length : Int) := ⟨h1, hi⟩
    have wi : IntKind.i64.wrap (i + 1) = i + 1 := wi64 _ (by omega) (by omega)
    have htk : l.take (i + 1).toNat = l.take i.toNat ++ [l[i.toNat]'(by omega)] := by rw [show (i + 1).toNat = i.toNat + 1 by omega, List.take_succ_eq_append_getElem (by omega)]
    rw [dropI h1 hi]
    generalize hcx : l[i.toNat]'(by omega) = x at *
    have k37 : Does1 Φ 37 [⟨.int .i64, x.1⟩, ⟨.int .i64, x.2.1⟩, ⟨.int .i64, x.2.2.1⟩, ⟨.int .i64, x.2.2.2.1⟩, ⟨.int .i64, x.2.2.2.2.1.1⟩, ⟨.int .i64, x.2.2.2.2.1.2.1⟩, ⟨.int .i64, x.2.2.2.2.1.2.2⟩, ⟨.int .i64, x.2.2.2.2.2.1⟩, ⟨.int .i64, x.2.2.2.2.2.2.1⟩, ⟨.int .i64, x.2.2.2.2.2.2.2.1⟩, ⟨.str, x.f⟩, ⟨.str, x.l⟩] [⟨.int .i64, if okE x = true then 0 else 1⟩] := h37 _ _ _ _ _ _ _ _ _ _ _ _
    cases ho : okE x
    · rw [ho] at k37
      refine .inr ?_
      simp -implicitDefEqProofs [hi, b1, g1, hcx, k37, c2, h1, ho, resE]
    · rw [ho] at k37
      refine .inl ⟨(s0, i + 1), ?_, ⟨by (try simp only); omega, by (try simp only); omega, ?_⟩, by (try simp only); omega, by simp only [List.all_cons, ho, Bool.true_and]⟩
      · simp -implicitDefEqProofs [hi, b1, g1, hcx, k37, wi]
      · simp only [htk, List.all_append, h3, ho, List.all_cons, List.all_nil, Bool.and_self]
  · refine .inr ?_
    have hall : ∀ e ∈ l, okE e = true := by
      rw [List.take_of_length_le (by omega)] at h3
      exact List.all_eq_true.1 h3
    rw [List.drop_eq_nil_of_le (by omega)]
    have wl : IntKind.u64.wrap (l.length : Int) = l.length := wu64 _ (by omega) (by omega)
    have m1 : ∀ x : Int, mkD (Ty.int IntKind.u8) 1 [⟨.int .u8, x⟩] = some ⟨.sl (.int .u8), [x]⟩ := fun _ => rfl
    have m2 : ∀ x : Int, mkD (Ty.int IntKind.u64) 1 [⟨.int .u64, x⟩] = some ⟨.sl (.int .u64), [x]⟩ := fun _ => rfl
    have kl := h66 [(l.length : Int)] (by simp; omega) (by simp)
    have hpl := putL_len [(l.length : Int)] (by simp; omega)
    simp only [List.length_cons, List.length_nil] at hpl
    have nn : ¬ (0 : Int) ≤ -1 := by omega
    simp -implicitDefEqProofs [hi, c2, wl, m2, kl, nn]
    refine (iter_meas (fun s : List Int × Int => (l.length - s.2).toNat) (fun s => (LS.out [⟨.sl (.int .u8), s.1 ++ encEs (l.drop s.2.toNat)⟩, ⟨.int .i64, 0⟩] : LS (Int × Int) (List D)))
      (fun s => 0 ≤ s.2 ∧ s.2 ≤ l.length ∧ s.1.length ≤ 10 + 300 * s.2.toNat) ?_ ?_).trans (by simp [putE, resE])
    · exact ⟨by simp, by simp, by simpa using hpl⟩
    rintro ⟨b, j⟩ ⟨j1, j2, j3⟩
    simp only at j1 j2 j3 ⊢
    by_cases hj : j < l.length
    · have g1 := getG (l := l) (d := dflt EdT) j1 hj
      have b1 : 0 ≤ j ∧ j < (l.length : Int) := ⟨j1, hj⟩
      have wj : IntKind.i64.wrap (j + 1) = j + 1 := wi64 _ (by omega) (by omega)
      have hx := hall (l[j.toNat]'(by omega)) (List.getElem_mem _)
      rw [dropI j1 hj]
      generalize hcx : l[j.toNat]'(by omega) = x at *
      have hr := edOk_rng hx
      have hen := encC_len hr
      refine .inl ⟨(b ++ encE x, j + 1), ?_, ⟨by (try simp only); omega, by (try simp only); omega, ?_⟩, by (try simp only); omega, by simp [encEs]⟩
      rotate_left
      · simp only [List.length_append, encE]; omega
      clear hen hx
      obtain ⟨k, x1, x2, x3, ⟨x4, x5, x6⟩, x7, x8, x9, x10, x11⟩ := x
      obtain ⟨hk, r1, r2, r3, r4, r5, r6, r7, r8, r9, l10, l11⟩ := hr
      simp only at hk r1 r2 r3 r4 r5 r6 r7 r8 r9 l10 l11
      have l10 : x10.length ≤ 64 := l10
      have l11 : x11.length ≤ 64 := l11
      have u1 : IntKind.u64.wrap x1 = x1 := wu64 _ (by omega) (by omega)
      have q1 := h66 [x1] (by simp; omega) (by simp)
      have p1 : (putL [x1]).length ≤ 10 := by have := putL_len [x1] (by simp; omega); simpa using this
      have u2 : IntKind.u64.wrap x2 = x2 := wu64 _ (by omega) (by omega)
      have q2 := h66 [x2] (by simp; omega) (by simp)
      have p2 : (putL [x2]).length ≤ 10 := by have := putL_len [x2] (by simp; omega); simpa using this
      have u3 : IntKind.u64.wrap x3 = x3 := wu64 _ (by omega) (by omega)
      have q3 := h66 [x3] (by simp; omega) (by simp)
      have p3 : (putL [x3]).length ≤ 10 := by have := putL_len [x3] (by simp; omega); simpa using this
      have u4 : IntKind.u64.wrap x4 = x4 := wu64 _ (by omega) (by omega)
      have q4 := h66 [x4] (by simp; omega) (by simp)
      have p4 : (putL [x4]).length ≤ 10 := by have := putL_len [x4] (by simp; omega); simpa using this
      have u5 : IntKind.u64.wrap x5 = x5 := wu64 _ (by omega) (by omega)
      have q5 := h66 [x5] (by simp; omega) (by simp)
      have p5 : (putL [x5]).length ≤ 10 := by have := putL_len [x5] (by simp; omega); simpa using this
      have u6 : IntKind.u64.wrap x6 = x6 := wu64 _ (by omega) (by omega)
      have q6 := h66 [x6] (by simp; omega) (by simp)
      have p6 : (putL [x6]).length ≤ 10 := by have := putL_len [x6] (by simp; omega); simpa using this
      have u7 : IntKind.u64.wrap x7 = x7 := wu64 _ (by omega) (by omega)
      have q7 := h66 [x7] (by simp; omega) (by simp)
      have p7 : (putL [x7]).length ≤ 10 := by have := putL_len [x7] (by simp; omega); simpa using this
      have u8 : IntKind.u64.wrap x8 = x8 := wu64 _ (by omega) (by omega)
      have q8 := h66 [x8] (by simp; omega) (by simp)
      have p8 : (putL [x8]).length ≤ 10 := by have := putL_len [x8] (by simp; omega); simpa using this
      have u9 : IntKind.u64.wrap x9 = x9 := wu64 _ (by omega) (by omega)
      have q9 := h66 [x9] (by simp; omega) (by simp)
      have p9 : (putL [x9]).length ≤ 10 := by have := putL_len [x9] (by simp; omega); simpa using this
      have ka := h86 x10 (by omega)
      have kb := h86 x11 (by omega)
      have t1 := textL_len (s := x10) (by omega)
      have t2 := textL_len (s := x11) (by omega)
      have : k = 1 ∨ k = 2 ∨ k = 3 ∨ k = 4 ∨ k = 5 ∨ k = 6 ∨ k = 7 ∨ k = 8 ∨ k = 9 := by omega
      rcases this with rfl | rfl | rfl | rfl | rfl | rfl | rfl | rfl | rfl
      · have hE : encE (1, x1, x2, x3, (x4, x5, x6), x7, x8, x9, x10, x11) = 1 :: (putL [x1]) := by simp [encE, encC, numsL, partsL, numOf, putL]
        have wk : IntKind.u8.wrap 1 = 1 := rfl
        simp -implicitDefEqProofs (disch := omega) [hj, b1, g1, hcx, wj, m1, m2, wk, hE, bigpos, u1, q1]
      · have hE : encE (2, x1, x2, x3, (x4, x5, x6), x7, x8, x9, x10, x11) = 2 :: (putL [x1] ++ (putL [x2])) := by simp [encE, encC, numsL, partsL, numOf, putL]
        have wk : IntKind.u8.wrap 2 = 2 := rfl
        simp -implicitDefEqProofs (disch := omega) [hj, b1, g1, hcx, wj, m1, m2, wk, hE, bigpos, u1, u2, q1, q2]
      · have hE : encE (3, x1, x2, x3, (x4, x5, x6), x7, x8, x9, x10, x11) = 3 :: (putL [x2]) := by simp [encE, encC, numsL, partsL, numOf, putL]
        have wk : IntKind.u8.wrap 3 = 3 := rfl
        simp -implicitDefEqProofs (disch := omega) [hj, b1, g1, hcx, wj, m1, m2, wk, hE, bigpos, u2, q2]
      · have hE : encE (4, x1, x2, x3, (x4, x5, x6), x7, x8, x9, x10, x11) = 4 :: (putL [x7] ++ (putL [x8] ++ (putL [x9] ++ (textL x10 ++ (textL x11))))) := by simp [encE, encC, numsL, partsL, numOf, putL]
        have wk : IntKind.u8.wrap 4 = 4 := rfl
        simp -implicitDefEqProofs (disch := omega) [hj, b1, g1, hcx, wj, m1, m2, wk, hE, bigpos, u7, u8, u9, q7, q8, q9, ka, kb]
      · have hE : encE (5, x1, x2, x3, (x4, x5, x6), x7, x8, x9, x10, x11) = 5 :: (putL [x1]) := by simp [encE, encC, numsL, partsL, numOf, putL]
        have wk : IntKind.u8.wrap 5 = 5 := rfl
        simp -implicitDefEqProofs (disch := omega) [hj, b1, g1, hcx, wj, m1, m2, wk, hE, bigpos, u1, q1]
      · have hE : encE (6, x1, x2, x3, (x4, x5, x6), x7, x8, x9, x10, x11) = 6 :: (putL [x1] ++ (putL [x2] ++ (putL [x3]))) := by simp [encE, encC, numsL, partsL, numOf, putL]
        have wk : IntKind.u8.wrap 6 = 6 := rfl
        simp -implicitDefEqProofs (disch := omega) [hj, b1, g1, hcx, wj, m1, m2, wk, hE, bigpos, u1, u2, u3, q1, q2, q3]
      · have hE : encE (7, x1, x2, x3, (x4, x5, x6), x7, x8, x9, x10, x11) = 7 :: (putL [x2]) := by simp [encE, encC, numsL, partsL, numOf, putL]
        have wk : IntKind.u8.wrap 7 = 7 := rfl
        simp -implicitDefEqProofs (disch := omega) [hj, b1, g1, hcx, wj, m1, m2, wk, hE, bigpos, u2, q2]
      · have hE : encE (8, x1, x2, x3, (x4, x5, x6), x7, x8, x9, x10, x11) = 8 :: (putL [x1] ++ (putL [x2] ++ (putL [x3] ++ (putL [x4] ++ (putL [x5] ++ (putL [x6])))))) := by simp [encE, encC, numsL, partsL, numOf, putL]
        have wk : IntKind.u8.wrap 8 = 8 := rfl
        simp -implicitDefEqProofs (disch := omega) [hj, b1, g1, hcx, wj, m1, m2, wk, hE, bigpos, u1, u2, u3, u4, u5, u6, q1, q2, q3, q4, q5, q6]
      · have hE : encE (9, x1, x2, x3, (x4, x5, x6), x7, x8, x9, x10, x11) = 9 :: (putL [x2]) := by simp [encE, encC, numsL, partsL, numOf, putL]
        have wk : IntKind.u8.wrap 9 = 9 := rfl
        simp -implicitDefEqProofs (disch := omega) [hj, b1, g1, hcx, wj, m1, m2, wk, hE, bigpos, u2, q2]
    · refine .inr ?_
      rw [List.drop_eq_nil_of_le (by omega)]
      simp -implicitDefEqProofs [hj, encEs]
theorem s39 {lc : List Ct} (hl0 : look (lc.map fun c => (c.sig.id, c)) 39 = some c39) : ∀ (l : List Ed), Does1 (Phi lc) 39 [⟨.sl EdT, l⟩] (resE l (mayE l)) :=
  fun l => by
    have eFc : c39.F = F39 := rfl
    have eFh := f39 l
    rw [← eFc] at eFh
    exact Does1.of hl0 eFh (by rfl)
end Go.Proofs.Ytdjknicjnaiomaa.Sx

set_option maxHeartbeats 1600000
/- The law EditPuts. -/
namespace Go.Proofs.Ytdjknicjnaiomaa.Sx
attribute [local simp ↓] den_start deb_op deb_ret deb_jump deb_itev deb_itel deb_loop deb_fail deb_nilcv
attribute [local simp] nilE_some opE_some debP_nil debP_cons pushL_nil pushL_cons retE_some iteE_some evB_nil evB_v evB_l lkE_cons consE_some d_int d_bool d_str d_nil o_add o_sub o_mul o_and o_or o_xor o_andNot o_quo o_rem o_shl o_shr o_eql o_neq o_lss o_leq o_gtr o_geq o_seql o_sneq o_slss o_sleq o_sgtr o_sgeq o_beql o_bneq o_scat o_not o_neg o_com o_conv o_s2b o_b2s o_len o_slen o_inb o_idx o_sidx o_sub3 o_sub2 o_ssub3 o_ssub2 o_app o_apps o_mk mkE_some consD_some mkD_zero mkD_int mkD_str mkD_sl o_imin o_imax o_smin o_smax o_eqs eqsE_some eqC_nil andE_some eqC_int eqC_bool eqC_str j1 outE_some outE_none outE_ite agE_1 loopE_1 agE_2 loopE_2 agE_3 loopE_3 agE_4 loopE_4 agE_5 loopE_5 agE_6 loopE_6 agE_7 loopE_7 agE_8 loopE_8 agE_9 loopE_9 List.cons_append List.nil_append List.append_nil split List.take_succ_cons List.take_zero List.drop_succ_cons List.drop_zero

theorem encEs_len : ∀ (l : List Ed), (∀ e ∈ l, okE e = true) → (encEs l).length ≤ 300 * l.length
  | [], _ => by simp [encEs]
  | e :: r, h => by
    have h1 := encC_len (edOk_rng (h e (by simp)))
    have h2 := encEs_len r (fun x hx => h x (by simp [hx]))
    simp only [encEs, List.length_append, List.length_cons]
    unfold encE at *
    omega

abbrev oneEd : List Ed := [(1, 3, 0, 0, (0, 0, 0), 0, 0, 0, [], [])]
theorem oneEd_put : putE oneEd = [1, 1, 3] := by
  simp [putE, encEs, encE, encC, numsL, partsL, numOf, putL, one_small]
theorem oneEd_may : mayE oneEd = true := by decide

theorem f36  : F36 [] = some [⟨.bool, true⟩] := by
  have h39 := s39 (lc := [c39, c21]) rfl
  have h21 := s21 (lc := [c39, c21]) rfl
  simp only [F36, Fof, ir36]
  generalize Phi [c39, c21] = Φ at *
  have k39 := h39 oneEd
  rw [oneEd_may] at k39
  simp only [resE, if_true, oneEd_put] at k39
  have hmk : mkD EdT 1 [⟨.int .i64, 1⟩, ⟨.int .i64, 3⟩, ⟨.int .i64, 0⟩, ⟨.int .i64, 0⟩, ⟨.int .i64, 0⟩, ⟨.int .i64, 0⟩, ⟨.int .i64, 0⟩, ⟨.int .i64, 0⟩, ⟨.int .i64, 0⟩, ⟨.int .i64, 0⟩, ⟨.str, []⟩, ⟨.str, []⟩] = some ⟨.sl EdT, oneEd⟩ := rfl
  have hmk3 : mkD (Ty.int IntKind.u8) 3 [⟨.int .u8, 1⟩, ⟨.int .u8, 1⟩, ⟨.int .u8, 3⟩] = some ⟨.sl (.int .u8), [1, 1, 3]⟩ := rfl
  have k21 := h21 [1, 1, 3] [1, 1, 3] (by decide)
  simp -implicitDefEqProofs [hmk, hmk3, k39, k21]
theorem s36 {lc : List Ct} (hl0 : look (lc.map fun c => (c.sig.id, c)) 36 = some c36) : ∀ _u : Unit, Does1 (Phi lc) 36 [] [⟨.bool, true⟩] :=
  fun _ => Does1.of hl0 f36 rfl
theorem f6 (l m : List Ed) : F6 [⟨.sl EdT, l⟩, ⟨.sl EdT, m⟩] = some [⟨.bool, true⟩] := by
  have h35 := s35 (lc := [c35, c36, c37, c38, c39, c40, c41, c42, c21]) rfl
  have h36 := s36 (lc := [c35, c36, c37, c38, c39, c40, c41, c42, c21]) rfl
  have h37 := s37 (lc := [c35, c36, c37, c38, c39, c40, c41, c42, c21]) rfl
  have h38 := s38 (lc := [c35, c36, c37, c38, c39, c40, c41, c42, c21]) rfl
  have h39 := s39 (lc := [c35, c36, c37, c38, c39, c40, c41, c42, c21]) rfl
  have h40 := s40 (lc := [c35, c36, c37, c38, c39, c40, c41, c42, c21]) rfl
  have h41 := s41 (lc := [c35, c36, c37, c38, c39, c40, c41, c42, c21]) rfl
  have h42 := s42 (lc := [c35, c36, c37, c38, c39, c40, c41, c42, c21]) rfl
  have h21 := s21 (lc := [c35, c36, c37, c38, c39, c40, c41, c42, c21]) rfl
  simp only [F6, Fof, ir6]
  generalize Phi [c35, c36, c37, c38, c39, c40, c41, c42, c21] = Φ at *
  have h36 := h36 ()
  have k35 := h35 l
  have k35' := h35 m
  by_cases hl : lightE l = true
  rotate_left
  · have hl : lightE l = false := by simpa using hl
    rw [hl] at k35
    simp -implicitDefEqProofs [h36, k35]
  rw [hl] at k35
  by_cases hm : lightE m = true
  rotate_left
  · have hm : lightE m = false := by simpa using hm
    rw [hm] at k35'
    simp -implicitDefEqProofs [h36, k35, k35']
  rw [hm] at k35'
  simp only [lightE, Bool.and_eq_true, decide_eq_true_eq] at hl
  have hlen := hl.1
  simp -implicitDefEqProofs [k35, k35']
  refine iter_meas (fun s : Bool × Int => (l.length - s.2).toNat) (fun s => ([⟨.bool, true⟩] : List D)) (fun s => 0 ≤ s.2 ∧ s.2 ≤ l.length ∧ s.1 = (decide (0 < l.length) && (l.take s.2.toNat).all okE)) ?_ ?_
  · exact ⟨by simp, by simp, by simp⟩
  rintro ⟨may, i⟩ ⟨h1, h2, h3⟩
  simp only at h1 h2 h3 ⊢
  by_cases hi : i < l.length
  · have g1 := getG (l := l) (d := dflt EdT) h1 hi
    have b1 : 0 ≤ i ∧ i < (l.length : Int) := ⟨h1, hi⟩
    have wi : IntKind.i64.wrap (i + 1) = i + 1 := wi64 _ (by omega) (by omega)
    have htk : l.take (i + 1).toNat = l.take i.toNat ++ [l[i.toNat]'(by omega)] := by rw [show (i + 1).toNat = i.toNat + 1 by omega, List.take_succ_eq_append_getElem (by omega)]
    generalize hcx : l[i.toNat]'(by omega) = x at *
    have k37 : Does1 Φ 37 [⟨.int .i64, x.1⟩, ⟨.int .i64, x.2.1⟩, ⟨.int .i64, x.2.2.1⟩, ⟨.int .i64, x.2.2.2.1⟩, ⟨.int .i64, x.2.2.2.2.1.1⟩, ⟨.int .i64, x.2.2.2.2.1.2.1⟩, ⟨.int .i64, x.2.2.2.2.1.2.2⟩, ⟨.int .i64, x.2.2.2.2.2.1⟩, ⟨.int .i64, x.2.2.2.2.2.2.1⟩, ⟨.int .i64, x.2.2.2.2.2.2.2.1⟩, ⟨.str, x.f⟩, ⟨.str, x.l⟩] [⟨.int .i64, if okE x = true then 0 else 1⟩] := h37 _ _ _ _ _ _ _ _ _ _ _ _
    have k38 : Does1 Φ 38 [⟨.int .i64, x.1⟩, ⟨.int .i64, x.2.1⟩, ⟨.int .i64, x.2.2.1⟩, ⟨.int .i64, x.2.2.2.1⟩, ⟨.int .i64, x.2.2.2.2.1.1⟩, ⟨.int .i64, x.2.2.2.2.1.2.1⟩, ⟨.int .i64, x.2.2.2.2.1.2.2⟩, ⟨.int .i64, x.2.2.2.2.2.1⟩, ⟨.int .i64, x.2.2.2.2.2.2.1⟩, ⟨.int .i64, x.2.2.2.2.2.2.2.1⟩, ⟨.str, x.f⟩, ⟨.str, x.l⟩] [⟨.bool, okE x⟩] := h38 _ _ _ _ _ _ _ _ _ _ _ _
    have hnext : (may && okE x) = (decide (0 < l.length) && (l.take (i + 1).toNat).all okE) := by
      rw [htk, List.all_append, h3]
      simp only [List.all_cons, List.all_nil, Bool.and_true, Bool.and_assoc]
    refine .inl ⟨(may && okE x, i + 1), ?_, ⟨by (try simp only); omega, by (try simp only); omega, hnext⟩, by (try simp only); omega, trivial⟩
    clear h3 hnext
    cases ho : okE x <;> rw [ho] at k37 k38 <;> cases may <;> simp -implicitDefEqProofs [hi, b1, g1, hcx, k37, k38, wi]
  · refine .inr ?_
    rw [List.take_of_length_le (by omega)] at h3
    have hmay : may = mayE l := by
      rw [h3]; unfold mayE
      congr 1
      rw [decide_eq_decide]; omega
    have k39 := h39 l
    have k40 := h40 l m (by omega)
    have k41 := h41 l m (by omega)
    rw [← hmay] at k39
    cases may
    · simp only [resE, Bool.false_eq_true, if_false] at k39
      cases hq : decide (l = m) <;> rw [hq] at k40 k41 <;> simp -implicitDefEqProofs [hi, k39, k40, k41, h36]
    · simp only [resE, if_true] at k39
      have hall : ∀ e ∈ l, okE e = true := by
        have := hmay.symm
        simp only [mayE, Bool.and_eq_true, List.all_eq_true] at this
        exact this.2
      have k42 : Does1 Φ 42 [⟨.sl EdT, l⟩] [⟨.sl (.int .u8), putE l⟩] := h42 l (by omega) hall
      have e1 := encEs_len l hall
      have hp := putL_len [(l.length : Int)] (by simp; omega)
      simp only [List.length_cons, List.length_nil] at hp
      have k21 := h21 (putE l) (putE l) (by rw [putE, List.length_append]; omega)
      rw [decide_eq_true rfl] at k21
      cases hq : decide (l = m) <;> rw [hq] at k40 k41 <;> simp -implicitDefEqProofs [hi, k39, k40, k41, h36, k42, k21]
theorem s6 {lc : List Ct} (hl0 : look (lc.map fun c => (c.sig.id, c)) 6 = some c6) : ∀ (l m : List Ed), Does1 (Phi lc) 6 [⟨.sl EdT, l⟩, ⟨.sl EdT, m⟩] [⟨.bool, true⟩] :=
  fun l m => by
    have eFc : c6.F = F6 := rfl
    have eFh := f6 l m
    rw [← eFc] at eFh
    exact Does1.of hl0 eFh rfl
end Go.Proofs.Ytdjknicjnaiomaa.Sx
