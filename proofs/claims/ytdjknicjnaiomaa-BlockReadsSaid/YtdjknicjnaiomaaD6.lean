/-
  The reference's reader of blocks reads the same; a key's item; what the laws BlockGets and BlockReads answer.
-/
import Derived.Test.YtdjknicjnaiomaaD5
set_option linter.unusedVariables false
set_option linter.unusedSimpArgs false
set_option maxHeartbeats 1600000
/- The reference's reader of blocks. -/
namespace Go.Proofs.Ytdjknicjnaiomaa.Sx

def looseI (last b : List Int) : Option (It × List Int) :=
  if gvN b = 0 ∨ gvN (b.drop (gvN b)) = 0 ∨ (last.length : Int) < gvV b ∨ 64 < gvV (b.drop (gvN b)) then none else
  match b.drop (gvN b + gvN (b.drop (gvN b)) + (gvV (b.drop (gvN b))).toNat) with
  | c :: r =>
    if c = 1 then some ((last.take (gvV b).toNat ++ (b.drop (gvN b + gvN (b.drop (gvN b)))).take (gvV (b.drop (gvN b))).toNat, true, false, [], 0, 0, 0, 0), r)
    else match getC r with
      | some (f, y, s, a, n, m, k) => some ((last.take (gvV b).toNat ++ (b.drop (gvN b + gvN (b.drop (gvN b)))).take (gvV (b.drop (gvN b))).toNat, false, f, y, s, a, n, m), r.drop k)
      | none => none
  | [] => none
def loose : Nat → List Int → List Int → Option (List It × List Int)
  | 0, _, b => some ([], b)
  | n + 1, last, b => match looseI last b with
    | some (x, r) => (match loose n x.1 r with
      | some (xs, r') => some (x :: xs, r')
      | none => none)
    | none => none
def okL (b : List Int) (l : List It) : List It := if 1 ≤ l.length ∧ l.length ≤ 256 ∧ srt none l = true ∧ putL [(l.length : Int)] ++ encL [] l = b then l else []
def refGet (b : List Int) : List It := if gvN b = 0 ∨ 256 < gvV b then [] else
  match loose (gvV b).toNat [] (b.drop (gvN b)) with
  | some (l, []) => okL b l
  | _ => []
def fin48 (b : List Int) (o : Option (List It × List Int)) (l : List It) : List D := match o with
  | some (xs, []) => [⟨.sl ItT, okL b (l ++ xs)⟩]
  | _ => [⟨.sl ItT, ([] : List It)⟩]

theorem cErr_len {f : Bool} {b : List Int} {s a n m : Int} (h : cErr f b s a n m = 0) : b.length ≤ 32 := by
  unfold cErr at h
  split at h
  · split at h <;> omega
  · split at h <;> omega
theorem getC_rng {x : List Int} (hb : ∀ c ∈ x, 0 ≤ c ∧ c < 256) {f : Bool} {b : List Int} {s a n m : Int} {k : Nat} (h : getC x = some (f, b, s, a, n, m, k)) : b.length ≤ 32 :=
  cErr_len (getC_inv hb h).1
theorem getC_pos {x : List Int} {f : Bool} {b : List Int} {s a n m : Int} {k : Nat} (h : getC x = some (f, b, s, a, n, m, k)) : 1 ≤ k := by
  unfold getC at h
  split at h
  · cases h
  · split at h
    · cases h
    · split at h
      · split at h
        · simp only [Option.some.injEq, Cl, Prod.mk.injEq] at h
          omega
        · cases h
      · split at h
        · cases h
        · simp only [Option.some.injEq, Cl, Prod.mk.injEq] at h
          omega

theorem f48 (b : List Int) (hb : ∀ c ∈ b, 0 ≤ c ∧ c < 256) (hl : b.length < 10000000000) : F48 [⟨.sl (.int .u8), b⟩] = some [⟨.sl ItT, refGet b⟩] := by
  have h92 := s92 (lc := [c92, c44, c33, c34, c21]) rfl
  have h44 := s44 (lc := [c92, c44, c33, c34, c21]) rfl
  have h33 := s33 (lc := [c92, c44, c33, c34, c21]) rfl
  have h34 := s34 (lc := [c92, c44, c33, c34, c21]) rfl
  have h21 := s21 (lc := [c92, c44, c33, c34, c21]) rfl
  simp only [F48, Fof, ir48]
  generalize Phi [c92, c44, c33, c34, c21] = Φ at *
  have k92 := h92 b hb (by omega)
  have hr := gv_range hb
  unfold refGet
  by_cases c1 : gvN b = 0
  · rw [if_pos (.inl c1)]
    have c1' : ((gvN b : Nat) : Int) = 0 := by omega
    simp -implicitDefEqProofs [↓den_start, ↓deb_op, ↓deb_ret, ↓deb_jump, ↓deb_itev, ↓deb_itel, ↓deb_loop, ↓deb_fail, ↓deb_nilcv, nilE_some, opE_some, debP_nil, debP_cons, pushL_nil, pushL_cons, retE_some, iteE_some, evB_nil, evB_v, evB_l, lkE_cons, consE_some, d_int, d_bool, d_str, d_nil, o_add, o_sub, o_mul, o_and, o_or, o_xor, o_andNot, o_quo, o_rem, o_shl, o_shr, o_eql, o_neq, o_lss, o_leq, o_gtr, o_geq, o_seql, o_sneq, o_slss, o_sleq, o_sgtr, o_sgeq, o_beql, o_bneq, o_scat, o_not, o_neg, o_com, o_conv, o_s2b, o_b2s, o_len, o_slen, o_inb, o_idx, o_sidx, o_sub3, o_sub2, o_ssub3, o_ssub2, o_app, o_apps, o_mk, mkE_some, consD_some, mkD_zero, mkD_int, mkD_str, mkD_sl, o_imin, o_imax, o_smin, o_smax, o_eqs, eqsE_some, eqC_nil, andE_some, eqC_int, eqC_bool, eqC_str, j1, outE_some, outE_none, outE_ite, agE_1, loopE_1, agE_2, loopE_2, agE_3, loopE_3, agE_4, loopE_4, agE_5, loopE_5, agE_6, loopE_6, agE_7, loopE_7, agE_8, loopE_8, agE_9, loopE_9, List.cons_append, List.nil_append, List.append_nil, split, List.take_succ_cons, List.take_zero, List.drop_succ_cons, List.drop_zero, k92, c1]
  by_cases c2 : 256 < gvV b
  · rw [if_pos (.inr c2)]
    have c1' : ¬ ((gvN b : Nat) : Int) = 0 := by omega
    simp -implicitDefEqProofs [↓den_start, ↓deb_op, ↓deb_ret, ↓deb_jump, ↓deb_itev, ↓deb_itel, ↓deb_loop, ↓deb_fail, ↓deb_nilcv, nilE_some, opE_some, debP_nil, debP_cons, pushL_nil, pushL_cons, retE_some, iteE_some, evB_nil, evB_v, evB_l, lkE_cons, consE_some, d_int, d_bool, d_str, d_nil, o_add, o_sub, o_mul, o_and, o_or, o_xor, o_andNot, o_quo, o_rem, o_shl, o_shr, o_eql, o_neq, o_lss, o_leq, o_gtr, o_geq, o_seql, o_sneq, o_slss, o_sleq, o_sgtr, o_sgeq, o_beql, o_bneq, o_scat, o_not, o_neg, o_com, o_conv, o_s2b, o_b2s, o_len, o_slen, o_inb, o_idx, o_sidx, o_sub3, o_sub2, o_ssub3, o_ssub2, o_app, o_apps, o_mk, mkE_some, consD_some, mkD_zero, mkD_int, mkD_str, mkD_sl, o_imin, o_imax, o_smin, o_smax, o_eqs, eqsE_some, eqC_nil, andE_some, eqC_int, eqC_bool, eqC_str, j1, outE_some, outE_none, outE_ite, agE_1, loopE_1, agE_2, loopE_2, agE_3, loopE_3, agE_4, loopE_4, agE_5, loopE_5, agE_6, loopE_6, agE_7, loopE_7, agE_8, loopE_8, agE_9, loopE_9, List.cons_append, List.nil_append, List.append_nil, split, List.take_succ_cons, List.take_zero, List.drop_succ_cons, List.drop_zero, k92, c1, c2]
  rw [if_neg (by rintro (h | h); exact c1 h; exact c2 h)]
  have c1' : ¬ ((gvN b : Nat) : Int) = 0 := by omega
  have hfin : ([⟨.sl ItT, match loose (gvV b).toNat [] (b.drop (gvN b)) with | some (l, []) => okL b l | _ => []⟩] : List D) = fin48 b (loose (gvV b).toNat [] (b.drop (gvN b))) [] := by
    unfold fin48
    split <;> rename_i h <;> simp [h]
  rw [hfin]
  have hg := hr.2.2.2
  generalize hgN : gvN b = g at *
  generalize hgV : gvV b = n at *
  have wn : IntKind.i64.wrap n = n := wi64 _ (by omega) (by omega)
  have hmk0 : mkD ItT 0 [] = some ⟨.sl ItT, []⟩ := rfl
  simp -implicitDefEqProofs [↓den_start, ↓deb_op, ↓deb_ret, ↓deb_jump, ↓deb_itev, ↓deb_itel, ↓deb_loop, ↓deb_fail, ↓deb_nilcv, nilE_some, opE_some, debP_nil, debP_cons, pushL_nil, pushL_cons, retE_some, iteE_some, evB_nil, evB_v, evB_l, lkE_cons, consE_some, d_int, d_bool, d_str, d_nil, o_add, o_sub, o_mul, o_and, o_or, o_xor, o_andNot, o_quo, o_rem, o_shl, o_shr, o_eql, o_neq, o_lss, o_leq, o_gtr, o_geq, o_seql, o_sneq, o_slss, o_sleq, o_sgtr, o_sgeq, o_beql, o_bneq, o_scat, o_not, o_neg, o_com, o_conv, o_s2b, o_b2s, o_len, o_slen, o_inb, o_idx, o_sidx, o_sub3, o_sub2, o_ssub3, o_ssub2, o_app, o_apps, o_mk, mkE_some, consD_some, mkD_zero, mkD_int, mkD_str, mkD_sl, o_imin, o_imax, o_smin, o_smax, o_eqs, eqsE_some, eqC_nil, andE_some, eqC_int, eqC_bool, eqC_str, j1, outE_some, outE_none, outE_ite, agE_1, loopE_1, agE_2, loopE_2, agE_3, loopE_3, agE_4, loopE_4, agE_5, loopE_5, agE_6, loopE_6, agE_7, loopE_7, agE_8, loopE_8, agE_9, loopE_9, List.cons_append, List.nil_append, List.append_nil, split, List.take_succ_cons, List.take_zero, List.drop_succ_cons, List.drop_zero, k92, c1, c2, hmk0]
  have hn : 0 ≤ n ∧ n ≤ 256 := by omega
  refine (iter_meas (fun s : Int × List It × List Int × Int => (n - s.2.2.2).toNat) (fun s => fin48 b (loose (n - s.2.2.2).toNat s.2.2.1 (b.drop s.1.toNat)) s.2.1)
    (fun s => 0 ≤ s.1 ∧ s.1 ≤ b.length ∧ (s.2.2.1.length : Int) ≤ 64 * s.2.2.2 ∧ 0 ≤ s.2.2.2 ∧ s.2.2.2 ≤ n ∧ s.2.1.length ≤ s.2.2.2.toNat ∧ ∀ x ∈ s.2.1, x.2.2.2.1.length ≤ 32 ∧ 0 ≤ x.2.2.2.2.2.2.2 ∧ x.2.2.2.2.2.2.2 < 4294967296)
    ?_ ?_).trans (by simp)
  · exact ⟨by exact (by omega : (0:Int) ≤ g), by exact (by omega : (g:Int) ≤ b.length), by simp, by exact (by omega : (0:Int) ≤ 0), by exact (by omega : (0:Int) ≤ n), by simp, by simp⟩
  rintro ⟨t, l0, last, i⟩ ⟨i0, i1, i2, i4, i5, i6, i7⟩
  simp only at i0 i1 i2 i4 i5 i6 i7 ⊢
  by_cases hi : i < n
  · rw [show (n - i).toNat = (n - (i + 1)).toNat + 1 by omega]
    have wi : IntKind.i64.wrap (i + 1) = i + 1 := wi64 _ (by omega) (by omega)
    simp only [loose]
    have hb1 : ∀ c ∈ b.drop t.toNat, 0 ≤ c ∧ c < 256 := fun c hc => hb c (List.mem_of_mem_drop hc)
    have l1 : (b.drop t.toNat).length = b.length - t.toNat := List.length_drop
    have k1 := h92 (b.drop t.toNat) hb1 (by omega)
    have r1 := gv_range hb1
    have hb2 : ∀ c ∈ (b.drop t.toNat).drop (gvN (b.drop t.toNat)), 0 ≤ c ∧ c < 256 := fun c hc => hb1 c (List.mem_of_mem_drop hc)
    have l2 : ((b.drop t.toNat).drop (gvN (b.drop t.toNat))).length = b.length - t.toNat - gvN (b.drop t.toNat) := by rw [List.length_drop, l1]
    have k2 := h92 ((b.drop t.toNat).drop (gvN (b.drop t.toNat))) hb2 (by omega)
    have r2 := gv_range hb2
    have bt : 0 ≤ t ∧ t ≤ b.length := ⟨i0, i1⟩
    unfold looseI
    generalize hB : b.drop t.toNat = B at *
    generalize hB2 : B.drop (gvN B) = B2 at *
    generalize gvV B = u at *
    generalize gvN B = k at *
    generalize gvV B2 = v at *
    generalize gvN B2 = m at *
    have w1 : IntKind.i64.wrap (t + k) = t + k := wi64 _ (by omega) (by omega)
    have w2 : IntKind.i64.wrap (t + k + m) = t + k + m := wi64 _ (by omega) (by omega)
    have bt2 : 0 ≤ t + (k : Int) ∧ t + (k : Int) ≤ b.length := by omega
    have e2 : b.drop (t + (k : Int)).toNat = B2 := by rw [show (t + (k : Int)).toNat = t.toNat + k by omega, ← List.drop_drop, hB, hB2]
    have wl : IntKind.u64.wrap (last.length : Int) = last.length := wu64 _ (by omega) (by omega)
    by_cases d1 : k = 0
    · refine .inr ?_
      subst d1
      simp only [Int.natCast_zero, Int.add_zero] at w1 bt2 e2
      rw [if_pos (show ((0 : Nat) = 0 ∨ m = 0 ∨ (last.length : Int) < u ∨ 64 < v) from .inl rfl)]
      simp -implicitDefEqProofs [↓den_start, ↓deb_op, ↓deb_ret, ↓deb_jump, ↓deb_itev, ↓deb_itel, ↓deb_loop, ↓deb_fail, ↓deb_nilcv, nilE_some, opE_some, debP_nil, debP_cons, pushL_nil, pushL_cons, retE_some, iteE_some, evB_nil, evB_v, evB_l, lkE_cons, consE_some, d_int, d_bool, d_str, d_nil, o_add, o_sub, o_mul, o_and, o_or, o_xor, o_andNot, o_quo, o_rem, o_shl, o_shr, o_eql, o_neq, o_lss, o_leq, o_gtr, o_geq, o_seql, o_sneq, o_slss, o_sleq, o_sgtr, o_sgeq, o_beql, o_bneq, o_scat, o_not, o_neg, o_com, o_conv, o_s2b, o_b2s, o_len, o_slen, o_inb, o_idx, o_sidx, o_sub3, o_sub2, o_ssub3, o_ssub2, o_app, o_apps, o_mk, mkE_some, consD_some, mkD_zero, mkD_int, mkD_str, mkD_sl, o_imin, o_imax, o_smin, o_smax, o_eqs, eqsE_some, eqC_nil, andE_some, eqC_int, eqC_bool, eqC_str, j1, outE_some, outE_none, outE_ite, agE_1, loopE_1, agE_2, loopE_2, agE_3, loopE_3, agE_4, loopE_4, agE_5, loopE_5, agE_6, loopE_6, agE_7, loopE_7, agE_8, loopE_8, agE_9, loopE_9, List.cons_append, List.nil_append, List.append_nil, split, List.take_succ_cons, List.take_zero, List.drop_succ_cons, List.drop_zero, wn, hi, bt, hB, k1, w1, e2, k2, fin48]
    have d1' : ¬ (k : Int) = 0 := by omega
    by_cases d2 : m = 0
    · refine .inr ?_
      have d2' : (m : Int) = 0 := by omega
      rw [if_pos (show (k = 0 ∨ m = 0 ∨ (last.length : Int) < u ∨ 64 < v) from .inr (.inl d2))]
      simp -implicitDefEqProofs [↓den_start, ↓deb_op, ↓deb_ret, ↓deb_jump, ↓deb_itev, ↓deb_itel, ↓deb_loop, ↓deb_fail, ↓deb_nilcv, nilE_some, opE_some, debP_nil, debP_cons, pushL_nil, pushL_cons, retE_some, iteE_some, evB_nil, evB_v, evB_l, lkE_cons, consE_some, d_int, d_bool, d_str, d_nil, o_add, o_sub, o_mul, o_and, o_or, o_xor, o_andNot, o_quo, o_rem, o_shl, o_shr, o_eql, o_neq, o_lss, o_leq, o_gtr, o_geq, o_seql, o_sneq, o_slss, o_sleq, o_sgtr, o_sgeq, o_beql, o_bneq, o_scat, o_not, o_neg, o_com, o_conv, o_s2b, o_b2s, o_len, o_slen, o_inb, o_idx, o_sidx, o_sub3, o_sub2, o_ssub3, o_ssub2, o_app, o_apps, o_mk, mkE_some, consD_some, mkD_zero, mkD_int, mkD_str, mkD_sl, o_imin, o_imax, o_smin, o_smax, o_eqs, eqsE_some, eqC_nil, andE_some, eqC_int, eqC_bool, eqC_str, j1, outE_some, outE_none, outE_ite, agE_1, loopE_1, agE_2, loopE_2, agE_3, loopE_3, agE_4, loopE_4, agE_5, loopE_5, agE_6, loopE_6, agE_7, loopE_7, agE_8, loopE_8, agE_9, loopE_9, List.cons_append, List.nil_append, List.append_nil, split, List.take_succ_cons, List.take_zero, List.drop_succ_cons, List.drop_zero, wn, hi, bt, hB, k1, w1, bt2, e2, k2, d1, d2, fin48]
    have d2' : ¬ (m : Int) = 0 := by omega
    by_cases d3 : (last.length : Int) < u
    · refine .inr ?_
      rw [if_pos (show (k = 0 ∨ m = 0 ∨ (last.length : Int) < u ∨ 64 < v) from .inr (.inr (.inl d3)))]
      simp -implicitDefEqProofs [↓den_start, ↓deb_op, ↓deb_ret, ↓deb_jump, ↓deb_itev, ↓deb_itel, ↓deb_loop, ↓deb_fail, ↓deb_nilcv, nilE_some, opE_some, debP_nil, debP_cons, pushL_nil, pushL_cons, retE_some, iteE_some, evB_nil, evB_v, evB_l, lkE_cons, consE_some, d_int, d_bool, d_str, d_nil, o_add, o_sub, o_mul, o_and, o_or, o_xor, o_andNot, o_quo, o_rem, o_shl, o_shr, o_eql, o_neq, o_lss, o_leq, o_gtr, o_geq, o_seql, o_sneq, o_slss, o_sleq, o_sgtr, o_sgeq, o_beql, o_bneq, o_scat, o_not, o_neg, o_com, o_conv, o_s2b, o_b2s, o_len, o_slen, o_inb, o_idx, o_sidx, o_sub3, o_sub2, o_ssub3, o_ssub2, o_app, o_apps, o_mk, mkE_some, consD_some, mkD_zero, mkD_int, mkD_str, mkD_sl, o_imin, o_imax, o_smin, o_smax, o_eqs, eqsE_some, eqC_nil, andE_some, eqC_int, eqC_bool, eqC_str, j1, outE_some, outE_none, outE_ite, agE_1, loopE_1, agE_2, loopE_2, agE_3, loopE_3, agE_4, loopE_4, agE_5, loopE_5, agE_6, loopE_6, agE_7, loopE_7, agE_8, loopE_8, agE_9, loopE_9, List.cons_append, List.nil_append, List.append_nil, split, List.take_succ_cons, List.take_zero, List.drop_succ_cons, List.drop_zero, wn, hi, bt, hB, k1, w1, bt2, e2, k2, d1, d2, wl, d3, fin48]
    by_cases d4 : 64 < v
    · refine .inr ?_
      rw [if_pos (show (k = 0 ∨ m = 0 ∨ (last.length : Int) < u ∨ 64 < v) from .inr (.inr (.inr d4)))]
      simp -implicitDefEqProofs [↓den_start, ↓deb_op, ↓deb_ret, ↓deb_jump, ↓deb_itev, ↓deb_itel, ↓deb_loop, ↓deb_fail, ↓deb_nilcv, nilE_some, opE_some, debP_nil, debP_cons, pushL_nil, pushL_cons, retE_some, iteE_some, evB_nil, evB_v, evB_l, lkE_cons, consE_some, d_int, d_bool, d_str, d_nil, o_add, o_sub, o_mul, o_and, o_or, o_xor, o_andNot, o_quo, o_rem, o_shl, o_shr, o_eql, o_neq, o_lss, o_leq, o_gtr, o_geq, o_seql, o_sneq, o_slss, o_sleq, o_sgtr, o_sgeq, o_beql, o_bneq, o_scat, o_not, o_neg, o_com, o_conv, o_s2b, o_b2s, o_len, o_slen, o_inb, o_idx, o_sidx, o_sub3, o_sub2, o_ssub3, o_ssub2, o_app, o_apps, o_mk, mkE_some, consD_some, mkD_zero, mkD_int, mkD_str, mkD_sl, o_imin, o_imax, o_smin, o_smax, o_eqs, eqsE_some, eqC_nil, andE_some, eqC_int, eqC_bool, eqC_str, j1, outE_some, outE_none, outE_ite, agE_1, loopE_1, agE_2, loopE_2, agE_3, loopE_3, agE_4, loopE_4, agE_5, loopE_5, agE_6, loopE_6, agE_7, loopE_7, agE_8, loopE_8, agE_9, loopE_9, List.cons_append, List.nil_append, List.append_nil, split, List.take_succ_cons, List.take_zero, List.drop_succ_cons, List.drop_zero, wn, hi, bt, hB, k1, w1, bt2, e2, k2, d1, d2, wl, d3, d4, fin48]
    rw [if_neg (show ¬ (k = 0 ∨ m = 0 ∨ (last.length : Int) < u ∨ 64 < v) by rintro (h | h | h | h); exact d1 h; exact d2 h; exact d3 h; exact d4 h)]
    have wv : IntKind.i64.wrap v = v := wi64 _ (by omega) (by omega)
    have w3 : IntKind.i64.wrap (t + k + m + v) = t + k + m + v := wi64 _ (by omega) (by omega)
    have eD : B.drop (k + m + v.toNat) = b.drop (t + k + m + v).toNat := by
      rw [← hB, List.drop_drop]; congr 1; omega
    rw [eD]
    by_cases d5 : (b.length : Int) ≤ t + k + m + v
    · refine .inr ?_
      rw [List.drop_eq_nil_of_le (by omega)]
      simp -implicitDefEqProofs [↓den_start, ↓deb_op, ↓deb_ret, ↓deb_jump, ↓deb_itev, ↓deb_itel, ↓deb_loop, ↓deb_fail, ↓deb_nilcv, nilE_some, opE_some, debP_nil, debP_cons, pushL_nil, pushL_cons, retE_some, iteE_some, evB_nil, evB_v, evB_l, lkE_cons, consE_some, d_int, d_bool, d_str, d_nil, o_add, o_sub, o_mul, o_and, o_or, o_xor, o_andNot, o_quo, o_rem, o_shl, o_shr, o_eql, o_neq, o_lss, o_leq, o_gtr, o_geq, o_seql, o_sneq, o_slss, o_sleq, o_sgtr, o_sgeq, o_beql, o_bneq, o_scat, o_not, o_neg, o_com, o_conv, o_s2b, o_b2s, o_len, o_slen, o_inb, o_idx, o_sidx, o_sub3, o_sub2, o_ssub3, o_ssub2, o_app, o_apps, o_mk, mkE_some, consD_some, mkD_zero, mkD_int, mkD_str, mkD_sl, o_imin, o_imax, o_smin, o_smax, o_eqs, eqsE_some, eqC_nil, andE_some, eqC_int, eqC_bool, eqC_str, j1, outE_some, outE_none, outE_ite, agE_1, loopE_1, agE_2, loopE_2, agE_3, loopE_3, agE_4, loopE_4, agE_5, loopE_5, agE_6, loopE_6, agE_7, loopE_7, agE_8, loopE_8, agE_9, loopE_9, List.cons_append, List.nil_append, List.append_nil, split, List.take_succ_cons, List.take_zero, List.drop_succ_cons, List.drop_zero, wn, hi, bt, hB, k1, w1, bt2, e2, k2, d1, d2, wl, d3, d4, w2, wv, w3, d5, fin48]
    have e0 : 0 ≤ t + (k : Int) + m + v ∧ t + (k : Int) + m + v < b.length := by omega
    have hD := dropI e0.1 e0.2
    have hcb := hb (b[(t + (k : Int) + m + v).toNat]'(by omega)) (List.getElem_mem _)
    have hx : b[(t + (k : Int) + m + v).toNat]? = some (b[(t + (k : Int) + m + v).toNat]'(by omega)) := List.getElem?_eq_getElem (by omega)
    have hgi := getI (d := dflt (Ty.int IntKind.u8)) e0.1 e0.2
    rw [hD]
    generalize hcc : b[(t + (k : Int) + m + v).toNat]'(by omega) = c at *
    have w4 : IntKind.i64.wrap (t + k + m + v + 1) = t + k + m + v + 1 := wi64 _ (by omega) (by omega)
    have wu : IntKind.i64.wrap u = u := wi64 _ (by omega) (by omega)
    have b1 : (0 : Int) ≤ u ∧ u ≤ last.length := by omega
    have b2 : 0 ≤ t + (k : Int) + m ∧ t + (k : Int) + m ≤ t + k + m + v ∧ t + (k : Int) + m + v ≤ b.length := by omega
    have hkey : (b.take (t + (k : Int) + m + v).toNat).drop (t + (k : Int) + m).toNat = (B.drop (k + m)).take v.toNat := by
      rw [List.drop_take, ← hB, List.drop_drop]
      rw [show (t + (k : Int) + m + v).toNat - (t + (k : Int) + m).toNat = v.toNat by omega, show t.toNat + (k + m) = (t + (k : Int) + m).toNat by omega]
    have hkl : (last.take u.toNat ++ (B.drop (k + m)).take v.toNat).length ≤ last.length + 64 := by
      rw [List.length_append, List.length_take, List.length_take]; omega
    have B1 : u.toNat + min v.toNat (B.length - (k + m)) ≤ BIG := by simp only [BIG]; omega
    have b4 : 0 ≤ t + (k : Int) + m + v + 1 ∧ t + (k : Int) + m + v + 1 ≤ b.length := by omega
    have hbig : l0.length + 1 ≤ BIG := by simp only [BIG]; omega
    generalize hkeyd : last.take u.toNat ++ (B.drop (k + m)).take v.toNat = key at *
    by_cases c7 : c = 1
    · simp only [if_pos c7]
      subst c7
      have hmk : mkD ItT 1 [⟨.str, key⟩, ⟨.bool, true⟩, ⟨.bool, false⟩, ⟨.sl (.int .u8), []⟩, ⟨.int .i64, 0⟩, ⟨.int .i64, 0⟩, ⟨.int .i64, 0⟩, ⟨.int .u32, 0⟩] = some ⟨.sl ItT, [(key, true, false, [], 0, 0, 0, 0)]⟩ := rfl
      refine .inl ⟨(t + (k : Int) + m + v + 1, l0 ++ [(key, true, false, [], 0, 0, 0, 0)], key, i + 1), ?_, ⟨by (try simp only); omega, by (try simp only); omega, by (try simp only); omega, by (try simp only); omega, by (try simp only); omega, by simp; omega, ?_⟩, by (try simp only); omega, ?_⟩
      · simp -implicitDefEqProofs [↓den_start, ↓deb_op, ↓deb_ret, ↓deb_jump, ↓deb_itev, ↓deb_itel, ↓deb_loop, ↓deb_fail, ↓deb_nilcv, nilE_some, opE_some, debP_nil, debP_cons, pushL_nil, pushL_cons, retE_some, iteE_some, evB_nil, evB_v, evB_l, lkE_cons, consE_some, d_int, d_bool, d_str, d_nil, o_add, o_sub, o_mul, o_and, o_or, o_xor, o_andNot, o_quo, o_rem, o_shl, o_shr, o_eql, o_neq, o_lss, o_leq, o_gtr, o_geq, o_seql, o_sneq, o_slss, o_sleq, o_sgtr, o_sgeq, o_beql, o_bneq, o_scat, o_not, o_neg, o_com, o_conv, o_s2b, o_b2s, o_len, o_slen, o_inb, o_idx, o_sidx, o_sub3, o_sub2, o_ssub3, o_ssub2, o_app, o_apps, o_mk, mkE_some, consD_some, mkD_zero, mkD_int, mkD_str, mkD_sl, o_imin, o_imax, o_smin, o_smax, o_eqs, eqsE_some, eqC_nil, andE_some, eqC_int, eqC_bool, eqC_str, j1, outE_some, outE_none, outE_ite, agE_1, loopE_1, agE_2, loopE_2, agE_3, loopE_3, agE_4, loopE_4, agE_5, loopE_5, agE_6, loopE_6, agE_7, loopE_7, agE_8, loopE_8, agE_9, loopE_9, List.cons_append, List.nil_append, List.append_nil, split, List.take_succ_cons, List.take_zero, List.drop_succ_cons, List.drop_zero, wn, hi, wi, bt, hB, k1, w1, bt2, e2, k2, d1, d2, wl, wu, d3, d4, w2, wv, w3, w4, d5, e0, b1, b2, b4, hkey, B1, hkeyd, hgi, hcc, hmk, hbig]
      · intro x hx
        rcases List.mem_append.1 hx with hx | hx
        · exact i7 x hx
        · rw [List.mem_singleton.1 hx]; simp
      · simp only
        generalize loose (n - (i + 1)).toNat key (b.drop (t + (k : Int) + m + v + 1).toNat) = o
        cases o with
        | none => rfl
        | some z =>
          obtain ⟨xs, r'⟩ := z
          cases r' <;> simp [fin48]
    · simp only [if_neg c7]
      have hb3 : ∀ c ∈ b.drop (t + (k : Int) + m + v + 1).toNat, 0 ≤ c ∧ c < 256 := fun c hc => hb c (List.mem_of_mem_drop hc)
      have l3 : (b.drop (t + (k : Int) + m + v + 1).toNat).length = b.length - (t + (k : Int) + m + v + 1).toNat := List.length_drop
      have k44 := h44 (b.drop (t + (k : Int) + m + v + 1).toNat) hb3 (by omega)
      cases hg : getC (b.drop (t + (k : Int) + m + v + 1).toNat) with
      | none =>
        refine .inr ?_
        simp only [hg, resC] at k44
        simp -implicitDefEqProofs [↓den_start, ↓deb_op, ↓deb_ret, ↓deb_jump, ↓deb_itev, ↓deb_itel, ↓deb_loop, ↓deb_fail, ↓deb_nilcv, nilE_some, opE_some, debP_nil, debP_cons, pushL_nil, pushL_cons, retE_some, iteE_some, evB_nil, evB_v, evB_l, lkE_cons, consE_some, d_int, d_bool, d_str, d_nil, o_add, o_sub, o_mul, o_and, o_or, o_xor, o_andNot, o_quo, o_rem, o_shl, o_shr, o_eql, o_neq, o_lss, o_leq, o_gtr, o_geq, o_seql, o_sneq, o_slss, o_sleq, o_sgtr, o_sgeq, o_beql, o_bneq, o_scat, o_not, o_neg, o_com, o_conv, o_s2b, o_b2s, o_len, o_slen, o_inb, o_idx, o_sidx, o_sub3, o_sub2, o_ssub3, o_ssub2, o_app, o_apps, o_mk, mkE_some, consD_some, mkD_zero, mkD_int, mkD_str, mkD_sl, o_imin, o_imax, o_smin, o_smax, o_eqs, eqsE_some, eqC_nil, andE_some, eqC_int, eqC_bool, eqC_str, j1, outE_some, outE_none, outE_ite, agE_1, loopE_1, agE_2, loopE_2, agE_3, loopE_3, agE_4, loopE_4, agE_5, loopE_5, agE_6, loopE_6, agE_7, loopE_7, agE_8, loopE_8, agE_9, loopE_9, List.cons_append, List.nil_append, List.append_nil, split, List.take_succ_cons, List.take_zero, List.drop_succ_cons, List.drop_zero, wn, hi, wi, bt, hB, k1, w1, bt2, e2, k2, d1, d2, wl, wu, d3, d4, w2, wv, w3, w4, d5, e0, b1, b2, b4, hkey, B1, hkeyd, hgi, hcc, c7, k44, fin48]
      | some y =>
        obtain ⟨f, y, s, a, q, w, z⟩ := y
        have hz := getC_le hb3 hg
        have hz0 := getC_pos hg
        have hy := getC_rng hb3 hg
        have hw := (getC_inv hb3 hg).2.2
        simp only [hg, resC] at k44
        have hz' : ¬ z = 0 := by omega
        have w5 : IntKind.i64.wrap (t + k + m + v + 1 + z) = t + k + m + v + 1 + z := wi64 _ (by omega) (by omega)
        have hmk : mkD ItT 1 [⟨.str, key⟩, ⟨.bool, false⟩, ⟨.bool, f⟩, ⟨.sl (.int .u8), y⟩, ⟨.int .i64, s⟩, ⟨.int .i64, a⟩, ⟨.int .i64, q⟩, ⟨.int .u32, w⟩] = some ⟨.sl ItT, [(key, false, f, y, s, a, q, w)]⟩ := rfl
        refine .inl ⟨(t + (k : Int) + m + v + 1 + z, l0 ++ [(key, false, f, y, s, a, q, w)], key, i + 1), ?_, ⟨by (try simp only); omega, by (try simp only); omega, by (try simp only); omega, by (try simp only); omega, by (try simp only); omega, by simp; omega, ?_⟩, by (try simp only); omega, ?_⟩
        · simp -implicitDefEqProofs [↓den_start, ↓deb_op, ↓deb_ret, ↓deb_jump, ↓deb_itev, ↓deb_itel, ↓deb_loop, ↓deb_fail, ↓deb_nilcv, nilE_some, opE_some, debP_nil, debP_cons, pushL_nil, pushL_cons, retE_some, iteE_some, evB_nil, evB_v, evB_l, lkE_cons, consE_some, d_int, d_bool, d_str, d_nil, o_add, o_sub, o_mul, o_and, o_or, o_xor, o_andNot, o_quo, o_rem, o_shl, o_shr, o_eql, o_neq, o_lss, o_leq, o_gtr, o_geq, o_seql, o_sneq, o_slss, o_sleq, o_sgtr, o_sgeq, o_beql, o_bneq, o_scat, o_not, o_neg, o_com, o_conv, o_s2b, o_b2s, o_len, o_slen, o_inb, o_idx, o_sidx, o_sub3, o_sub2, o_ssub3, o_ssub2, o_app, o_apps, o_mk, mkE_some, consD_some, mkD_zero, mkD_int, mkD_str, mkD_sl, o_imin, o_imax, o_smin, o_smax, o_eqs, eqsE_some, eqC_nil, andE_some, eqC_int, eqC_bool, eqC_str, j1, outE_some, outE_none, outE_ite, agE_1, loopE_1, agE_2, loopE_2, agE_3, loopE_3, agE_4, loopE_4, agE_5, loopE_5, agE_6, loopE_6, agE_7, loopE_7, agE_8, loopE_8, agE_9, loopE_9, List.cons_append, List.nil_append, List.append_nil, split, List.take_succ_cons, List.take_zero, List.drop_succ_cons, List.drop_zero, wn, hi, wi, bt, hB, k1, w1, bt2, e2, k2, d1, d2, wl, wu, d3, d4, w2, wv, w3, w4, w5, d5, e0, b1, b2, b4, hkey, B1, hkeyd, hgi, hcc, c7, k44, hz', hmk, hbig]
        · intro x hx
          rcases List.mem_append.1 hx with hx | hx
          · exact i7 x hx
          · rw [List.mem_singleton.1 hx]; exact ⟨hy, hw⟩
        · simp only [List.drop_drop]
          rw [show (t + (k : Int) + m + v + 1).toNat + z = (t + (k : Int) + m + v + 1 + z).toNat by omega]
          generalize loose (n - (i + 1)).toNat key (b.drop (t + (k : Int) + m + v + 1 + z).toNat) = o
          cases o with
          | none => rfl
          | some z =>
            obtain ⟨xs, r'⟩ := z
            cases r' <;> simp [fin48]
  · refine .inr ?_
    rw [show (n - i).toNat = 0 by omega]
    simp only [loose]
    by_cases e1 : t = b.length
    · rw [List.drop_eq_nil_of_le (by omega)]
      have k33 := h33 l0 (by omega) (fun x hx => by have := (i7 x hx).1; omega)
      simp only [fin48, List.append_nil]
      by_cases hc : 1 ≤ l0.length ∧ l0.length ≤ 256 ∧ srt none l0 = true
      · have e33 : (decide (1 ≤ l0.length ∧ l0.length ≤ 256) && srt none l0) = true := by simp [hc.1, hc.2.1, hc.2.2]
        rw [e33] at k33
        have k34 := h34 l0 hc.2.1 hc.2.2 (fun x hx => (i7 x hx).2)
        have hlen := encL_len [] l0 (srt_ok _ l0 hc.2.2)
        have hP := putL_len [(l0.length : Int)] (by simp; omega)
        simp only [List.length_cons, List.length_nil] at hP
        have k21 := h21 (putL [(l0.length : Int)] ++ encL [] l0) b (by rw [List.length_append]; omega)
        generalize hX' : putL [(l0.length : Int)] ++ encL [] l0 = X at *
        by_cases hX : X = b
        · rw [decide_eq_true hX] at k21
          have hok : okL b l0 = l0 := if_pos ⟨hc.1, hc.2.1, hc.2.2, hX'.trans hX⟩
          simp -implicitDefEqProofs [↓den_start, ↓deb_op, ↓deb_ret, ↓deb_jump, ↓deb_itev, ↓deb_itel, ↓deb_loop, ↓deb_fail, ↓deb_nilcv, nilE_some, opE_some, debP_nil, debP_cons, pushL_nil, pushL_cons, retE_some, iteE_some, evB_nil, evB_v, evB_l, lkE_cons, consE_some, d_int, d_bool, d_str, d_nil, o_add, o_sub, o_mul, o_and, o_or, o_xor, o_andNot, o_quo, o_rem, o_shl, o_shr, o_eql, o_neq, o_lss, o_leq, o_gtr, o_geq, o_seql, o_sneq, o_slss, o_sleq, o_sgtr, o_sgeq, o_beql, o_bneq, o_scat, o_not, o_neg, o_com, o_conv, o_s2b, o_b2s, o_len, o_slen, o_inb, o_idx, o_sidx, o_sub3, o_sub2, o_ssub3, o_ssub2, o_app, o_apps, o_mk, mkE_some, consD_some, mkD_zero, mkD_int, mkD_str, mkD_sl, o_imin, o_imax, o_smin, o_smax, o_eqs, eqsE_some, eqC_nil, andE_some, eqC_int, eqC_bool, eqC_str, j1, outE_some, outE_none, outE_ite, agE_1, loopE_1, agE_2, loopE_2, agE_3, loopE_3, agE_4, loopE_4, agE_5, loopE_5, agE_6, loopE_6, agE_7, loopE_7, agE_8, loopE_8, agE_9, loopE_9, List.cons_append, List.nil_append, List.append_nil, split, List.take_succ_cons, List.take_zero, List.drop_succ_cons, List.drop_zero, wn, hi, e1, k33, k34, k21, hok]
        · rw [decide_eq_false hX] at k21
          have hok : okL b l0 = [] := if_neg (fun h => hX (hX'.symm.trans h.2.2.2))
          simp -implicitDefEqProofs [↓den_start, ↓deb_op, ↓deb_ret, ↓deb_jump, ↓deb_itev, ↓deb_itel, ↓deb_loop, ↓deb_fail, ↓deb_nilcv, nilE_some, opE_some, debP_nil, debP_cons, pushL_nil, pushL_cons, retE_some, iteE_some, evB_nil, evB_v, evB_l, lkE_cons, consE_some, d_int, d_bool, d_str, d_nil, o_add, o_sub, o_mul, o_and, o_or, o_xor, o_andNot, o_quo, o_rem, o_shl, o_shr, o_eql, o_neq, o_lss, o_leq, o_gtr, o_geq, o_seql, o_sneq, o_slss, o_sleq, o_sgtr, o_sgeq, o_beql, o_bneq, o_scat, o_not, o_neg, o_com, o_conv, o_s2b, o_b2s, o_len, o_slen, o_inb, o_idx, o_sidx, o_sub3, o_sub2, o_ssub3, o_ssub2, o_app, o_apps, o_mk, mkE_some, consD_some, mkD_zero, mkD_int, mkD_str, mkD_sl, o_imin, o_imax, o_smin, o_smax, o_eqs, eqsE_some, eqC_nil, andE_some, eqC_int, eqC_bool, eqC_str, j1, outE_some, outE_none, outE_ite, agE_1, loopE_1, agE_2, loopE_2, agE_3, loopE_3, agE_4, loopE_4, agE_5, loopE_5, agE_6, loopE_6, agE_7, loopE_7, agE_8, loopE_8, agE_9, loopE_9, List.cons_append, List.nil_append, List.append_nil, split, List.take_succ_cons, List.take_zero, List.drop_succ_cons, List.drop_zero, wn, hi, e1, k33, k34, k21, hok]
      · have e33 : (decide (1 ≤ l0.length ∧ l0.length ≤ 256) && srt none l0) = false := by
          rw [Bool.eq_false_iff]; intro h
          simp only [Bool.and_eq_true, decide_eq_true_eq] at h
          exact hc ⟨h.1.1, h.1.2, h.2⟩
        rw [e33] at k33
        have hok : okL b l0 = [] := if_neg (fun h => hc ⟨h.1, h.2.1, h.2.2.1⟩)
        simp -implicitDefEqProofs [↓den_start, ↓deb_op, ↓deb_ret, ↓deb_jump, ↓deb_itev, ↓deb_itel, ↓deb_loop, ↓deb_fail, ↓deb_nilcv, nilE_some, opE_some, debP_nil, debP_cons, pushL_nil, pushL_cons, retE_some, iteE_some, evB_nil, evB_v, evB_l, lkE_cons, consE_some, d_int, d_bool, d_str, d_nil, o_add, o_sub, o_mul, o_and, o_or, o_xor, o_andNot, o_quo, o_rem, o_shl, o_shr, o_eql, o_neq, o_lss, o_leq, o_gtr, o_geq, o_seql, o_sneq, o_slss, o_sleq, o_sgtr, o_sgeq, o_beql, o_bneq, o_scat, o_not, o_neg, o_com, o_conv, o_s2b, o_b2s, o_len, o_slen, o_inb, o_idx, o_sidx, o_sub3, o_sub2, o_ssub3, o_ssub2, o_app, o_apps, o_mk, mkE_some, consD_some, mkD_zero, mkD_int, mkD_str, mkD_sl, o_imin, o_imax, o_smin, o_smax, o_eqs, eqsE_some, eqC_nil, andE_some, eqC_int, eqC_bool, eqC_str, j1, outE_some, outE_none, outE_ite, agE_1, loopE_1, agE_2, loopE_2, agE_3, loopE_3, agE_4, loopE_4, agE_5, loopE_5, agE_6, loopE_6, agE_7, loopE_7, agE_8, loopE_8, agE_9, loopE_9, List.cons_append, List.nil_append, List.append_nil, split, List.take_succ_cons, List.take_zero, List.drop_succ_cons, List.drop_zero, wn, hi, e1, k33, hok]
    · have hne : b.drop t.toNat ≠ [] := by
        intro h
        have := congrArg List.length h
        rw [List.length_drop, List.length_nil] at this
        omega
      have e1' : ¬ t = (b.length : Int) := e1
      cases hD : b.drop t.toNat with
      | nil => exact absurd hD hne
      | cons d r =>
        simp -implicitDefEqProofs [↓den_start, ↓deb_op, ↓deb_ret, ↓deb_jump, ↓deb_itev, ↓deb_itel, ↓deb_loop, ↓deb_fail, ↓deb_nilcv, nilE_some, opE_some, debP_nil, debP_cons, pushL_nil, pushL_cons, retE_some, iteE_some, evB_nil, evB_v, evB_l, lkE_cons, consE_some, d_int, d_bool, d_str, d_nil, o_add, o_sub, o_mul, o_and, o_or, o_xor, o_andNot, o_quo, o_rem, o_shl, o_shr, o_eql, o_neq, o_lss, o_leq, o_gtr, o_geq, o_seql, o_sneq, o_slss, o_sleq, o_sgtr, o_sgeq, o_beql, o_bneq, o_scat, o_not, o_neg, o_com, o_conv, o_s2b, o_b2s, o_len, o_slen, o_inb, o_idx, o_sidx, o_sub3, o_sub2, o_ssub3, o_ssub2, o_app, o_apps, o_mk, mkE_some, consD_some, mkD_zero, mkD_int, mkD_str, mkD_sl, o_imin, o_imax, o_smin, o_smax, o_eqs, eqsE_some, eqC_nil, andE_some, eqC_int, eqC_bool, eqC_str, j1, outE_some, outE_none, outE_ite, agE_1, loopE_1, agE_2, loopE_2, agE_3, loopE_3, agE_4, loopE_4, agE_5, loopE_5, agE_6, loopE_6, agE_7, loopE_7, agE_8, loopE_8, agE_9, loopE_9, List.cons_append, List.nil_append, List.append_nil, split, List.take_succ_cons, List.take_zero, List.drop_succ_cons, List.drop_zero, wn, hi, e1, fin48]
theorem s48 {lc : List Ct} (hl0 : look (lc.map fun c => (c.sig.id, c)) 48 = some c48) : ∀ (b : List Int) (hb : ∀ c ∈ b, 0 ≤ c ∧ c < 256) (hl : b.length < 10000000000), Does1 (Phi lc) 48 [⟨.sl (.int .u8), b⟩] [⟨.sl ItT, refGet b⟩] :=
  fun b hb hl => Does1.of hl0 (f48 b hb hl) rfl
end Go.Proofs.Ytdjknicjnaiomaa.Sx

set_option maxHeartbeats 1600000
/- What the reference reads is what the block's Get reads; a key's item. -/
namespace Go.Proofs.Ytdjknicjnaiomaa.Sx

theorem ltL_trans : ∀ (x y z : List Int), ltL x y = true → ltL y z = true → ltL x z = true
  | x, y, [], _, h => by cases y <;> simp [ltL] at h
  | x, [], z :: w, h, _ => by cases x <;> simp [ltL] at h
  | [], _ :: _, _ :: _, _, _ => by simp [ltL]
  | a :: x, b :: y, c :: z, h1, h2 => by
    simp only [ltL, Bool.or_eq_true, decide_eq_true_eq, Bool.and_eq_true] at h1 h2 ⊢
    rcases h1 with h1 | ⟨h1, k1⟩ <;> rcases h2 with h2 | ⟨h2, k2⟩
    · exact .inl (by omega)
    · exact .inl (by omega)
    · exact .inl (by omega)
    · exact .inr ⟨by omega, ltL_trans x y z k1 k2⟩

theorem srt_lt : ∀ (p : List Int) (l : List It), srt (some p) l = true → ∀ x ∈ l, ltL p x.1 = true
  | p, [], _, x, hx => by cases hx
  | p, y :: l, h, x, hx => by
    simp only [srt, Bool.and_eq_true, decide_eq_true_eq] at h
    rcases List.mem_cons.1 hx with rfl | hx
    · exact h.1.2
    · exact ltL_trans _ _ _ h.1.2 (srt_lt y.1 l h.2 x hx)

def findI (key : List Int) : List It → Option It
  | [] => none
  | x :: r => if x.1 = key then some x else findI key r
abbrev zI : It := ([], false, false, [], 0, 0, 0, 0)
def itD (x : It) : List D := [⟨.str, x.1⟩, ⟨.bool, x.2.1⟩, ⟨.bool, x.2.2.1⟩, ⟨.sl (.int .u8), x.2.2.2.1⟩, ⟨.int .i64, x.2.2.2.2.1⟩, ⟨.int .i64, x.2.2.2.2.2.1⟩, ⟨.int .i64, x.2.2.2.2.2.2.1⟩, ⟨.int .u32, x.2.2.2.2.2.2.2⟩]

theorem find_key : ∀ (key : List Int) (l : List It) (x : It), findI key l = some x → x.1 = key ∧ x ∈ l
  | _, [], _, h => by cases h
  | key, y :: l, x, h => by
    simp only [findI] at h
    split at h
    · rename_i hk
      simp only [Option.some.injEq] at h
      subst h
      exact ⟨hk, by simp⟩
    · have := find_key key l x h
      exact ⟨this.1, by simp [this.2]⟩

theorem find_srt : ∀ (p : Option (List Int)) (l : List It), srt p l = true → ∀ x ∈ l, findI x.1 l = some x
  | _, [], _, x, hx => by cases hx
  | p, y :: l, h, x, hx => by
    simp only [srt, Bool.and_eq_true] at h
    rcases List.mem_cons.1 hx with rfl | hx
    · simp [findI]
    · have hlt := srt_lt _ _ h.2 x hx
      have hne : ¬ y.1 = x.1 := fun e => (ltL_asymm _ _ hlt).2 e.symm
      simp only [findI, if_neg hne]
      exact find_srt _ l h.2 x hx

theorem looseI_enc {last : List Int} {x : It} {r : List Int} (hx : itErr x = 0) (hm : 0 ≤ x.2.2.2.2.2.2.2 ∧ x.2.2.2.2.2.2.2 < 4294967296) : looseI last (encI last x ++ r) = some (x, r) := by
  obtain ⟨k, d, f, b, s, a, n, m⟩ := x
  simp only [itErr] at hx
  obtain ⟨q1, q2, q3⟩ := iErr_ok hx
  obtain ⟨a1, a2⟩ := alike_le last k
  simp only at hm
  have htk := alike_take last k
  simp only [encI]
  generalize hA : alike last k = A at *
  generalize hR : (if d = true then [1] else 0 :: putC f b s a n m) ++ r = R
  have hR' : putL [(A : Int), (k.length : Int) - A] ++ (k.drop A ++ (if d = true then [1] else 0 :: putC f b s a n m)) ++ r = one A ++ (one (k.length - A) ++ (k.drop A ++ R)) := by
    rw [← hR]; simp only [putL, List.map_cons, List.map_nil, List.flatten_cons, List.flatten_nil, List.append_assoc, List.append_nil]
    rw [show (A : Int).toNat = A by omega, show ((k.length : Int) - A).toNat = k.length - A by omega]
  rw [hR']
  obtain ⟨v1, n1⟩ := gv_one A (one (k.length - A) ++ (k.drop A ++ R)) (by omega)
  obtain ⟨v2, n2⟩ := gv_one (k.length - A) (k.drop A ++ R) (by omega)
  have p1 := one_pos A; have p2 := one_pos (k.length - A)
  have hkl : (k.drop A).length = k.length - A := by rw [List.length_drop]
  unfold looseI
  simp only [v1, n1, List.drop_left, v2, n2]
  rw [if_neg (by omega)]
  have d1 : (one A ++ (one (k.length - A) ++ (k.drop A ++ R))).drop ((one A).length + (one (k.length - A)).length + ((k.length - A : Nat) : Int).toNat) = R := by
    rw [Int.toNat_natCast, ← List.drop_drop, ← List.drop_drop, List.drop_left, List.drop_left, ← hkl, List.drop_left]
  have d2 : ((one A ++ (one (k.length - A) ++ (k.drop A ++ R))).drop ((one A).length + (one (k.length - A)).length)).take ((k.length - A : Nat) : Int).toNat = k.drop A := by
    rw [Int.toNat_natCast, ← List.drop_drop, List.drop_left, List.drop_left, ← hkl, List.take_left]
  have hkey : last.take (A : Int).toNat ++ k.drop A = k := by
    rw [Int.toNat_natCast, htk, List.take_append_drop]
  rw [d1, d2, hkey]
  cases d
  · simp only [Bool.false_eq_true, if_false, List.cons_append] at hR
    subst hR
    have hg := getC_putC f b s a n m r q3 hm.1 hm.2
    simp only [hg]
    simp
  · simp only [if_true, List.cons_append, List.nil_append] at hR
    subst hR
    have hz : f = false ∧ b = [] ∧ s = 0 ∧ a = 0 ∧ n = 0 ∧ m = 0 := by
      unfold iErr at hx
      split at hx
      · cases hx
      · rename_i hn
        exact Decidable.not_not.1 (fun h => hn (.inr (.inr ⟨rfl, h⟩)))
    obtain ⟨rfl, rfl, rfl, rfl, rfl, rfl⟩ := hz
    simp

theorem loose_enc : ∀ (l : List It) (last r : List Int), (∀ x ∈ l, itErr x = 0) → (∀ x ∈ l, 0 ≤ x.2.2.2.2.2.2.2 ∧ x.2.2.2.2.2.2.2 < 4294967296) → loose l.length last (encL last l ++ r) = some (l, r)
  | [], last, r, _, _ => by simp [loose, encL]
  | x :: l, last, r, h, hm => by
    have hn := looseI_enc (last := last) (x := x) (r := encL x.1 l ++ r) (h x (by simp)) (hm x (by simp))
    have ih := loose_enc l x.1 r (fun y hy => h y (by simp [hy])) (fun y hy => hm y (by simp [hy]))
    simp only [List.length_cons, loose, encL, List.append_assoc, hn, ih]

theorem looseI_rng {last b : List Int} (hb : ∀ c ∈ b, 0 ≤ c ∧ c < 256) {x : It} {r : List Int} (h : looseI last b = some (x, r)) :
    (∀ c ∈ r, 0 ≤ c ∧ c < 256) ∧ 0 ≤ x.2.2.2.2.2.2.2 ∧ x.2.2.2.2.2.2.2 < 4294967296 := by
  unfold looseI at h
  split at h
  · cases h
  · split at h
    · rename_i c r' hd
      have hsub : ∀ d ∈ c :: r', d ∈ b := by rw [← hd]; exact fun d h => List.mem_of_mem_drop h
      have hbr : ∀ d ∈ r', 0 ≤ d ∧ d < 256 := fun d hd' => hb d (hsub d (List.mem_cons_of_mem _ hd'))
      split at h
      · simp only [Option.some.injEq, Prod.mk.injEq] at h
        obtain ⟨rfl, rfl⟩ := h
        exact ⟨hbr, by simp, by simp⟩
      · split at h
        · rename_i hg
          simp only [Option.some.injEq, Prod.mk.injEq] at h
          obtain ⟨rfl, rfl⟩ := h
          exact ⟨fun c hc => hbr c (List.mem_of_mem_drop hc), (getC_inv hbr hg).2.2⟩
        · cases h
    · cases h

theorem loose_rng : ∀ (n : Nat) (last b : List Int) (l : List It) (r : List Int), (∀ c ∈ b, 0 ≤ c ∧ c < 256) → loose n last b = some (l, r) →
    ∀ x ∈ l, 0 ≤ x.2.2.2.2.2.2.2 ∧ x.2.2.2.2.2.2.2 < 4294967296
  | 0, last, b, l, r, _, h => by
    simp only [loose, Option.some.injEq, Prod.mk.injEq] at h
    obtain ⟨rfl, rfl⟩ := h
    intro x hx; cases hx
  | n + 1, last, b, l, r, hb, h => by
    simp only [loose] at h
    split at h
    · rename_i x r1 hx
      split at h
      · rename_i xs r2 hi
        simp only [Option.some.injEq, Prod.mk.injEq] at h
        obtain ⟨rfl, rfl⟩ := h
        obtain ⟨k1, k2⟩ := looseI_rng hb hx
        intro y hy
        rcases List.mem_cons.1 hy with rfl | hy
        · exact k2
        · exact loose_rng n x.1 r1 xs r2 k1 hi y hy
      · cases h
    · cases h

theorem refGet_eq {b : List Int} (hb : ∀ c ∈ b, 0 ≤ c ∧ c < 256) : refGet b = (blkGet b).getD [] := by
  cases h : blkGet b with
  | some l =>
    obtain ⟨h1, h2, h3, h4, h5⟩ := blkGet_inv hb h
    have e : putL [(l.length : Int)] = one l.length := by simp [putL]
    have p := one_pos l.length
    obtain ⟨v1, n1⟩ := gv_one l.length (encL [] l) (by omega)
    have hi := loose_enc l [] [] (srt_ok _ l h4) h5
    rw [List.append_nil] at hi
    rw [← e, ← h1] at v1
    rw [← e, ← h1, e] at n1
    have hd : b.drop (gvN b) = encL [] l := by
      rw [n1]; conv => lhs; rw [h1, e]
      exact List.drop_left
    unfold refGet
    rw [hd, v1, n1, if_neg (by omega), Int.toNat_natCast, hi]
    simp only [okL, Option.getD_some]
    rw [if_pos ⟨h2, h3, h4, h1.symm⟩]
  | none =>
    simp only [Option.getD_none]
    unfold refGet
    split
    · rfl
    · split
      · rename_i l hl
        have hr := loose_rng _ _ _ _ _ (fun c hc => hb c (List.mem_of_mem_drop hc)) hl
        unfold okL
        split
        · rename_i hc
          have := blkGet_enc hc.1 hc.2.1 hc.2.2.1 hr
          rw [hc.2.2.2, h] at this
          cases this
        · rfl
      · rfl
end Go.Proofs.Ytdjknicjnaiomaa.Sx

set_option maxHeartbeats 1600000
/- A key's item; same items. -/
namespace Go.Proofs.Ytdjknicjnaiomaa.Sx

instance : DecidableEq It := fun x y => decidable_of_iff (x.1 = y.1 ∧ x.2.1 = y.2.1 ∧ x.2.2.1 = y.2.2.1 ∧ x.2.2.2.1 = y.2.2.2.1 ∧ x.2.2.2.2.1 = y.2.2.2.2.1 ∧ x.2.2.2.2.2.1 = y.2.2.2.2.2.1 ∧ x.2.2.2.2.2.2.1 = y.2.2.2.2.2.2.1 ∧ x.2.2.2.2.2.2.2 = y.2.2.2.2.2.2.2)
  (by obtain ⟨a, b, c, d, e, f, g, h⟩ := x; obtain ⟨a', b', c', d', e', f', g', h'⟩ := y; simp only [Prod.mk.injEq])

theorem f52 (x y : It) (hx : x.2.2.2.1.length < 1000000000) : F52 (itD x ++ itD y) = some [⟨.bool, decide (x = y)⟩] := by
  have h18 := s18 (lc := [c18]) rfl
  simp only [F52, Fof, ir52]
  generalize Phi [c18] = Φ at *
  obtain ⟨k, d, f, b, s, a, n, m⟩ := x
  obtain ⟨k', d', f', b', s', a', n', m'⟩ := y
  have k18 := h18 f f' b b' s a n m s' a' n' m' hx
  simp only [itD, List.cons_append, List.nil_append]
  by_cases c1 : k = k'
  · by_cases c2 : d = d'
    · have e : (f == f' && decide (s = s' ∧ a = a' ∧ n = n' ∧ m = m') && decide (b = b')) = decide ((k, d, f, b, s, a, n, m) = (k', d', f', b', s', a', n', m')) := by
        rw [Bool.eq_iff_iff]
        simp only [Bool.and_eq_true, beq_iff_eq, decide_eq_true_eq, Prod.mk.injEq, c1, c2, true_and]
        constructor
        · rintro ⟨⟨h1, h2⟩, h3⟩; exact ⟨h1, h3, h2⟩
        · rintro ⟨h1, h3, h2⟩; exact ⟨⟨h1, h2⟩, h3⟩
      rw [e] at k18
      generalize decide ((k, d, f, b, s, a, n, m) = (k', d', f', b', s', a', n', m')) = R at *
      simp -implicitDefEqProofs [↓den_start, ↓deb_op, ↓deb_ret, ↓deb_jump, ↓deb_itev, ↓deb_itel, ↓deb_loop, ↓deb_fail, ↓deb_nilcv, nilE_some, opE_some, debP_nil, debP_cons, pushL_nil, pushL_cons, retE_some, iteE_some, evB_nil, evB_v, evB_l, lkE_cons, consE_some, d_int, d_bool, d_str, d_nil, o_add, o_sub, o_mul, o_and, o_or, o_xor, o_andNot, o_quo, o_rem, o_shl, o_shr, o_eql, o_neq, o_lss, o_leq, o_gtr, o_geq, o_seql, o_sneq, o_slss, o_sleq, o_sgtr, o_sgeq, o_beql, o_bneq, o_scat, o_not, o_neg, o_com, o_conv, o_s2b, o_b2s, o_len, o_slen, o_inb, o_idx, o_sidx, o_sub3, o_sub2, o_ssub3, o_ssub2, o_app, o_apps, o_mk, mkE_some, consD_some, mkD_zero, mkD_int, mkD_str, mkD_sl, o_imin, o_imax, o_smin, o_smax, o_eqs, eqsE_some, eqC_nil, andE_some, eqC_int, eqC_bool, eqC_str, j1, outE_some, outE_none, outE_ite, agE_1, loopE_1, agE_2, loopE_2, agE_3, loopE_3, agE_4, loopE_4, agE_5, loopE_5, agE_6, loopE_6, agE_7, loopE_7, agE_8, loopE_8, agE_9, loopE_9, List.cons_append, List.nil_append, List.append_nil, split, List.take_succ_cons, List.take_zero, List.drop_succ_cons, List.drop_zero, c1, c2, k18]
    · simp -implicitDefEqProofs [↓den_start, ↓deb_op, ↓deb_ret, ↓deb_jump, ↓deb_itev, ↓deb_itel, ↓deb_loop, ↓deb_fail, ↓deb_nilcv, nilE_some, opE_some, debP_nil, debP_cons, pushL_nil, pushL_cons, retE_some, iteE_some, evB_nil, evB_v, evB_l, lkE_cons, consE_some, d_int, d_bool, d_str, d_nil, o_add, o_sub, o_mul, o_and, o_or, o_xor, o_andNot, o_quo, o_rem, o_shl, o_shr, o_eql, o_neq, o_lss, o_leq, o_gtr, o_geq, o_seql, o_sneq, o_slss, o_sleq, o_sgtr, o_sgeq, o_beql, o_bneq, o_scat, o_not, o_neg, o_com, o_conv, o_s2b, o_b2s, o_len, o_slen, o_inb, o_idx, o_sidx, o_sub3, o_sub2, o_ssub3, o_ssub2, o_app, o_apps, o_mk, mkE_some, consD_some, mkD_zero, mkD_int, mkD_str, mkD_sl, o_imin, o_imax, o_smin, o_smax, o_eqs, eqsE_some, eqC_nil, andE_some, eqC_int, eqC_bool, eqC_str, j1, outE_some, outE_none, outE_ite, agE_1, loopE_1, agE_2, loopE_2, agE_3, loopE_3, agE_4, loopE_4, agE_5, loopE_5, agE_6, loopE_6, agE_7, loopE_7, agE_8, loopE_8, agE_9, loopE_9, List.cons_append, List.nil_append, List.append_nil, split, List.take_succ_cons, List.take_zero, List.drop_succ_cons, List.drop_zero, c1, c2]
  · simp -implicitDefEqProofs [↓den_start, ↓deb_op, ↓deb_ret, ↓deb_jump, ↓deb_itev, ↓deb_itel, ↓deb_loop, ↓deb_fail, ↓deb_nilcv, nilE_some, opE_some, debP_nil, debP_cons, pushL_nil, pushL_cons, retE_some, iteE_some, evB_nil, evB_v, evB_l, lkE_cons, consE_some, d_int, d_bool, d_str, d_nil, o_add, o_sub, o_mul, o_and, o_or, o_xor, o_andNot, o_quo, o_rem, o_shl, o_shr, o_eql, o_neq, o_lss, o_leq, o_gtr, o_geq, o_seql, o_sneq, o_slss, o_sleq, o_sgtr, o_sgeq, o_beql, o_bneq, o_scat, o_not, o_neg, o_com, o_conv, o_s2b, o_b2s, o_len, o_slen, o_inb, o_idx, o_sidx, o_sub3, o_sub2, o_ssub3, o_ssub2, o_app, o_apps, o_mk, mkE_some, consD_some, mkD_zero, mkD_int, mkD_str, mkD_sl, o_imin, o_imax, o_smin, o_smax, o_eqs, eqsE_some, eqC_nil, andE_some, eqC_int, eqC_bool, eqC_str, j1, outE_some, outE_none, outE_ite, agE_1, loopE_1, agE_2, loopE_2, agE_3, loopE_3, agE_4, loopE_4, agE_5, loopE_5, agE_6, loopE_6, agE_7, loopE_7, agE_8, loopE_8, agE_9, loopE_9, List.cons_append, List.nil_append, List.append_nil, split, List.take_succ_cons, List.take_zero, List.drop_succ_cons, List.drop_zero, c1]
theorem s52 {lc : List Ct} (hl0 : look (lc.map fun c => (c.sig.id, c)) 52 = some c52) : ∀ (x y : It) (hx : x.2.2.2.1.length < 1000000000), Does1 (Phi lc) 52 (itD x ++ itD y) [⟨.bool, decide (x = y)⟩] :=
  fun x y hx => Does1.of hl0 (f52 x y hx) rfl
theorem f50 (l w : List It) (hl : l.length < 1000000) (hb : ∀ x ∈ l, x.2.2.2.1.length < 1000000000) : F50 [⟨.sl ItT, l⟩, ⟨.sl ItT, w⟩] = some [⟨.bool, decide (l = w)⟩] := by
  have h52 := s52 (lc := [c52]) rfl
  simp only [F50, Fof, ir50]
  generalize Phi [c52] = Φ at *
  by_cases hlen : l.length = w.length
  · have hlen' : (l.length : Int) = w.length := by omega
    simp -implicitDefEqProofs [↓den_start, ↓deb_op, ↓deb_ret, ↓deb_jump, ↓deb_itev, ↓deb_itel, ↓deb_loop, ↓deb_fail, ↓deb_nilcv, nilE_some, opE_some, debP_nil, debP_cons, pushL_nil, pushL_cons, retE_some, iteE_some, evB_nil, evB_v, evB_l, lkE_cons, consE_some, d_int, d_bool, d_str, d_nil, o_add, o_sub, o_mul, o_and, o_or, o_xor, o_andNot, o_quo, o_rem, o_shl, o_shr, o_eql, o_neq, o_lss, o_leq, o_gtr, o_geq, o_seql, o_sneq, o_slss, o_sleq, o_sgtr, o_sgeq, o_beql, o_bneq, o_scat, o_not, o_neg, o_com, o_conv, o_s2b, o_b2s, o_len, o_slen, o_inb, o_idx, o_sidx, o_sub3, o_sub2, o_ssub3, o_ssub2, o_app, o_apps, o_mk, mkE_some, consD_some, mkD_zero, mkD_int, mkD_str, mkD_sl, o_imin, o_imax, o_smin, o_smax, o_eqs, eqsE_some, eqC_nil, andE_some, eqC_int, eqC_bool, eqC_str, j1, outE_some, outE_none, outE_ite, agE_1, loopE_1, agE_2, loopE_2, agE_3, loopE_3, agE_4, loopE_4, agE_5, loopE_5, agE_6, loopE_6, agE_7, loopE_7, agE_8, loopE_8, agE_9, loopE_9, List.cons_append, List.nil_append, List.append_nil, split, List.take_succ_cons, List.take_zero, List.drop_succ_cons, List.drop_zero, hlen']
    refine (iter_meas (fun s : Int => (l.length - s).toNat) (fun s => ([⟨.bool, decide (l.drop s.toNat = w.drop s.toNat)⟩] : List D)) (fun s => 0 ≤ s ∧ s ≤ l.length) (by exact ⟨by omega, by omega⟩) ?_).trans (by simp)
    rintro i ⟨h1, h2⟩
    by_cases hi : i < w.length
    · rw [dropI h1 (by omega), dropI (l := w) h1 (by omega)]
      have g1 := getG (l := l) (d := dflt ItT) h1 (by omega)
      have g2 := getG (l := w) (d := dflt ItT) h1 (by omega)
      have hx := hb (l[i.toNat]'(by omega)) (List.getElem_mem _)
      have k52 := h52 (l[i.toNat]'(by omega)) (w[i.toNat]'(by omega)) hx
      simp only [itD, List.cons_append, List.nil_append] at k52
      have b1 : 0 ≤ i ∧ i < (w.length : Int) := ⟨h1, hi⟩
      have wi : IntKind.i64.wrap (i + 1) = i + 1 := wi64 _ (by omega) (by omega)
      generalize hcx : l[i.toNat]'(by omega) = x at *
      generalize hcy : w[i.toNat]'(by omega) = y at *
      by_cases he : x = y
      · rw [decide_eq_true he] at k52
        refine .inl ⟨i + 1, ?_, ⟨by omega, by omega⟩, by omega, ?_⟩
        · simp -implicitDefEqProofs [↓den_start, ↓deb_op, ↓deb_ret, ↓deb_jump, ↓deb_itev, ↓deb_itel, ↓deb_loop, ↓deb_fail, ↓deb_nilcv, nilE_some, opE_some, debP_nil, debP_cons, pushL_nil, pushL_cons, retE_some, iteE_some, evB_nil, evB_v, evB_l, lkE_cons, consE_some, d_int, d_bool, d_str, d_nil, o_add, o_sub, o_mul, o_and, o_or, o_xor, o_andNot, o_quo, o_rem, o_shl, o_shr, o_eql, o_neq, o_lss, o_leq, o_gtr, o_geq, o_seql, o_sneq, o_slss, o_sleq, o_sgtr, o_sgeq, o_beql, o_bneq, o_scat, o_not, o_neg, o_com, o_conv, o_s2b, o_b2s, o_len, o_slen, o_inb, o_idx, o_sidx, o_sub3, o_sub2, o_ssub3, o_ssub2, o_app, o_apps, o_mk, mkE_some, consD_some, mkD_zero, mkD_int, mkD_str, mkD_sl, o_imin, o_imax, o_smin, o_smax, o_eqs, eqsE_some, eqC_nil, andE_some, eqC_int, eqC_bool, eqC_str, j1, outE_some, outE_none, outE_ite, agE_1, loopE_1, agE_2, loopE_2, agE_3, loopE_3, agE_4, loopE_4, agE_5, loopE_5, agE_6, loopE_6, agE_7, loopE_7, agE_8, loopE_8, agE_9, loopE_9, List.cons_append, List.nil_append, List.append_nil, split, List.take_succ_cons, List.take_zero, List.drop_succ_cons, List.drop_zero, hlen', hi, b1, g1, g2, hcx, hcy, k52, wi]
        · rw [he]; simp
      · rw [decide_eq_false he] at k52
        refine .inr ?_
        have hne : ¬ (x :: l.drop (i + 1).toNat : List It) = y :: w.drop (i + 1).toNat := fun e => he (List.cons.inj e).1
        rw [decide_eq_false hne]
        simp -implicitDefEqProofs [↓den_start, ↓deb_op, ↓deb_ret, ↓deb_jump, ↓deb_itev, ↓deb_itel, ↓deb_loop, ↓deb_fail, ↓deb_nilcv, nilE_some, opE_some, debP_nil, debP_cons, pushL_nil, pushL_cons, retE_some, iteE_some, evB_nil, evB_v, evB_l, lkE_cons, consE_some, d_int, d_bool, d_str, d_nil, o_add, o_sub, o_mul, o_and, o_or, o_xor, o_andNot, o_quo, o_rem, o_shl, o_shr, o_eql, o_neq, o_lss, o_leq, o_gtr, o_geq, o_seql, o_sneq, o_slss, o_sleq, o_sgtr, o_sgeq, o_beql, o_bneq, o_scat, o_not, o_neg, o_com, o_conv, o_s2b, o_b2s, o_len, o_slen, o_inb, o_idx, o_sidx, o_sub3, o_sub2, o_ssub3, o_ssub2, o_app, o_apps, o_mk, mkE_some, consD_some, mkD_zero, mkD_int, mkD_str, mkD_sl, o_imin, o_imax, o_smin, o_smax, o_eqs, eqsE_some, eqC_nil, andE_some, eqC_int, eqC_bool, eqC_str, j1, outE_some, outE_none, outE_ite, agE_1, loopE_1, agE_2, loopE_2, agE_3, loopE_3, agE_4, loopE_4, agE_5, loopE_5, agE_6, loopE_6, agE_7, loopE_7, agE_8, loopE_8, agE_9, loopE_9, List.cons_append, List.nil_append, List.append_nil, split, List.take_succ_cons, List.take_zero, List.drop_succ_cons, List.drop_zero, hlen', hi, b1, g1, g2, hcx, hcy, k52]
    · refine .inr ?_
      rw [List.drop_eq_nil_of_le (by omega), List.drop_eq_nil_of_le (by omega)]
      simp -implicitDefEqProofs [↓den_start, ↓deb_op, ↓deb_ret, ↓deb_jump, ↓deb_itev, ↓deb_itel, ↓deb_loop, ↓deb_fail, ↓deb_nilcv, nilE_some, opE_some, debP_nil, debP_cons, pushL_nil, pushL_cons, retE_some, iteE_some, evB_nil, evB_v, evB_l, lkE_cons, consE_some, d_int, d_bool, d_str, d_nil, o_add, o_sub, o_mul, o_and, o_or, o_xor, o_andNot, o_quo, o_rem, o_shl, o_shr, o_eql, o_neq, o_lss, o_leq, o_gtr, o_geq, o_seql, o_sneq, o_slss, o_sleq, o_sgtr, o_sgeq, o_beql, o_bneq, o_scat, o_not, o_neg, o_com, o_conv, o_s2b, o_b2s, o_len, o_slen, o_inb, o_idx, o_sidx, o_sub3, o_sub2, o_ssub3, o_ssub2, o_app, o_apps, o_mk, mkE_some, consD_some, mkD_zero, mkD_int, mkD_str, mkD_sl, o_imin, o_imax, o_smin, o_smax, o_eqs, eqsE_some, eqC_nil, andE_some, eqC_int, eqC_bool, eqC_str, j1, outE_some, outE_none, outE_ite, agE_1, loopE_1, agE_2, loopE_2, agE_3, loopE_3, agE_4, loopE_4, agE_5, loopE_5, agE_6, loopE_6, agE_7, loopE_7, agE_8, loopE_8, agE_9, loopE_9, List.cons_append, List.nil_append, List.append_nil, split, List.take_succ_cons, List.take_zero, List.drop_succ_cons, List.drop_zero, hi]
  · have hlen' : ¬ (l.length : Int) = w.length := by omega
    have hne : ¬ l = w := fun e => hlen (by rw [e])
    rw [decide_eq_false hne]
    simp -implicitDefEqProofs [↓den_start, ↓deb_op, ↓deb_ret, ↓deb_jump, ↓deb_itev, ↓deb_itel, ↓deb_loop, ↓deb_fail, ↓deb_nilcv, nilE_some, opE_some, debP_nil, debP_cons, pushL_nil, pushL_cons, retE_some, iteE_some, evB_nil, evB_v, evB_l, lkE_cons, consE_some, d_int, d_bool, d_str, d_nil, o_add, o_sub, o_mul, o_and, o_or, o_xor, o_andNot, o_quo, o_rem, o_shl, o_shr, o_eql, o_neq, o_lss, o_leq, o_gtr, o_geq, o_seql, o_sneq, o_slss, o_sleq, o_sgtr, o_sgeq, o_beql, o_bneq, o_scat, o_not, o_neg, o_com, o_conv, o_s2b, o_b2s, o_len, o_slen, o_inb, o_idx, o_sidx, o_sub3, o_sub2, o_ssub3, o_ssub2, o_app, o_apps, o_mk, mkE_some, consD_some, mkD_zero, mkD_int, mkD_str, mkD_sl, o_imin, o_imax, o_smin, o_smax, o_eqs, eqsE_some, eqC_nil, andE_some, eqC_int, eqC_bool, eqC_str, j1, outE_some, outE_none, outE_ite, agE_1, loopE_1, agE_2, loopE_2, agE_3, loopE_3, agE_4, loopE_4, agE_5, loopE_5, agE_6, loopE_6, agE_7, loopE_7, agE_8, loopE_8, agE_9, loopE_9, List.cons_append, List.nil_append, List.append_nil, split, List.take_succ_cons, List.take_zero, List.drop_succ_cons, List.drop_zero, hlen']
theorem s50 {lc : List Ct} (hl0 : look (lc.map fun c => (c.sig.id, c)) 50 = some c50) : ∀ (l w : List It) (hl : l.length < 1000000) (hb : ∀ x ∈ l, x.2.2.2.1.length < 1000000000), Does1 (Phi lc) 50 [⟨.sl ItT, l⟩, ⟨.sl ItT, w⟩] [⟨.bool, decide (l = w)⟩] :=
  fun l w hl hb => Does1.of hl0 (f50 l w hl hb) rfl
theorem f51 (l : List It) (key : List Int) (hl : l.length < 1000000) : F51 [⟨.sl ItT, l⟩, ⟨.str, key⟩] = some (itD ((findI key l).getD zI)) := by
  simp only [F51, Fof, ir51]
  simp -implicitDefEqProofs [↓den_start, ↓deb_op, ↓deb_ret, ↓deb_jump, ↓deb_itev, ↓deb_itel, ↓deb_loop, ↓deb_fail, ↓deb_nilcv, nilE_some, opE_some, debP_nil, debP_cons, pushL_nil, pushL_cons, retE_some, iteE_some, evB_nil, evB_v, evB_l, lkE_cons, consE_some, d_int, d_bool, d_str, d_nil, o_add, o_sub, o_mul, o_and, o_or, o_xor, o_andNot, o_quo, o_rem, o_shl, o_shr, o_eql, o_neq, o_lss, o_leq, o_gtr, o_geq, o_seql, o_sneq, o_slss, o_sleq, o_sgtr, o_sgeq, o_beql, o_bneq, o_scat, o_not, o_neg, o_com, o_conv, o_s2b, o_b2s, o_len, o_slen, o_inb, o_idx, o_sidx, o_sub3, o_sub2, o_ssub3, o_ssub2, o_app, o_apps, o_mk, mkE_some, consD_some, mkD_zero, mkD_int, mkD_str, mkD_sl, o_imin, o_imax, o_smin, o_smax, o_eqs, eqsE_some, eqC_nil, andE_some, eqC_int, eqC_bool, eqC_str, j1, outE_some, outE_none, outE_ite, agE_1, loopE_1, agE_2, loopE_2, agE_3, loopE_3, agE_4, loopE_4, agE_5, loopE_5, agE_6, loopE_6, agE_7, loopE_7, agE_8, loopE_8, agE_9, loopE_9, List.cons_append, List.nil_append, List.append_nil, split, List.take_succ_cons, List.take_zero, List.drop_succ_cons, List.drop_zero]
  refine (iter_meas (fun s : Int => (l.length - s).toNat) (fun s => itD ((findI key (l.drop s.toNat)).getD zI)) (fun s => 0 ≤ s ∧ s ≤ l.length) (by exact ⟨by omega, by omega⟩) ?_).trans (by simp)
  rintro i ⟨h1, h2⟩
  by_cases hi : i < l.length
  · rw [dropI h1 (by omega)]
    have g1 := getG (l := l) (d := dflt ItT) h1 (by omega)
    have b1 : 0 ≤ i ∧ i < (l.length : Int) := ⟨h1, hi⟩
    have wi : IntKind.i64.wrap (i + 1) = i + 1 := wi64 _ (by omega) (by omega)
    generalize hcx : l[i.toNat]'(by omega) = x at *
    by_cases he : x.1 = key
    · refine .inr ?_
      simp only [findI, if_pos he, Option.getD_some, itD]
      simp -implicitDefEqProofs [↓den_start, ↓deb_op, ↓deb_ret, ↓deb_jump, ↓deb_itev, ↓deb_itel, ↓deb_loop, ↓deb_fail, ↓deb_nilcv, nilE_some, opE_some, debP_nil, debP_cons, pushL_nil, pushL_cons, retE_some, iteE_some, evB_nil, evB_v, evB_l, lkE_cons, consE_some, d_int, d_bool, d_str, d_nil, o_add, o_sub, o_mul, o_and, o_or, o_xor, o_andNot, o_quo, o_rem, o_shl, o_shr, o_eql, o_neq, o_lss, o_leq, o_gtr, o_geq, o_seql, o_sneq, o_slss, o_sleq, o_sgtr, o_sgeq, o_beql, o_bneq, o_scat, o_not, o_neg, o_com, o_conv, o_s2b, o_b2s, o_len, o_slen, o_inb, o_idx, o_sidx, o_sub3, o_sub2, o_ssub3, o_ssub2, o_app, o_apps, o_mk, mkE_some, consD_some, mkD_zero, mkD_int, mkD_str, mkD_sl, o_imin, o_imax, o_smin, o_smax, o_eqs, eqsE_some, eqC_nil, andE_some, eqC_int, eqC_bool, eqC_str, j1, outE_some, outE_none, outE_ite, agE_1, loopE_1, agE_2, loopE_2, agE_3, loopE_3, agE_4, loopE_4, agE_5, loopE_5, agE_6, loopE_6, agE_7, loopE_7, agE_8, loopE_8, agE_9, loopE_9, List.cons_append, List.nil_append, List.append_nil, split, List.take_succ_cons, List.take_zero, List.drop_succ_cons, List.drop_zero, hi, b1, g1, hcx, he]
    · refine .inl ⟨i + 1, ?_, ⟨by omega, by omega⟩, by omega, ?_⟩
      · simp -implicitDefEqProofs [↓den_start, ↓deb_op, ↓deb_ret, ↓deb_jump, ↓deb_itev, ↓deb_itel, ↓deb_loop, ↓deb_fail, ↓deb_nilcv, nilE_some, opE_some, debP_nil, debP_cons, pushL_nil, pushL_cons, retE_some, iteE_some, evB_nil, evB_v, evB_l, lkE_cons, consE_some, d_int, d_bool, d_str, d_nil, o_add, o_sub, o_mul, o_and, o_or, o_xor, o_andNot, o_quo, o_rem, o_shl, o_shr, o_eql, o_neq, o_lss, o_leq, o_gtr, o_geq, o_seql, o_sneq, o_slss, o_sleq, o_sgtr, o_sgeq, o_beql, o_bneq, o_scat, o_not, o_neg, o_com, o_conv, o_s2b, o_b2s, o_len, o_slen, o_inb, o_idx, o_sidx, o_sub3, o_sub2, o_ssub3, o_ssub2, o_app, o_apps, o_mk, mkE_some, consD_some, mkD_zero, mkD_int, mkD_str, mkD_sl, o_imin, o_imax, o_smin, o_smax, o_eqs, eqsE_some, eqC_nil, andE_some, eqC_int, eqC_bool, eqC_str, j1, outE_some, outE_none, outE_ite, agE_1, loopE_1, agE_2, loopE_2, agE_3, loopE_3, agE_4, loopE_4, agE_5, loopE_5, agE_6, loopE_6, agE_7, loopE_7, agE_8, loopE_8, agE_9, loopE_9, List.cons_append, List.nil_append, List.append_nil, split, List.take_succ_cons, List.take_zero, List.drop_succ_cons, List.drop_zero, hi, b1, g1, hcx, he, wi]
      · simp only [findI, if_neg he]
  · refine .inr ?_
    rw [List.drop_eq_nil_of_le (by omega)]
    simp -implicitDefEqProofs [↓den_start, ↓deb_op, ↓deb_ret, ↓deb_jump, ↓deb_itev, ↓deb_itel, ↓deb_loop, ↓deb_fail, ↓deb_nilcv, nilE_some, opE_some, debP_nil, debP_cons, pushL_nil, pushL_cons, retE_some, iteE_some, evB_nil, evB_v, evB_l, lkE_cons, consE_some, d_int, d_bool, d_str, d_nil, o_add, o_sub, o_mul, o_and, o_or, o_xor, o_andNot, o_quo, o_rem, o_shl, o_shr, o_eql, o_neq, o_lss, o_leq, o_gtr, o_geq, o_seql, o_sneq, o_slss, o_sleq, o_sgtr, o_sgeq, o_beql, o_bneq, o_scat, o_not, o_neg, o_com, o_conv, o_s2b, o_b2s, o_len, o_slen, o_inb, o_idx, o_sidx, o_sub3, o_sub2, o_ssub3, o_ssub2, o_app, o_apps, o_mk, mkE_some, consD_some, mkD_zero, mkD_int, mkD_str, mkD_sl, o_imin, o_imax, o_smin, o_smax, o_eqs, eqsE_some, eqC_nil, andE_some, eqC_int, eqC_bool, eqC_str, j1, outE_some, outE_none, outE_ite, agE_1, loopE_1, agE_2, loopE_2, agE_3, loopE_3, agE_4, loopE_4, agE_5, loopE_5, agE_6, loopE_6, agE_7, loopE_7, agE_8, loopE_8, agE_9, loopE_9, List.cons_append, List.nil_append, List.append_nil, split, List.take_succ_cons, List.take_zero, List.drop_succ_cons, List.drop_zero, hi, findI, itD]
theorem s51 {lc : List Ct} (hl0 : look (lc.map fun c => (c.sig.id, c)) 51 = some c51) : ∀ (l : List It) (key : List Int) (hl : l.length < 1000000), Does1 (Phi lc) 51 [⟨.sl ItT, l⟩, ⟨.str, key⟩] (itD ((findI key l).getD zI)) :=
  fun l key hl => Does1.of hl0 (f51 l key hl) (by rfl)
def resF (key : List Int) : Option (List It) → List D
  | none => itD zI ++ [⟨.bool, false⟩, ⟨.int .i64, 2⟩]
  | some l => match findI key l with
    | some x => itD x ++ [⟨.bool, true⟩, ⟨.int .i64, 0⟩]
    | none => itD zI ++ [⟨.bool, false⟩, ⟨.int .i64, 0⟩]
theorem f49 (b key : List Int) (hb : ∀ c ∈ b, 0 ≤ c ∧ c < 256) (hl : b.length < 10000000000) : F49 [⟨.sl (.int .u8), b⟩, ⟨.str, key⟩] = some (resF key (blkGet b)) := by
  have h47 := s47 (lc := [c47]) rfl
  simp only [F49, Fof, ir49]
  generalize Phi [c47] = Φ at *
  have k47 := h47 b hb hl
  cases hg : blkGet b with
  | none =>
    simp only [hg, resB] at k47
    simp -implicitDefEqProofs [↓den_start, ↓deb_op, ↓deb_ret, ↓deb_jump, ↓deb_itev, ↓deb_itel, ↓deb_loop, ↓deb_fail, ↓deb_nilcv, nilE_some, opE_some, debP_nil, debP_cons, pushL_nil, pushL_cons, retE_some, iteE_some, evB_nil, evB_v, evB_l, lkE_cons, consE_some, d_int, d_bool, d_str, d_nil, o_add, o_sub, o_mul, o_and, o_or, o_xor, o_andNot, o_quo, o_rem, o_shl, o_shr, o_eql, o_neq, o_lss, o_leq, o_gtr, o_geq, o_seql, o_sneq, o_slss, o_sleq, o_sgtr, o_sgeq, o_beql, o_bneq, o_scat, o_not, o_neg, o_com, o_conv, o_s2b, o_b2s, o_len, o_slen, o_inb, o_idx, o_sidx, o_sub3, o_sub2, o_ssub3, o_ssub2, o_app, o_apps, o_mk, mkE_some, consD_some, mkD_zero, mkD_int, mkD_str, mkD_sl, o_imin, o_imax, o_smin, o_smax, o_eqs, eqsE_some, eqC_nil, andE_some, eqC_int, eqC_bool, eqC_str, j1, outE_some, outE_none, outE_ite, agE_1, loopE_1, agE_2, loopE_2, agE_3, loopE_3, agE_4, loopE_4, agE_5, loopE_5, agE_6, loopE_6, agE_7, loopE_7, agE_8, loopE_8, agE_9, loopE_9, List.cons_append, List.nil_append, List.append_nil, split, List.take_succ_cons, List.take_zero, List.drop_succ_cons, List.drop_zero, k47, resF, itD]
  | some l =>
    obtain ⟨_, _, hlen, _⟩ := blkGet_inv hb hg
    simp only [hg, resB] at k47
    simp -implicitDefEqProofs [↓den_start, ↓deb_op, ↓deb_ret, ↓deb_jump, ↓deb_itev, ↓deb_itel, ↓deb_loop, ↓deb_fail, ↓deb_nilcv, nilE_some, opE_some, debP_nil, debP_cons, pushL_nil, pushL_cons, retE_some, iteE_some, evB_nil, evB_v, evB_l, lkE_cons, consE_some, d_int, d_bool, d_str, d_nil, o_add, o_sub, o_mul, o_and, o_or, o_xor, o_andNot, o_quo, o_rem, o_shl, o_shr, o_eql, o_neq, o_lss, o_leq, o_gtr, o_geq, o_seql, o_sneq, o_slss, o_sleq, o_sgtr, o_sgeq, o_beql, o_bneq, o_scat, o_not, o_neg, o_com, o_conv, o_s2b, o_b2s, o_len, o_slen, o_inb, o_idx, o_sidx, o_sub3, o_sub2, o_ssub3, o_ssub2, o_app, o_apps, o_mk, mkE_some, consD_some, mkD_zero, mkD_int, mkD_str, mkD_sl, o_imin, o_imax, o_smin, o_smax, o_eqs, eqsE_some, eqC_nil, andE_some, eqC_int, eqC_bool, eqC_str, j1, outE_some, outE_none, outE_ite, agE_1, loopE_1, agE_2, loopE_2, agE_3, loopE_3, agE_4, loopE_4, agE_5, loopE_5, agE_6, loopE_6, agE_7, loopE_7, agE_8, loopE_8, agE_9, loopE_9, List.cons_append, List.nil_append, List.append_nil, split, List.take_succ_cons, List.take_zero, List.drop_succ_cons, List.drop_zero, k47]
    refine (iter_meas (fun s : Int => (l.length - s).toNat) (fun s => resF key (some (l.drop s.toNat))) (fun s => 0 ≤ s ∧ s ≤ l.length) (by exact ⟨by omega, by omega⟩) ?_).trans (by simp)
    rintro i ⟨h1, h2⟩
    by_cases hi : i < l.length
    · rw [dropI h1 (by omega)]
      have g1 := getG (l := l) (d := dflt ItT) h1 (by omega)
      have b1 : 0 ≤ i ∧ i < (l.length : Int) := ⟨h1, hi⟩
      have b2 : ¬ i < 0 := by omega
      have wi : IntKind.i64.wrap (i + 1) = i + 1 := wi64 _ (by omega) (by omega)
      generalize hcx : l[i.toNat]'(by omega) = x at *
      by_cases he : x.1 = key
      · refine .inr ?_
        simp only [resF, findI, if_pos he, itD, List.cons_append, List.nil_append]
        simp -implicitDefEqProofs [↓den_start, ↓deb_op, ↓deb_ret, ↓deb_jump, ↓deb_itev, ↓deb_itel, ↓deb_loop, ↓deb_fail, ↓deb_nilcv, nilE_some, opE_some, debP_nil, debP_cons, pushL_nil, pushL_cons, retE_some, iteE_some, evB_nil, evB_v, evB_l, lkE_cons, consE_some, d_int, d_bool, d_str, d_nil, o_add, o_sub, o_mul, o_and, o_or, o_xor, o_andNot, o_quo, o_rem, o_shl, o_shr, o_eql, o_neq, o_lss, o_leq, o_gtr, o_geq, o_seql, o_sneq, o_slss, o_sleq, o_sgtr, o_sgeq, o_beql, o_bneq, o_scat, o_not, o_neg, o_com, o_conv, o_s2b, o_b2s, o_len, o_slen, o_inb, o_idx, o_sidx, o_sub3, o_sub2, o_ssub3, o_ssub2, o_app, o_apps, o_mk, mkE_some, consD_some, mkD_zero, mkD_int, mkD_str, mkD_sl, o_imin, o_imax, o_smin, o_smax, o_eqs, eqsE_some, eqC_nil, andE_some, eqC_int, eqC_bool, eqC_str, j1, outE_some, outE_none, outE_ite, agE_1, loopE_1, agE_2, loopE_2, agE_3, loopE_3, agE_4, loopE_4, agE_5, loopE_5, agE_6, loopE_6, agE_7, loopE_7, agE_8, loopE_8, agE_9, loopE_9, List.cons_append, List.nil_append, List.append_nil, split, List.take_succ_cons, List.take_zero, List.drop_succ_cons, List.drop_zero, hi, b1, b2, g1, hcx, he]
      · refine .inl ⟨i + 1, ?_, ⟨by omega, by omega⟩, by omega, ?_⟩
        · simp -implicitDefEqProofs [↓den_start, ↓deb_op, ↓deb_ret, ↓deb_jump, ↓deb_itev, ↓deb_itel, ↓deb_loop, ↓deb_fail, ↓deb_nilcv, nilE_some, opE_some, debP_nil, debP_cons, pushL_nil, pushL_cons, retE_some, iteE_some, evB_nil, evB_v, evB_l, lkE_cons, consE_some, d_int, d_bool, d_str, d_nil, o_add, o_sub, o_mul, o_and, o_or, o_xor, o_andNot, o_quo, o_rem, o_shl, o_shr, o_eql, o_neq, o_lss, o_leq, o_gtr, o_geq, o_seql, o_sneq, o_slss, o_sleq, o_sgtr, o_sgeq, o_beql, o_bneq, o_scat, o_not, o_neg, o_com, o_conv, o_s2b, o_b2s, o_len, o_slen, o_inb, o_idx, o_sidx, o_sub3, o_sub2, o_ssub3, o_ssub2, o_app, o_apps, o_mk, mkE_some, consD_some, mkD_zero, mkD_int, mkD_str, mkD_sl, o_imin, o_imax, o_smin, o_smax, o_eqs, eqsE_some, eqC_nil, andE_some, eqC_int, eqC_bool, eqC_str, j1, outE_some, outE_none, outE_ite, agE_1, loopE_1, agE_2, loopE_2, agE_3, loopE_3, agE_4, loopE_4, agE_5, loopE_5, agE_6, loopE_6, agE_7, loopE_7, agE_8, loopE_8, agE_9, loopE_9, List.cons_append, List.nil_append, List.append_nil, split, List.take_succ_cons, List.take_zero, List.drop_succ_cons, List.drop_zero, hi, b1, g1, hcx, he, wi]
        · simp only [resF, findI, if_neg he]
    · refine .inr ?_
      rw [List.drop_eq_nil_of_le (by omega)]
      simp -implicitDefEqProofs [↓den_start, ↓deb_op, ↓deb_ret, ↓deb_jump, ↓deb_itev, ↓deb_itel, ↓deb_loop, ↓deb_fail, ↓deb_nilcv, nilE_some, opE_some, debP_nil, debP_cons, pushL_nil, pushL_cons, retE_some, iteE_some, evB_nil, evB_v, evB_l, lkE_cons, consE_some, d_int, d_bool, d_str, d_nil, o_add, o_sub, o_mul, o_and, o_or, o_xor, o_andNot, o_quo, o_rem, o_shl, o_shr, o_eql, o_neq, o_lss, o_leq, o_gtr, o_geq, o_seql, o_sneq, o_slss, o_sleq, o_sgtr, o_sgeq, o_beql, o_bneq, o_scat, o_not, o_neg, o_com, o_conv, o_s2b, o_b2s, o_len, o_slen, o_inb, o_idx, o_sidx, o_sub3, o_sub2, o_ssub3, o_ssub2, o_app, o_apps, o_mk, mkE_some, consD_some, mkD_zero, mkD_int, mkD_str, mkD_sl, o_imin, o_imax, o_smin, o_smax, o_eqs, eqsE_some, eqC_nil, andE_some, eqC_int, eqC_bool, eqC_str, j1, outE_some, outE_none, outE_ite, agE_1, loopE_1, agE_2, loopE_2, agE_3, loopE_3, agE_4, loopE_4, agE_5, loopE_5, agE_6, loopE_6, agE_7, loopE_7, agE_8, loopE_8, agE_9, loopE_9, List.cons_append, List.nil_append, List.append_nil, split, List.take_succ_cons, List.take_zero, List.drop_succ_cons, List.drop_zero, hi, resF, findI, itD]
theorem s49 {lc : List Ct} (hl0 : look (lc.map fun c => (c.sig.id, c)) 49 = some c49) : ∀ (b key : List Int) (hb : ∀ c ∈ b, 0 ≤ c ∧ c < 256) (hl : b.length < 10000000000), Does1 (Phi lc) 49 [⟨.sl (.int .u8), b⟩, ⟨.str, key⟩] (resF key (blkGet b)) :=
  fun b key hb hl => Does1.of hl0 (f49 b key hb hl) (by unfold resF; split; rfl; split <;> rfl)
end Go.Proofs.Ytdjknicjnaiomaa.Sx

set_option maxHeartbeats 1600000
/- The laws BlockGets and BlockReads. -/
namespace Go.Proofs.Ytdjknicjnaiomaa.Sx

theorem enc_bytes {l : List It} (hm : ∀ x ∈ l, (∀ c ∈ x.1, 0 ≤ c ∧ c < 256) ∧ (∀ c ∈ x.2.2.2.1, 0 ≤ c ∧ c < 256)) : ∀ (last : List Int), ∀ c ∈ encL last l, 0 ≤ c ∧ c < 256 := by
  induction l with
  | nil => intro last c hc; cases hc
  | cons x l ih =>
    intro last c hc
    obtain ⟨m1, m2⟩ := hm x (by simp)
    simp only [encL, encI, List.mem_append] at hc
    rcases hc with (hc | hc | hc) | hc
    · simp only [putL, List.map_cons, List.map_nil, List.flatten_cons, List.flatten_nil, List.append_nil, List.mem_append] at hc
      rcases hc with hc | hc <;> (have := one_byte _ c hc; omega)
    · exact m1 c (List.mem_of_mem_drop hc)
    · split at hc
      · simp only [List.mem_singleton] at hc; omega
      · rcases List.mem_cons.1 hc with rfl | hc
        · omega
        · exact putC_byte m2 c hc
    · exact ih (fun y hy => hm y (by simp [hy])) x.1 c hc
theorem srt_len {p : Option (List Int)} {l : List It} (h : srt p l = true) : ∀ x ∈ l, 1 ≤ x.1.length ∧ x.1.length ≤ 64 ∧ x.2.2.2.1.length ≤ 32 := by
  intro x hx
  have he := srt_ok p l h x hx
  obtain ⟨k, d, f, b, s, a, n, m⟩ := x
  simp only [itErr] at he
  obtain ⟨h1, h2, h3⟩ := iErr_ok he
  exact ⟨h1, h2, cErr_len h3⟩

theorem f11 (b key : List Int) (hb : ∀ c ∈ b, 0 ≤ c ∧ c < 256) : F11 [⟨.sl (.int .u8), b⟩, ⟨.str, key⟩] = some [⟨.bool, true⟩] := by
  have h29 := s29 (lc := [c29, c47, c48, c49, c50, c51, c52]) rfl
  have h47 := s47 (lc := [c29, c47, c48, c49, c50, c51, c52]) rfl
  have h48 := s48 (lc := [c29, c47, c48, c49, c50, c51, c52]) rfl
  have h49 := s49 (lc := [c29, c47, c48, c49, c50, c51, c52]) rfl
  have h50 := s50 (lc := [c29, c47, c48, c49, c50, c51, c52]) rfl
  have h51 := s51 (lc := [c29, c47, c48, c49, c50, c51, c52]) rfl
  have h52 := s52 (lc := [c29, c47, c48, c49, c50, c51, c52]) rfl
  simp only [F11, Fof, ir11]
  generalize Phi [c29, c47, c48, c49, c50, c51, c52] = Φ at *
  have h29 := h29 ()
  by_cases c1 : (2000 : Int) < b.length
  · simp -implicitDefEqProofs [↓den_start, ↓deb_op, ↓deb_ret, ↓deb_jump, ↓deb_itev, ↓deb_itel, ↓deb_loop, ↓deb_fail, ↓deb_nilcv, nilE_some, opE_some, debP_nil, debP_cons, pushL_nil, pushL_cons, retE_some, iteE_some, evB_nil, evB_v, evB_l, lkE_cons, consE_some, d_int, d_bool, d_str, d_nil, o_add, o_sub, o_mul, o_and, o_or, o_xor, o_andNot, o_quo, o_rem, o_shl, o_shr, o_eql, o_neq, o_lss, o_leq, o_gtr, o_geq, o_seql, o_sneq, o_slss, o_sleq, o_sgtr, o_sgeq, o_beql, o_bneq, o_scat, o_not, o_neg, o_com, o_conv, o_s2b, o_b2s, o_len, o_slen, o_inb, o_idx, o_sidx, o_sub3, o_sub2, o_ssub3, o_ssub2, o_app, o_apps, o_mk, mkE_some, consD_some, mkD_zero, mkD_int, mkD_str, mkD_sl, o_imin, o_imax, o_smin, o_smax, o_eqs, eqsE_some, eqC_nil, andE_some, eqC_int, eqC_bool, eqC_str, j1, outE_some, outE_none, outE_ite, agE_1, loopE_1, agE_2, loopE_2, agE_3, loopE_3, agE_4, loopE_4, agE_5, loopE_5, agE_6, loopE_6, agE_7, loopE_7, agE_8, loopE_8, agE_9, loopE_9, List.cons_append, List.nil_append, List.append_nil, split, List.take_succ_cons, List.take_zero, List.drop_succ_cons, List.drop_zero, h29, c1]
  by_cases c2 : (200 : Int) < key.length
  · simp -implicitDefEqProofs [↓den_start, ↓deb_op, ↓deb_ret, ↓deb_jump, ↓deb_itev, ↓deb_itel, ↓deb_loop, ↓deb_fail, ↓deb_nilcv, nilE_some, opE_some, debP_nil, debP_cons, pushL_nil, pushL_cons, retE_some, iteE_some, evB_nil, evB_v, evB_l, lkE_cons, consE_some, d_int, d_bool, d_str, d_nil, o_add, o_sub, o_mul, o_and, o_or, o_xor, o_andNot, o_quo, o_rem, o_shl, o_shr, o_eql, o_neq, o_lss, o_leq, o_gtr, o_geq, o_seql, o_sneq, o_slss, o_sleq, o_sgtr, o_sgeq, o_beql, o_bneq, o_scat, o_not, o_neg, o_com, o_conv, o_s2b, o_b2s, o_len, o_slen, o_inb, o_idx, o_sidx, o_sub3, o_sub2, o_ssub3, o_ssub2, o_app, o_apps, o_mk, mkE_some, consD_some, mkD_zero, mkD_int, mkD_str, mkD_sl, o_imin, o_imax, o_smin, o_smax, o_eqs, eqsE_some, eqC_nil, andE_some, eqC_int, eqC_bool, eqC_str, j1, outE_some, outE_none, outE_ite, agE_1, loopE_1, agE_2, loopE_2, agE_3, loopE_3, agE_4, loopE_4, agE_5, loopE_5, agE_6, loopE_6, agE_7, loopE_7, agE_8, loopE_8, agE_9, loopE_9, List.cons_append, List.nil_append, List.append_nil, split, List.take_succ_cons, List.take_zero, List.drop_succ_cons, List.drop_zero, h29, c1, c2]
  have k47 := h47 b hb (by omega)
  have k48 := h48 b hb (by omega)
  have k49 := h49 b key hb (by omega)
  have hmk : mkD (Ty.int IntKind.u8) 0 [] = some ⟨.sl (.int .u8), []⟩ := rfl
  have hbig : b.length ≤ BIG := by simp only [BIG]; omega
  rw [refGet_eq hb] at k48
  cases hg : blkGet b with
  | none =>
    have k50 := h50 [] [] (by decide) (by simp)
    have k51 := h51 [] key (by decide)
    have k52 := h52 zI zI (by decide)
    simp only [hg, resB, resF, Option.getD_none, itD, List.cons_append, List.nil_append, findI, zI, decide_true] at k47 k48 k49 k50 k51 k52
    simp -implicitDefEqProofs [↓den_start, ↓deb_op, ↓deb_ret, ↓deb_jump, ↓deb_itev, ↓deb_itel, ↓deb_loop, ↓deb_fail, ↓deb_nilcv, nilE_some, opE_some, debP_nil, debP_cons, pushL_nil, pushL_cons, retE_some, iteE_some, evB_nil, evB_v, evB_l, lkE_cons, consE_some, d_int, d_bool, d_str, d_nil, o_add, o_sub, o_mul, o_and, o_or, o_xor, o_andNot, o_quo, o_rem, o_shl, o_shr, o_eql, o_neq, o_lss, o_leq, o_gtr, o_geq, o_seql, o_sneq, o_slss, o_sleq, o_sgtr, o_sgeq, o_beql, o_bneq, o_scat, o_not, o_neg, o_com, o_conv, o_s2b, o_b2s, o_len, o_slen, o_inb, o_idx, o_sidx, o_sub3, o_sub2, o_ssub3, o_ssub2, o_app, o_apps, o_mk, mkE_some, consD_some, mkD_zero, mkD_int, mkD_str, mkD_sl, o_imin, o_imax, o_smin, o_smax, o_eqs, eqsE_some, eqC_nil, andE_some, eqC_int, eqC_bool, eqC_str, j1, outE_some, outE_none, outE_ite, agE_1, loopE_1, agE_2, loopE_2, agE_3, loopE_3, agE_4, loopE_4, agE_5, loopE_5, agE_6, loopE_6, agE_7, loopE_7, agE_8, loopE_8, agE_9, loopE_9, List.cons_append, List.nil_append, List.append_nil, split, List.take_succ_cons, List.take_zero, List.drop_succ_cons, List.drop_zero, h29, c1, c2, hmk, hbig, k47, k48, k49, k50, k51, k52]
  | some l =>
    obtain ⟨_, l1, l2, l3, _⟩ := blkGet_inv hb hg
    have hlen := srt_len l3
    have k50 := h50 l l (by omega) (fun x hx => by have := (hlen x hx).2.2; omega)
    have k51 := h51 l key (by omega)
    have hp : 0 < l.length := by omega
    have hne : ¬ l.length = 0 := by omega
    have hne' : ¬ l = [] := fun e => hne (by rw [e]; rfl)
    cases hf : findI key l with
    | none =>
      have k52 := h52 zI zI (by decide)
      simp only [hg, hf, resB, resF, Option.getD_none, Option.getD_some, itD, List.cons_append, List.nil_append, findI, zI, decide_true] at k47 k48 k49 k50 k51 k52
      simp -implicitDefEqProofs [↓den_start, ↓deb_op, ↓deb_ret, ↓deb_jump, ↓deb_itev, ↓deb_itel, ↓deb_loop, ↓deb_fail, ↓deb_nilcv, nilE_some, opE_some, debP_nil, debP_cons, pushL_nil, pushL_cons, retE_some, iteE_some, evB_nil, evB_v, evB_l, lkE_cons, consE_some, d_int, d_bool, d_str, d_nil, o_add, o_sub, o_mul, o_and, o_or, o_xor, o_andNot, o_quo, o_rem, o_shl, o_shr, o_eql, o_neq, o_lss, o_leq, o_gtr, o_geq, o_seql, o_sneq, o_slss, o_sleq, o_sgtr, o_sgeq, o_beql, o_bneq, o_scat, o_not, o_neg, o_com, o_conv, o_s2b, o_b2s, o_len, o_slen, o_inb, o_idx, o_sidx, o_sub3, o_sub2, o_ssub3, o_ssub2, o_app, o_apps, o_mk, mkE_some, consD_some, mkD_zero, mkD_int, mkD_str, mkD_sl, o_imin, o_imax, o_smin, o_smax, o_eqs, eqsE_some, eqC_nil, andE_some, eqC_int, eqC_bool, eqC_str, j1, outE_some, outE_none, outE_ite, agE_1, loopE_1, agE_2, loopE_2, agE_3, loopE_3, agE_4, loopE_4, agE_5, loopE_5, agE_6, loopE_6, agE_7, loopE_7, agE_8, loopE_8, agE_9, loopE_9, List.cons_append, List.nil_append, List.append_nil, split, List.take_succ_cons, List.take_zero, List.drop_succ_cons, List.drop_zero, h29, c1, c2, hmk, hbig, k47, k48, k49, k50, k51, k52, hp, hne, hne']
    | some x =>
      obtain ⟨f1, f2⟩ := find_key key l x hf
      have hx := hlen x f2
      have k52 := h52 x x (by omega)
      have hk : ¬ x.1 = [] := by intro e; have := hx.1; simp [e] at this
      simp only [hg, hf, resB, resF, Option.getD_none, Option.getD_some, itD, List.cons_append, List.nil_append, findI, zI, decide_true] at k47 k48 k49 k50 k51 k52
      simp -implicitDefEqProofs [↓den_start, ↓deb_op, ↓deb_ret, ↓deb_jump, ↓deb_itev, ↓deb_itel, ↓deb_loop, ↓deb_fail, ↓deb_nilcv, nilE_some, opE_some, debP_nil, debP_cons, pushL_nil, pushL_cons, retE_some, iteE_some, evB_nil, evB_v, evB_l, lkE_cons, consE_some, d_int, d_bool, d_str, d_nil, o_add, o_sub, o_mul, o_and, o_or, o_xor, o_andNot, o_quo, o_rem, o_shl, o_shr, o_eql, o_neq, o_lss, o_leq, o_gtr, o_geq, o_seql, o_sneq, o_slss, o_sleq, o_sgtr, o_sgeq, o_beql, o_bneq, o_scat, o_not, o_neg, o_com, o_conv, o_s2b, o_b2s, o_len, o_slen, o_inb, o_idx, o_sidx, o_sub3, o_sub2, o_ssub3, o_ssub2, o_app, o_apps, o_mk, mkE_some, consD_some, mkD_zero, mkD_int, mkD_str, mkD_sl, o_imin, o_imax, o_smin, o_smax, o_eqs, eqsE_some, eqC_nil, andE_some, eqC_int, eqC_bool, eqC_str, j1, outE_some, outE_none, outE_ite, agE_1, loopE_1, agE_2, loopE_2, agE_3, loopE_3, agE_4, loopE_4, agE_5, loopE_5, agE_6, loopE_6, agE_7, loopE_7, agE_8, loopE_8, agE_9, loopE_9, List.cons_append, List.nil_append, List.append_nil, split, List.take_succ_cons, List.take_zero, List.drop_succ_cons, List.drop_zero, h29, c1, c2, hmk, hbig, k47, k48, k49, k50, k51, k52, hp, hne, hne', hk]
theorem s11 {lc : List Ct} (hl0 : look (lc.map fun c => (c.sig.id, c)) 11 = some c11) : ∀ (b key : List Int) (hb : ∀ c ∈ b, 0 ≤ c ∧ c < 256), Does1 (Phi lc) 11 [⟨.sl (.int .u8), b⟩, ⟨.str, key⟩] [⟨.bool, true⟩] :=
  fun b key hb => Does1.of hl0 (f11 b key hb) rfl
theorem f12 (l : List It) (b : List Int) (hm : ∀ x ∈ l, 0 ≤ x.2.2.2.2.2.2.2 ∧ x.2.2.2.2.2.2.2 < 4294967296) (hs : ∀ x ∈ l, (∀ c ∈ x.1, 0 ≤ c ∧ c < 256) ∧ (∀ c ∈ x.2.2.2.1, 0 ≤ c ∧ c < 256)) (hb : ∀ c ∈ b, 0 ≤ c ∧ c < 256) : F12 [⟨.sl ItT, l⟩, ⟨.sl (.int .u8), b⟩] = some [⟨.bool, true⟩] := by
  have h28 := s28 (lc := [c28, c29, c33, c32, c47, c50, c49, c52, c21]) rfl
  have h29 := s29 (lc := [c28, c29, c33, c32, c47, c50, c49, c52, c21]) rfl
  have h33 := s33 (lc := [c28, c29, c33, c32, c47, c50, c49, c52, c21]) rfl
  have h32 := s32 (lc := [c28, c29, c33, c32, c47, c50, c49, c52, c21]) rfl
  have h47 := s47 (lc := [c28, c29, c33, c32, c47, c50, c49, c52, c21]) rfl
  have h50 := s50 (lc := [c28, c29, c33, c32, c47, c50, c49, c52, c21]) rfl
  have h49 := s49 (lc := [c28, c29, c33, c32, c47, c50, c49, c52, c21]) rfl
  have h52 := s52 (lc := [c28, c29, c33, c32, c47, c50, c49, c52, c21]) rfl
  have h21 := s21 (lc := [c28, c29, c33, c32, c47, c50, c49, c52, c21]) rfl
  simp only [F12, Fof, ir12]
  generalize Phi [c28, c29, c33, c32, c47, c50, c49, c52, c21] = Φ at *
  have h29 := h29 ()
  have k28 := h28 l
  by_cases hl : lightL l = true
  · rw [hl] at k28
    simp only [lightL, Bool.and_eq_true, decide_eq_true_eq, List.all_eq_true] at hl
    have k33 := h33 l (by omega) (fun x hx => by have := (hl.2 x hx).2; omega)
    have k32 := h32 l (by omega) hm
    by_cases hc : 1 ≤ l.length ∧ l.length ≤ 256 ∧ srt none l = true
    · have e33 : (decide (1 ≤ l.length ∧ l.length ≤ 256) && srt none l) = true := by simp [hc.1, hc.2.1, hc.2.2]
      rw [e33] at k33
      rw [if_pos hc, if_pos hc] at k32
      by_cases c1 : (2000 : Int) < b.length
      · simp -implicitDefEqProofs [↓den_start, ↓deb_op, ↓deb_ret, ↓deb_jump, ↓deb_itev, ↓deb_itel, ↓deb_loop, ↓deb_fail, ↓deb_nilcv, nilE_some, opE_some, debP_nil, debP_cons, pushL_nil, pushL_cons, retE_some, iteE_some, evB_nil, evB_v, evB_l, lkE_cons, consE_some, d_int, d_bool, d_str, d_nil, o_add, o_sub, o_mul, o_and, o_or, o_xor, o_andNot, o_quo, o_rem, o_shl, o_shr, o_eql, o_neq, o_lss, o_leq, o_gtr, o_geq, o_seql, o_sneq, o_slss, o_sleq, o_sgtr, o_sgeq, o_beql, o_bneq, o_scat, o_not, o_neg, o_com, o_conv, o_s2b, o_b2s, o_len, o_slen, o_inb, o_idx, o_sidx, o_sub3, o_sub2, o_ssub3, o_ssub2, o_app, o_apps, o_mk, mkE_some, consD_some, mkD_zero, mkD_int, mkD_str, mkD_sl, o_imin, o_imax, o_smin, o_smax, o_eqs, eqsE_some, eqC_nil, andE_some, eqC_int, eqC_bool, eqC_str, j1, outE_some, outE_none, outE_ite, agE_1, loopE_1, agE_2, loopE_2, agE_3, loopE_3, agE_4, loopE_4, agE_5, loopE_5, agE_6, loopE_6, agE_7, loopE_7, agE_8, loopE_8, agE_9, loopE_9, List.cons_append, List.nil_append, List.append_nil, split, List.take_succ_cons, List.take_zero, List.drop_succ_cons, List.drop_zero, h29, k28, k33, c1]
      have hlen := encL_len [] l (srt_ok _ l hc.2.2)
      have hP := putL_len [(l.length : Int)] (by simp; omega)
      simp only [List.length_cons, List.length_nil] at hP
      have hget := blkGet_enc hc.1 hc.2.1 hc.2.2 hm
      have hXl : (putL [(l.length : Int)] ++ encL [] l).length < 1000000000 := by rw [List.length_append]; omega
      have hXb : ∀ c ∈ putL [(l.length : Int)] ++ encL [] l, 0 ≤ c ∧ c < 256 := by
        intro c hc
        rcases List.mem_append.1 hc with hc | hc
        · simp only [putL, List.map_cons, List.map_nil, List.flatten_cons, List.flatten_nil, List.append_nil] at hc
          have := one_byte _ c hc; omega
        · exact enc_bytes hs [] c hc
      have hinv := fun z => blkGet_inv (b := b) hb (l := z)
      generalize hX : putL [(l.length : Int)] ++ encL [] l = X at *
      have k47 := h47 X hXb (by omega)
      have k47' := h47 b hb (by omega)
      have k50 := h50 l l (by omega) (fun x hx => by have := (hl.2 x hx).2; omega)
      have k21 := h21 b X (by omega)
      rw [decide_eq_true rfl] at k50
      simp only [hget, resB] at k47
      simp -implicitDefEqProofs [↓den_start, ↓deb_op, ↓deb_ret, ↓deb_jump, ↓deb_itev, ↓deb_itel, ↓deb_loop, ↓deb_fail, ↓deb_nilcv, nilE_some, opE_some, debP_nil, debP_cons, pushL_nil, pushL_cons, retE_some, iteE_some, evB_nil, evB_v, evB_l, lkE_cons, consE_some, d_int, d_bool, d_str, d_nil, o_add, o_sub, o_mul, o_and, o_or, o_xor, o_andNot, o_quo, o_rem, o_shl, o_shr, o_eql, o_neq, o_lss, o_leq, o_gtr, o_geq, o_seql, o_sneq, o_slss, o_sleq, o_sgtr, o_sgeq, o_beql, o_bneq, o_scat, o_not, o_neg, o_com, o_conv, o_s2b, o_b2s, o_len, o_slen, o_inb, o_idx, o_sidx, o_sub3, o_sub2, o_ssub3, o_ssub2, o_app, o_apps, o_mk, mkE_some, consD_some, mkD_zero, mkD_int, mkD_str, mkD_sl, o_imin, o_imax, o_smin, o_smax, o_eqs, eqsE_some, eqC_nil, andE_some, eqC_int, eqC_bool, eqC_str, j1, outE_some, outE_none, outE_ite, agE_1, loopE_1, agE_2, loopE_2, agE_3, loopE_3, agE_4, loopE_4, agE_5, loopE_5, agE_6, loopE_6, agE_7, loopE_7, agE_8, loopE_8, agE_9, loopE_9, List.cons_append, List.nil_append, List.append_nil, split, List.take_succ_cons, List.take_zero, List.drop_succ_cons, List.drop_zero, k28, k33, c1, k32, k47, k50]
      refine iter_meas (fun s : Int => (l.length - s).toNat) (fun s => ([⟨.bool, true⟩] : List D)) (fun s => 0 ≤ s ∧ s ≤ l.length) (by exact ⟨by omega, by omega⟩) ?_
      rintro i ⟨h1, h2⟩
      by_cases hi : i < l.length
      · have g1 := getG (l := l) (d := dflt ItT) h1 (by omega)
        have b1 : 0 ≤ i ∧ i < (l.length : Int) := ⟨h1, hi⟩
        have wi : IntKind.i64.wrap (i + 1) = i + 1 := wi64 _ (by omega) (by omega)
        have hmem : l[i.toNat]'(by omega) ∈ l := List.getElem_mem _
        generalize hcx : l[i.toNat]'(by omega) = x at *
        have hf := find_srt none l hc.2.2 x hmem
        have k49 := h49 X x.1 hXb (by omega)
        have k52 := h52 x x (by have := (hl.2 x hmem).2; omega)
        rw [decide_eq_true rfl] at k52
        simp only [hget, resF, hf, itD, List.cons_append, List.nil_append] at k49 k52
        refine .inl ⟨i + 1, ?_, ⟨by omega, by omega⟩, by omega, rfl⟩
        simp -implicitDefEqProofs [↓den_start, ↓deb_op, ↓deb_ret, ↓deb_jump, ↓deb_itev, ↓deb_itel, ↓deb_loop, ↓deb_fail, ↓deb_nilcv, nilE_some, opE_some, debP_nil, debP_cons, pushL_nil, pushL_cons, retE_some, iteE_some, evB_nil, evB_v, evB_l, lkE_cons, consE_some, d_int, d_bool, d_str, d_nil, o_add, o_sub, o_mul, o_and, o_or, o_xor, o_andNot, o_quo, o_rem, o_shl, o_shr, o_eql, o_neq, o_lss, o_leq, o_gtr, o_geq, o_seql, o_sneq, o_slss, o_sleq, o_sgtr, o_sgeq, o_beql, o_bneq, o_scat, o_not, o_neg, o_com, o_conv, o_s2b, o_b2s, o_len, o_slen, o_inb, o_idx, o_sidx, o_sub3, o_sub2, o_ssub3, o_ssub2, o_app, o_apps, o_mk, mkE_some, consD_some, mkD_zero, mkD_int, mkD_str, mkD_sl, o_imin, o_imax, o_smin, o_smax, o_eqs, eqsE_some, eqC_nil, andE_some, eqC_int, eqC_bool, eqC_str, j1, outE_some, outE_none, outE_ite, agE_1, loopE_1, agE_2, loopE_2, agE_3, loopE_3, agE_4, loopE_4, agE_5, loopE_5, agE_6, loopE_6, agE_7, loopE_7, agE_8, loopE_8, agE_9, loopE_9, List.cons_append, List.nil_append, List.append_nil, split, List.take_succ_cons, List.take_zero, List.drop_succ_cons, List.drop_zero, hi, b1, g1, hcx, k49, k52, wi]
      · refine .inr ?_
        cases hz : blkGet b with
        | none =>
          simp only [hz, resB] at k47'
          simp -implicitDefEqProofs [↓den_start, ↓deb_op, ↓deb_ret, ↓deb_jump, ↓deb_itev, ↓deb_itel, ↓deb_loop, ↓deb_fail, ↓deb_nilcv, nilE_some, opE_some, debP_nil, debP_cons, pushL_nil, pushL_cons, retE_some, iteE_some, evB_nil, evB_v, evB_l, lkE_cons, consE_some, d_int, d_bool, d_str, d_nil, o_add, o_sub, o_mul, o_and, o_or, o_xor, o_andNot, o_quo, o_rem, o_shl, o_shr, o_eql, o_neq, o_lss, o_leq, o_gtr, o_geq, o_seql, o_sneq, o_slss, o_sleq, o_sgtr, o_sgeq, o_beql, o_bneq, o_scat, o_not, o_neg, o_com, o_conv, o_s2b, o_b2s, o_len, o_slen, o_inb, o_idx, o_sidx, o_sub3, o_sub2, o_ssub3, o_ssub2, o_app, o_apps, o_mk, mkE_some, consD_some, mkD_zero, mkD_int, mkD_str, mkD_sl, o_imin, o_imax, o_smin, o_smax, o_eqs, eqsE_some, eqC_nil, andE_some, eqC_int, eqC_bool, eqC_str, j1, outE_some, outE_none, outE_ite, agE_1, loopE_1, agE_2, loopE_2, agE_3, loopE_3, agE_4, loopE_4, agE_5, loopE_5, agE_6, loopE_6, agE_7, loopE_7, agE_8, loopE_8, agE_9, loopE_9, List.cons_append, List.nil_append, List.append_nil, split, List.take_succ_cons, List.take_zero, List.drop_succ_cons, List.drop_zero, hi, k47', h29]
        | some z =>
          obtain ⟨z1, z2, z3, z4, z5⟩ := hinv z hz
          have hzl := srt_len z4
          have k50' := h50 z l (by omega) (fun x hx => by have := (hzl x hx).2.2; omega)
          simp only [hz, resB] at k47'
          by_cases he : z = l
          · subst he
            have hXX : b = X := by rw [z1, ← hX]
            rw [decide_eq_true rfl] at k50'
            rw [decide_eq_true hXX] at k21
            simp -implicitDefEqProofs [↓den_start, ↓deb_op, ↓deb_ret, ↓deb_jump, ↓deb_itev, ↓deb_itel, ↓deb_loop, ↓deb_fail, ↓deb_nilcv, nilE_some, opE_some, debP_nil, debP_cons, pushL_nil, pushL_cons, retE_some, iteE_some, evB_nil, evB_v, evB_l, lkE_cons, consE_some, d_int, d_bool, d_str, d_nil, o_add, o_sub, o_mul, o_and, o_or, o_xor, o_andNot, o_quo, o_rem, o_shl, o_shr, o_eql, o_neq, o_lss, o_leq, o_gtr, o_geq, o_seql, o_sneq, o_slss, o_sleq, o_sgtr, o_sgeq, o_beql, o_bneq, o_scat, o_not, o_neg, o_com, o_conv, o_s2b, o_b2s, o_len, o_slen, o_inb, o_idx, o_sidx, o_sub3, o_sub2, o_ssub3, o_ssub2, o_app, o_apps, o_mk, mkE_some, consD_some, mkD_zero, mkD_int, mkD_str, mkD_sl, o_imin, o_imax, o_smin, o_smax, o_eqs, eqsE_some, eqC_nil, andE_some, eqC_int, eqC_bool, eqC_str, j1, outE_some, outE_none, outE_ite, agE_1, loopE_1, agE_2, loopE_2, agE_3, loopE_3, agE_4, loopE_4, agE_5, loopE_5, agE_6, loopE_6, agE_7, loopE_7, agE_8, loopE_8, agE_9, loopE_9, List.cons_append, List.nil_append, List.append_nil, split, List.take_succ_cons, List.take_zero, List.drop_succ_cons, List.drop_zero, hi, k47', k50', k21, h29]
          · rw [decide_eq_false he] at k50'
            simp -implicitDefEqProofs [↓den_start, ↓deb_op, ↓deb_ret, ↓deb_jump, ↓deb_itev, ↓deb_itel, ↓deb_loop, ↓deb_fail, ↓deb_nilcv, nilE_some, opE_some, debP_nil, debP_cons, pushL_nil, pushL_cons, retE_some, iteE_some, evB_nil, evB_v, evB_l, lkE_cons, consE_some, d_int, d_bool, d_str, d_nil, o_add, o_sub, o_mul, o_and, o_or, o_xor, o_andNot, o_quo, o_rem, o_shl, o_shr, o_eql, o_neq, o_lss, o_leq, o_gtr, o_geq, o_seql, o_sneq, o_slss, o_sleq, o_sgtr, o_sgeq, o_beql, o_bneq, o_scat, o_not, o_neg, o_com, o_conv, o_s2b, o_b2s, o_len, o_slen, o_inb, o_idx, o_sidx, o_sub3, o_sub2, o_ssub3, o_ssub2, o_app, o_apps, o_mk, mkE_some, consD_some, mkD_zero, mkD_int, mkD_str, mkD_sl, o_imin, o_imax, o_smin, o_smax, o_eqs, eqsE_some, eqC_nil, andE_some, eqC_int, eqC_bool, eqC_str, j1, outE_some, outE_none, outE_ite, agE_1, loopE_1, agE_2, loopE_2, agE_3, loopE_3, agE_4, loopE_4, agE_5, loopE_5, agE_6, loopE_6, agE_7, loopE_7, agE_8, loopE_8, agE_9, loopE_9, List.cons_append, List.nil_append, List.append_nil, split, List.take_succ_cons, List.take_zero, List.drop_succ_cons, List.drop_zero, hi, k47', k50', h29]
    · have e33 : (decide (1 ≤ l.length ∧ l.length ≤ 256) && srt none l) = false := by
        rw [Bool.eq_false_iff]; intro h
        simp only [Bool.and_eq_true, decide_eq_true_eq] at h
        exact hc ⟨h.1.1, h.1.2, h.2⟩
      rw [e33] at k33
      simp -implicitDefEqProofs [↓den_start, ↓deb_op, ↓deb_ret, ↓deb_jump, ↓deb_itev, ↓deb_itel, ↓deb_loop, ↓deb_fail, ↓deb_nilcv, nilE_some, opE_some, debP_nil, debP_cons, pushL_nil, pushL_cons, retE_some, iteE_some, evB_nil, evB_v, evB_l, lkE_cons, consE_some, d_int, d_bool, d_str, d_nil, o_add, o_sub, o_mul, o_and, o_or, o_xor, o_andNot, o_quo, o_rem, o_shl, o_shr, o_eql, o_neq, o_lss, o_leq, o_gtr, o_geq, o_seql, o_sneq, o_slss, o_sleq, o_sgtr, o_sgeq, o_beql, o_bneq, o_scat, o_not, o_neg, o_com, o_conv, o_s2b, o_b2s, o_len, o_slen, o_inb, o_idx, o_sidx, o_sub3, o_sub2, o_ssub3, o_ssub2, o_app, o_apps, o_mk, mkE_some, consD_some, mkD_zero, mkD_int, mkD_str, mkD_sl, o_imin, o_imax, o_smin, o_smax, o_eqs, eqsE_some, eqC_nil, andE_some, eqC_int, eqC_bool, eqC_str, j1, outE_some, outE_none, outE_ite, agE_1, loopE_1, agE_2, loopE_2, agE_3, loopE_3, agE_4, loopE_4, agE_5, loopE_5, agE_6, loopE_6, agE_7, loopE_7, agE_8, loopE_8, agE_9, loopE_9, List.cons_append, List.nil_append, List.append_nil, split, List.take_succ_cons, List.take_zero, List.drop_succ_cons, List.drop_zero, h29, k28, k33]
  · have hl : lightL l = false := by simpa using hl
    rw [hl] at k28
    simp -implicitDefEqProofs [↓den_start, ↓deb_op, ↓deb_ret, ↓deb_jump, ↓deb_itev, ↓deb_itel, ↓deb_loop, ↓deb_fail, ↓deb_nilcv, nilE_some, opE_some, debP_nil, debP_cons, pushL_nil, pushL_cons, retE_some, iteE_some, evB_nil, evB_v, evB_l, lkE_cons, consE_some, d_int, d_bool, d_str, d_nil, o_add, o_sub, o_mul, o_and, o_or, o_xor, o_andNot, o_quo, o_rem, o_shl, o_shr, o_eql, o_neq, o_lss, o_leq, o_gtr, o_geq, o_seql, o_sneq, o_slss, o_sleq, o_sgtr, o_sgeq, o_beql, o_bneq, o_scat, o_not, o_neg, o_com, o_conv, o_s2b, o_b2s, o_len, o_slen, o_inb, o_idx, o_sidx, o_sub3, o_sub2, o_ssub3, o_ssub2, o_app, o_apps, o_mk, mkE_some, consD_some, mkD_zero, mkD_int, mkD_str, mkD_sl, o_imin, o_imax, o_smin, o_smax, o_eqs, eqsE_some, eqC_nil, andE_some, eqC_int, eqC_bool, eqC_str, j1, outE_some, outE_none, outE_ite, agE_1, loopE_1, agE_2, loopE_2, agE_3, loopE_3, agE_4, loopE_4, agE_5, loopE_5, agE_6, loopE_6, agE_7, loopE_7, agE_8, loopE_8, agE_9, loopE_9, List.cons_append, List.nil_append, List.append_nil, split, List.take_succ_cons, List.take_zero, List.drop_succ_cons, List.drop_zero, h29, k28]
theorem s12 {lc : List Ct} (hl0 : look (lc.map fun c => (c.sig.id, c)) 12 = some c12) : ∀ (l : List It) (b : List Int) (hm : ∀ x ∈ l, 0 ≤ x.2.2.2.2.2.2.2 ∧ x.2.2.2.2.2.2.2 < 4294967296) (hs : ∀ x ∈ l, (∀ c ∈ x.1, 0 ≤ c ∧ c < 256) ∧ (∀ c ∈ x.2.2.2.1, 0 ≤ c ∧ c < 256)) (hb : ∀ c ∈ b, 0 ≤ c ∧ c < 256), Does1 (Phi lc) 12 [⟨.sl ItT, l⟩, ⟨.sl (.int .u8), b⟩] [⟨.bool, true⟩] :=
  fun l b hm hs hb => Does1.of hl0 (f12 l b hm hs hb) rfl
theorem wf_str {x : List Int} (h : Wf .str x) : ∀ c ∈ x, 0 ≤ c ∧ c < 256 := fun c hc => by have := h.2 c hc; omega
theorem wf_itemsS {l : List It} (h : Wf (.sl ItT) l) : ∀ x ∈ l, (∀ c ∈ x.1, 0 ≤ c ∧ c < 256) ∧ (∀ c ∈ x.2.2.2.1, 0 ≤ c ∧ c < 256) :=
  fun x hx => ⟨wf_str (h.2 x hx).1, wf_bytes (h.2 x hx).2.2.2.1⟩
end Go.Proofs.Ytdjknicjnaiomaa.Sx
