/-
  Lists of numbers, points and cells read back from bytes; what the cell laws answer.
-/
import Derived.Test.YtdjknicjnaiomaaD2
set_option linter.unusedVariables false
set_option linter.unusedSimpArgs false
/- Lists of numbers, points and cells read back from bytes. -/
namespace Go.Proofs.Ytdjknicjnaiomaa.Sx

def allL : Nat → List Int → Option (List Int)
  | 0, _ => some []
  | n + 1, b => if gvN b = 0 then none else match allL n (b.drop (gvN b)) with | some r => some (gvV b :: r) | none => none
def allA : Nat → List Int → Nat
  | 0, _ => 0
  | n + 1, b => if gvN b = 0 then 0 else gvN b + allA n (b.drop (gvN b))

def resA (o : Option (List Int)) (l : List Int) (a : Int) : List D := match o with
  | some r => [⟨.sl (.int .u64), l ++ r⟩, ⟨.int .i64, a⟩, ⟨.int .i64, 0⟩]
  | none => [⟨.sl (.int .u64), []⟩, ⟨.int .i64, a⟩, ⟨.int .i64, 2⟩]

theorem allA_le : ∀ (n : Nat) (b : List Int), (∀ c ∈ b, 0 ≤ c ∧ c < 256) → allA n b ≤ b.length
  | 0, b, _ => by simp [allA]
  | n + 1, b, h => by
    have h1 := gv_range h
    simp only [allA]
    split
    · omega
    · have := allA_le n (b.drop (gvN b)) (fun c hc => h c (List.mem_of_mem_drop hc))
      rw [List.length_drop] at this
      omega

theorem allL_len : ∀ (n : Nat) (b r : List Int), allL n b = some r → r.length = n
  | 0, b, r, h => by simp only [allL, Option.some.injEq] at h; subst h; rfl
  | n + 1, b, r, h => by
    simp only [allL] at h
    split at h
    · cases h
    · split at h
      · rename_i r' h'
        simp only [Option.some.injEq] at h
        subst h
        simp [allL_len n _ _ h']
      · cases h

theorem allL_range : ∀ (n : Nat) (b r : List Int), (∀ c ∈ b, 0 ≤ c ∧ c < 256) → allL n b = some r → ∀ u ∈ r, 0 ≤ u ∧ u < 18446744073709551616
  | 0, b, r, _, h => by simp only [allL, Option.some.injEq] at h; subst h; intro u hu; cases hu
  | n + 1, b, r, hb, h => by
    simp only [allL] at h
    split at h
    · cases h
    · split at h
      · rename_i r' h'
        simp only [Option.some.injEq] at h
        subst h
        intro u hu
        rcases List.mem_cons.1 hu with rfl | hu
        · have := gv_range hb; omega
        · exact allL_range n _ r' (fun c hc => hb c (List.mem_of_mem_drop hc)) h' u hu
      · cases h

theorem resA_step (n : Nat) (x l : List Int) (at_ : Nat) (h : gvN (x.drop at_) ≠ 0) : resA (allL n (x.drop (at_ + gvN (x.drop at_)))) (l ++ [gvV (x.drop at_)]) ((at_ + gvN (x.drop at_) : Nat) + allA n (x.drop (at_ + gvN (x.drop at_))) : Int) =
    resA (allL (n + 1) (x.drop at_)) l (at_ + allA (n + 1) (x.drop at_)) := by
  simp only [allL, allA, if_neg h, List.drop_drop]
  cases allL n (x.drop (at_ + gvN (x.drop at_))) with
  | none =>
    simp only [resA]
    rw [show ((at_ + gvN (x.drop at_) : Nat) : Int) + (allA n (x.drop (at_ + gvN (x.drop at_))) : Int) = at_ + ((gvN (x.drop at_) + allA n (x.drop (at_ + gvN (x.drop at_))) : Nat) : Int) by omega]
  | some r =>
    simp only [resA, List.append_assoc, List.cons_append, List.nil_append]
    rw [show ((at_ + gvN (x.drop at_) : Nat) : Int) + (allA n (x.drop (at_ + gvN (x.drop at_))) : Int) = at_ + ((gvN (x.drop at_) + allA n (x.drop (at_ + gvN (x.drop at_))) : Nat) : Int) by omega]

theorem f132 (x : List Int) (n : Int) (hb : ∀ c ∈ x, 0 ≤ c ∧ c < 256) (hl : x.length < 1000000000000) (h0 : 0 ≤ n) (h1 : n ≤ 1000) : F132 [⟨.sl (.int .u8), x⟩, ⟨.int .i64, n⟩] = some (resA (allL n.toNat x) [] (allA n.toNat x)) := by
  have h92 := s92 (lc := [c92]) rfl
  simp only [F132, Fof, ir132]
  generalize Phi [c92] = Φ at *
  simp [↓den_start, ↓deb_op, ↓deb_ret, ↓deb_jump, ↓deb_itev, ↓deb_itel, ↓deb_loop, ↓deb_fail, ↓deb_nilcv, nilE_some, opE_some, debP_nil, debP_cons, pushL_nil, pushL_cons, retE_some, iteE_some, evB_nil, evB_v, evB_l, lkE_cons, consE_some, d_int, d_bool, d_str, d_nil, o_add, o_sub, o_mul, o_and, o_or, o_xor, o_andNot, o_quo, o_rem, o_shl, o_shr, o_eql, o_neq, o_lss, o_leq, o_gtr, o_geq, o_seql, o_sneq, o_slss, o_sleq, o_sgtr, o_sgeq, o_beql, o_bneq, o_scat, o_not, o_neg, o_com, o_conv, o_s2b, o_b2s, o_len, o_slen, o_inb, o_idx, o_sidx, o_sub3, o_sub2, o_ssub3, o_ssub2, o_app, o_apps, o_mk, mkE_some, consD_some, mkD_zero, mkD_int, mkD_str, mkD_sl, o_imin, o_imax, o_smin, o_smax, o_eqs, eqsE_some, eqC_nil, andE_some, eqC_int, eqC_bool, eqC_str, j1, outE_some, outE_none, outE_ite, agE_1, loopE_1, agE_2, loopE_2, agE_3, loopE_3, agE_4, loopE_4, agE_5, loopE_5, agE_6, loopE_6, agE_7, loopE_7, agE_8, loopE_8, agE_9, loopE_9, List.cons_append, List.nil_append, List.append_nil, split, List.take_succ_cons, List.take_zero, List.drop_succ_cons, List.drop_zero]
  refine (iter_meas (fun s : List Int × Int × Int => (n - s.2.2).toNat) (fun s => resA (allL (n - s.2.2).toNat (x.drop s.2.1.toNat)) s.1 (s.2.1 + allA (n - s.2.2).toNat (x.drop s.2.1.toNat)))
    (fun s => 0 ≤ s.2.1 ∧ s.2.1 ≤ x.length ∧ 0 ≤ s.2.2 ∧ s.2.2 ≤ n ∧ s.1.length ≤ s.2.2.toNat) (by exact ⟨by simp, by simp, by simp, h0, by simp⟩) ?_).trans (by simp)
  rintro ⟨l, a, i⟩ ⟨k1, k2, k3, k4, k5⟩
  simp only at k1 k2 k3 k4 k5 ⊢
  by_cases hi : i < n
  · have hbd : ∀ c ∈ x.drop a.toNat, 0 ≤ c ∧ c < 256 := fun c hc => hb c (List.mem_of_mem_drop hc)
    have hr := gv_range hbd
    have hll : (x.drop a.toNat).length = x.length - a.toNat := List.length_drop
    have k92 := h92 (x.drop a.toNat) hbd (by omega)
    have b1 : 0 ≤ a ∧ a ≤ (x.length : Int) := ⟨k1, k2⟩
    rw [show (n - i).toNat = (n - (i + 1)).toNat + 1 by omega]
    by_cases hz : gvN (x.drop a.toNat) = 0
    · refine .inr ?_
      rw [hz] at k92
      simp [↓den_start, ↓deb_op, ↓deb_ret, ↓deb_jump, ↓deb_itev, ↓deb_itel, ↓deb_loop, ↓deb_fail, ↓deb_nilcv, nilE_some, opE_some, debP_nil, debP_cons, pushL_nil, pushL_cons, retE_some, iteE_some, evB_nil, evB_v, evB_l, lkE_cons, consE_some, d_int, d_bool, d_str, d_nil, o_add, o_sub, o_mul, o_and, o_or, o_xor, o_andNot, o_quo, o_rem, o_shl, o_shr, o_eql, o_neq, o_lss, o_leq, o_gtr, o_geq, o_seql, o_sneq, o_slss, o_sleq, o_sgtr, o_sgeq, o_beql, o_bneq, o_scat, o_not, o_neg, o_com, o_conv, o_s2b, o_b2s, o_len, o_slen, o_inb, o_idx, o_sidx, o_sub3, o_sub2, o_ssub3, o_ssub2, o_app, o_apps, o_mk, mkE_some, consD_some, mkD_zero, mkD_int, mkD_str, mkD_sl, o_imin, o_imax, o_smin, o_smax, o_eqs, eqsE_some, eqC_nil, andE_some, eqC_int, eqC_bool, eqC_str, j1, outE_some, outE_none, outE_ite, agE_1, loopE_1, agE_2, loopE_2, agE_3, loopE_3, agE_4, loopE_4, agE_5, loopE_5, agE_6, loopE_6, agE_7, loopE_7, agE_8, loopE_8, agE_9, loopE_9, List.cons_append, List.nil_append, List.append_nil, split, List.take_succ_cons, List.take_zero, List.drop_succ_cons, List.drop_zero, hi, b1, k92, allL, allA, hz, resA]
    · have hz' : ¬ ((gvN (x.drop a.toNat) : Nat) : Int) = 0 := by omega
      have hbig : l.length + 1 ≤ BIG := by simp only [BIG]; omega
      refine .inl ⟨(l ++ [gvV (x.drop a.toNat)], a + gvN (x.drop a.toNat), i + 1), ?_, ⟨by simp only; omega, by simp only; omega, by simp only; omega, by simp only; omega, by simp; omega⟩, by simp only; omega, ?_⟩
      · simp [↓den_start, ↓deb_op, ↓deb_ret, ↓deb_jump, ↓deb_itev, ↓deb_itel, ↓deb_loop, ↓deb_fail, ↓deb_nilcv, nilE_some, opE_some, debP_nil, debP_cons, pushL_nil, pushL_cons, retE_some, iteE_some, evB_nil, evB_v, evB_l, lkE_cons, consE_some, d_int, d_bool, d_str, d_nil, o_add, o_sub, o_mul, o_and, o_or, o_xor, o_andNot, o_quo, o_rem, o_shl, o_shr, o_eql, o_neq, o_lss, o_leq, o_gtr, o_geq, o_seql, o_sneq, o_slss, o_sleq, o_sgtr, o_sgeq, o_beql, o_bneq, o_scat, o_not, o_neg, o_com, o_conv, o_s2b, o_b2s, o_len, o_slen, o_inb, o_idx, o_sidx, o_sub3, o_sub2, o_ssub3, o_ssub2, o_app, o_apps, o_mk, mkE_some, consD_some, mkD_zero, mkD_int, mkD_str, mkD_sl, o_imin, o_imax, o_smin, o_smax, o_eqs, eqsE_some, eqC_nil, andE_some, eqC_int, eqC_bool, eqC_str, j1, outE_some, outE_none, outE_ite, agE_1, loopE_1, agE_2, loopE_2, agE_3, loopE_3, agE_4, loopE_4, agE_5, loopE_5, agE_6, loopE_6, agE_7, loopE_7, agE_8, loopE_8, agE_9, loopE_9, List.cons_append, List.nil_append, List.append_nil, split, List.take_succ_cons, List.take_zero, List.drop_succ_cons, List.drop_zero, hi, b1, k92, hz', hz, hbig]
        exact ⟨wi64 _ (by omega) (by omega), wi64 _ (by omega) (by omega)⟩
      · have := resA_step (n - (i + 1)).toNat x l a.toNat hz
        simp only
        rw [show (a + (gvN (x.drop a.toNat) : Int)).toNat = a.toNat + gvN (x.drop a.toNat) by omega]
        rw [show (a + (gvN (x.drop a.toNat) : Int)) = ((a.toNat + gvN (x.drop a.toNat) : Nat) : Int) by omega, this]
        congr 2
        omega
  · refine .inr ?_
    rw [if_neg hi, show (n - i).toNat = 0 by omega]
    simp [allL, allA, resA]
theorem s132 {lc : List Ct} (hl0 : look (lc.map fun c => (c.sig.id, c)) 132 = some c132) : ∀ (x : List Int) (n : Int) (hb : ∀ c ∈ x, 0 ≤ c ∧ c < 256) (hl : x.length < 1000000000000) (h0 : 0 ≤ n) (h1 : n ≤ 1000), Does1 (Phi lc) 132 [⟨.sl (.int .u8), x⟩, ⟨.int .i64, n⟩] (resA (allL n.toNat x) [] (allA n.toNat x)) :=
  fun x n hb hl h0 h1 => Does1.of hl0 (f132 x n hb hl h0 h1) (by unfold resA; split <;> rfl)
theorem f129 (x : List Int) (n : Int) (hb : ∀ c ∈ x, 0 ≤ c ∧ c < 256) (hl : x.length < 1000000000000) (h0 : 0 ≤ n) (h1 : n ≤ 1000) : F129 [⟨.sl (.int .u8), x⟩, ⟨.int .i64, n⟩] = some (resA (allL n.toNat x) [] (allA n.toNat x)) := by
  have h90 := s90 (lc := [c90]) rfl
  simp only [F129, Fof, ir129]
  generalize Phi [c90] = Φ at *
  simp [↓den_start, ↓deb_op, ↓deb_ret, ↓deb_jump, ↓deb_itev, ↓deb_itel, ↓deb_loop, ↓deb_fail, ↓deb_nilcv, nilE_some, opE_some, debP_nil, debP_cons, pushL_nil, pushL_cons, retE_some, iteE_some, evB_nil, evB_v, evB_l, lkE_cons, consE_some, d_int, d_bool, d_str, d_nil, o_add, o_sub, o_mul, o_and, o_or, o_xor, o_andNot, o_quo, o_rem, o_shl, o_shr, o_eql, o_neq, o_lss, o_leq, o_gtr, o_geq, o_seql, o_sneq, o_slss, o_sleq, o_sgtr, o_sgeq, o_beql, o_bneq, o_scat, o_not, o_neg, o_com, o_conv, o_s2b, o_b2s, o_len, o_slen, o_inb, o_idx, o_sidx, o_sub3, o_sub2, o_ssub3, o_ssub2, o_app, o_apps, o_mk, mkE_some, consD_some, mkD_zero, mkD_int, mkD_str, mkD_sl, o_imin, o_imax, o_smin, o_smax, o_eqs, eqsE_some, eqC_nil, andE_some, eqC_int, eqC_bool, eqC_str, j1, outE_some, outE_none, outE_ite, agE_1, loopE_1, agE_2, loopE_2, agE_3, loopE_3, agE_4, loopE_4, agE_5, loopE_5, agE_6, loopE_6, agE_7, loopE_7, agE_8, loopE_8, agE_9, loopE_9, List.cons_append, List.nil_append, List.append_nil, split, List.take_succ_cons, List.take_zero, List.drop_succ_cons, List.drop_zero]
  rw [if_neg (by omega), if_neg (by omega)]
  refine (iter_meas (fun s : List Int × Int × Int => (n - s.2.2).toNat) (fun s => resA (allL (n - s.2.2).toNat (x.drop s.2.1.toNat)) s.1 (s.2.1 + allA (n - s.2.2).toNat (x.drop s.2.1.toNat)))
    (fun s => 0 ≤ s.2.1 ∧ s.2.1 ≤ x.length ∧ 0 ≤ s.2.2 ∧ s.2.2 ≤ n ∧ s.1.length ≤ s.2.2.toNat) (by exact ⟨by simp, by simp, by simp, h0, by simp⟩) ?_).trans (by simp)
  rintro ⟨l, a, i⟩ ⟨k1, k2, k3, k4, k5⟩
  simp only at k1 k2 k3 k4 k5 ⊢
  by_cases hi : i < n
  · have hbd : ∀ c ∈ x.drop a.toNat, 0 ≤ c ∧ c < 256 := fun c hc => hb c (List.mem_of_mem_drop hc)
    have hr := gv_range hbd
    have hll : (x.drop a.toNat).length = x.length - a.toNat := List.length_drop
    have k90 := h90 (x.drop a.toNat) hbd
    have b1 : 0 ≤ a ∧ a ≤ (x.length : Int) := ⟨k1, k2⟩
    rw [show (n - i).toNat = (n - (i + 1)).toNat + 1 by omega]
    by_cases hz : gvN (x.drop a.toNat) = 0
    · refine .inr ?_
      rw [if_pos hz] at k90
      simp [↓den_start, ↓deb_op, ↓deb_ret, ↓deb_jump, ↓deb_itev, ↓deb_itel, ↓deb_loop, ↓deb_fail, ↓deb_nilcv, nilE_some, opE_some, debP_nil, debP_cons, pushL_nil, pushL_cons, retE_some, iteE_some, evB_nil, evB_v, evB_l, lkE_cons, consE_some, d_int, d_bool, d_str, d_nil, o_add, o_sub, o_mul, o_and, o_or, o_xor, o_andNot, o_quo, o_rem, o_shl, o_shr, o_eql, o_neq, o_lss, o_leq, o_gtr, o_geq, o_seql, o_sneq, o_slss, o_sleq, o_sgtr, o_sgeq, o_beql, o_bneq, o_scat, o_not, o_neg, o_com, o_conv, o_s2b, o_b2s, o_len, o_slen, o_inb, o_idx, o_sidx, o_sub3, o_sub2, o_ssub3, o_ssub2, o_app, o_apps, o_mk, mkE_some, consD_some, mkD_zero, mkD_int, mkD_str, mkD_sl, o_imin, o_imax, o_smin, o_smax, o_eqs, eqsE_some, eqC_nil, andE_some, eqC_int, eqC_bool, eqC_str, j1, outE_some, outE_none, outE_ite, agE_1, loopE_1, agE_2, loopE_2, agE_3, loopE_3, agE_4, loopE_4, agE_5, loopE_5, agE_6, loopE_6, agE_7, loopE_7, agE_8, loopE_8, agE_9, loopE_9, List.cons_append, List.nil_append, List.append_nil, split, List.take_succ_cons, List.take_zero, List.drop_succ_cons, List.drop_zero, hi, b1, k90, allL, allA, hz, resA]
    · have hbig : l.length + 1 ≤ BIG := by simp only [BIG]; omega
      rw [if_neg hz] at k90
      refine .inl ⟨(l ++ [gvV (x.drop a.toNat)], a + gvN (x.drop a.toNat), i + 1), ?_, ⟨by simp only; omega, by simp only; omega, by simp only; omega, by simp only; omega, by simp; omega⟩, by simp only; omega, ?_⟩
      · simp [↓den_start, ↓deb_op, ↓deb_ret, ↓deb_jump, ↓deb_itev, ↓deb_itel, ↓deb_loop, ↓deb_fail, ↓deb_nilcv, nilE_some, opE_some, debP_nil, debP_cons, pushL_nil, pushL_cons, retE_some, iteE_some, evB_nil, evB_v, evB_l, lkE_cons, consE_some, d_int, d_bool, d_str, d_nil, o_add, o_sub, o_mul, o_and, o_or, o_xor, o_andNot, o_quo, o_rem, o_shl, o_shr, o_eql, o_neq, o_lss, o_leq, o_gtr, o_geq, o_seql, o_sneq, o_slss, o_sleq, o_sgtr, o_sgeq, o_beql, o_bneq, o_scat, o_not, o_neg, o_com, o_conv, o_s2b, o_b2s, o_len, o_slen, o_inb, o_idx, o_sidx, o_sub3, o_sub2, o_ssub3, o_ssub2, o_app, o_apps, o_mk, mkE_some, consD_some, mkD_zero, mkD_int, mkD_str, mkD_sl, o_imin, o_imax, o_smin, o_smax, o_eqs, eqsE_some, eqC_nil, andE_some, eqC_int, eqC_bool, eqC_str, j1, outE_some, outE_none, outE_ite, agE_1, loopE_1, agE_2, loopE_2, agE_3, loopE_3, agE_4, loopE_4, agE_5, loopE_5, agE_6, loopE_6, agE_7, loopE_7, agE_8, loopE_8, agE_9, loopE_9, List.cons_append, List.nil_append, List.append_nil, split, List.take_succ_cons, List.take_zero, List.drop_succ_cons, List.drop_zero, hi, b1, k90, hbig]
        exact ⟨wi64 _ (by omega) (by omega), wi64 _ (by omega) (by omega)⟩
      · have := resA_step (n - (i + 1)).toNat x l a.toNat hz
        simp only
        rw [show (a + (gvN (x.drop a.toNat) : Int)).toNat = a.toNat + gvN (x.drop a.toNat) by omega]
        rw [show (a + (gvN (x.drop a.toNat) : Int)) = ((a.toNat + gvN (x.drop a.toNat) : Nat) : Int) by omega, this]
        congr 2
        omega
  · refine .inr ?_
    rw [if_neg hi, show (n - i).toNat = 0 by omega]
    simp [allL, allA, resA]
theorem s129 {lc : List Ct} (hl0 : look (lc.map fun c => (c.sig.id, c)) 129 = some c129) : ∀ (x : List Int) (n : Int) (hb : ∀ c ∈ x, 0 ≤ c ∧ c < 256) (hl : x.length < 1000000000000) (h0 : 0 ≤ n) (h1 : n ≤ 1000), Does1 (Phi lc) 129 [⟨.sl (.int .u8), x⟩, ⟨.int .i64, n⟩] (resA (allL n.toNat x) [] (allA n.toNat x)) :=
  fun x n hb hl h0 h1 => Does1.of hl0 (f129 x n hb hl h0 h1) (by unfold resA; split <;> rfl)
theorem f130 (a b c : Int) : F130 [⟨.sl (.int .u64), [a, b, c]⟩] = some [⟨.int .u64, max a (max b c)⟩] := by
  simp only [F130, Fof, ir130]
  simp [↓den_start, ↓deb_op, ↓deb_ret, ↓deb_jump, ↓deb_itev, ↓deb_itel, ↓deb_loop, ↓deb_fail, ↓deb_nilcv, nilE_some, opE_some, debP_nil, debP_cons, pushL_nil, pushL_cons, retE_some, iteE_some, evB_nil, evB_v, evB_l, lkE_cons, consE_some, d_int, d_bool, d_str, d_nil, o_add, o_sub, o_mul, o_and, o_or, o_xor, o_andNot, o_quo, o_rem, o_shl, o_shr, o_eql, o_neq, o_lss, o_leq, o_gtr, o_geq, o_seql, o_sneq, o_slss, o_sleq, o_sgtr, o_sgeq, o_beql, o_bneq, o_scat, o_not, o_neg, o_com, o_conv, o_s2b, o_b2s, o_len, o_slen, o_inb, o_idx, o_sidx, o_sub3, o_sub2, o_ssub3, o_ssub2, o_app, o_apps, o_mk, mkE_some, consD_some, mkD_zero, mkD_int, mkD_str, mkD_sl, o_imin, o_imax, o_smin, o_smax, o_eqs, eqsE_some, eqC_nil, andE_some, eqC_int, eqC_bool, eqC_str, j1, outE_some, outE_none, outE_ite, agE_1, loopE_1, agE_2, loopE_2, agE_3, loopE_3, agE_4, loopE_4, agE_5, loopE_5, agE_6, loopE_6, agE_7, loopE_7, agE_8, loopE_8, agE_9, loopE_9, List.cons_append, List.nil_append, List.append_nil, split, List.take_succ_cons, List.take_zero, List.drop_succ_cons, List.drop_zero]
  rw [iter_again (s' := (if a < b then b else a, 2)) (by simp [wi64]), iter_again (s' := (if (if a < b then b else a) < c then c else (if a < b then b else a), 3)) (by simp [wi64]), iter_out rfl]
  have : (if (if a < b then b else a) < c then c else if a < b then b else a) = max a (max b c) := by
    repeat' split
    all_goals omega
  rw [this]
theorem s130 {lc : List Ct} (hl0 : look (lc.map fun c => (c.sig.id, c)) 130 = some c130) : ∀ (a b c : Int), Does1 (Phi lc) 130 [⟨.sl (.int .u64), [a, b, c]⟩] [⟨.int .u64, max a (max b c)⟩] :=
  fun a b c => Does1.of hl0 (f130 a b c) rfl
theorem or_pow32 (x y : Int) (k : Nat) (h0 : 0 ≤ x) (h1 : x < 2 ^ k) (h2 : 0 ≤ y) (h3 : x + y * 2 ^ k < 4294967296) : bOr .u32 x (IntKind.u32.wrap (y * 2 ^ k)) = x + y * 2 ^ k := by
  obtain ⟨a, rfl⟩ := Int.eq_ofNat_of_zero_le h0
  obtain ⟨b, rfl⟩ := Int.eq_ofNat_of_zero_le h2
  have hy : (0 : Int) ≤ (b : Int) * 2 ^ k := Int.mul_nonneg (by omega) (Int.le_of_lt (Int.pow_pos (by omega)))
  have e1 : ((b : Int) * 2 ^ k) = ((b * 2 ^ k : Nat) : Int) := by push_cast; rfl
  have ha : a < 2 ^ k := by
    have : ((a : Int)) < ((2 ^ k : Nat) : Int) := by push_cast; exact h1
    omega
  rw [wu32 _ hy (by omega)]
  rw [e1] at h3 ⊢
  unfold bOr
  rw [BitVec.toNat_or, ofInt_nat, ofInt_nat]
  show IntKind.u32.wrap ((a % 4294967296 ||| b * 2 ^ k % 4294967296 : Nat) : Int) = _
  rw [Nat.mod_eq_of_lt (by omega), Nat.mod_eq_of_lt (by omega), Nat.or_comm, Nat.mul_comm b, ← Nat.two_pow_add_eq_or_of_lt ha]
  rw [wu32 _ (by omega) (by rw [Nat.mul_comm] at h3; omega)]
  push_cast
  omega
theorem f131 (a b c d : Int) (l : List Int) (ha : 0 ≤ a ∧ a < 256) (hb : 0 ≤ b ∧ b < 256) (hc : 0 ≤ c ∧ c < 256) (hd : 0 ≤ d ∧ d < 256) : F131 [⟨.sl (.int .u8), a :: b :: c :: d :: l⟩] = some [⟨.int .u32, a + b * 256 + c * 65536 + d * 16777216⟩] := by
  simp only [F131, Fof, ir131]
  have e : bOr .u32 (bOr .u32 (bOr .u32 (IntKind.u32.wrap a) (IntKind.u32.wrap (IntKind.u32.wrap b * 2 ^ Nat.min 8 IntKind.u32.bits))) (IntKind.u32.wrap (IntKind.u32.wrap c * 2 ^ Nat.min 16 IntKind.u32.bits)))
      (IntKind.u32.wrap (IntKind.u32.wrap d * 2 ^ Nat.min 24 IntKind.u32.bits)) = a + b * 256 + c * 65536 + d * 16777216 := by
    rw [wu32 a (by omega) (by omega), wu32 b (by omega) (by omega), wu32 c (by omega) (by omega), wu32 d (by omega) (by omega)]
    rw [show Nat.min 8 IntKind.u32.bits = 8 from rfl, show Nat.min 16 IntKind.u32.bits = 16 from rfl, show Nat.min 24 IntKind.u32.bits = 24 from rfl]
    rw [or_pow32 a b 8 (by omega) (by omega) (by omega) (by omega), or_pow32 _ c 16 (by omega) (by omega) (by omega) (by omega), or_pow32 _ d 24 (by omega) (by omega) (by omega) (by omega)]
    rfl
  simp [↓den_start, ↓deb_op, ↓deb_ret, ↓deb_jump, ↓deb_itev, ↓deb_itel, ↓deb_loop, ↓deb_fail, ↓deb_nilcv, nilE_some, opE_some, debP_nil, debP_cons, pushL_nil, pushL_cons, retE_some, iteE_some, evB_nil, evB_v, evB_l, lkE_cons, consE_some, d_int, d_bool, d_str, d_nil, o_add, o_sub, o_mul, o_and, o_or, o_xor, o_andNot, o_quo, o_rem, o_shl, o_shr, o_eql, o_neq, o_lss, o_leq, o_gtr, o_geq, o_seql, o_sneq, o_slss, o_sleq, o_sgtr, o_sgeq, o_beql, o_bneq, o_scat, o_not, o_neg, o_com, o_conv, o_s2b, o_b2s, o_len, o_slen, o_inb, o_idx, o_sidx, o_sub3, o_sub2, o_ssub3, o_ssub2, o_app, o_apps, o_mk, mkE_some, consD_some, mkD_zero, mkD_int, mkD_str, mkD_sl, o_imin, o_imax, o_smin, o_smax, o_eqs, eqsE_some, eqC_nil, andE_some, eqC_int, eqC_bool, eqC_str, j1, outE_some, outE_none, outE_ite, agE_1, loopE_1, agE_2, loopE_2, agE_3, loopE_3, agE_4, loopE_4, agE_5, loopE_5, agE_6, loopE_6, agE_7, loopE_7, agE_8, loopE_8, agE_9, loopE_9, List.cons_append, List.nil_append, List.append_nil, split, List.take_succ_cons, List.take_zero, List.drop_succ_cons, List.drop_zero]
  exact ⟨by omega, by omega, by omega, by omega, e⟩
theorem s131 {lc : List Ct} (hl0 : look (lc.map fun c => (c.sig.id, c)) 131 = some c131) : ∀ (a b c d : Int) (l : List Int) (ha : 0 ≤ a ∧ a < 256) (hb : 0 ≤ b ∧ b < 256) (hc : 0 ≤ c ∧ c < 256) (hd : 0 ≤ d ∧ d < 256), Does1 (Phi lc) 131 [⟨.sl (.int .u8), a :: b :: c :: d :: l⟩] [⟨.int .u32, a + b * 256 + c * 65536 + d * 16777216⟩] :=
  fun a b c d l ha hb hc hd => Does1.of hl0 (f131 a b c d l ha hb hc hd) rfl
def sumv : List Int → Int
  | a :: b :: c :: d :: _ => a + b * 256 + c * 65536 + d * 16777216
  | _ => 0
def getP (x : List Int) : Option (Int × Int × Int × Int × Nat) := match allL 3 x with
  | some [s, a, n] => if allA 3 x + 4 ≤ x.length ∧ pOk s a n = true then some (s, a, n, sumv (x.drop (allA 3 x)), allA 3 x + 4) else none
  | _ => none
def resP (o : Option (Int × Int × Int × Int × Nat)) : List D := match o with
  | some (s, a, n, m, k) => [⟨.int .i64, s⟩, ⟨.int .i64, a⟩, ⟨.int .i64, n⟩, ⟨.int .u32, m⟩, ⟨.int .i64, k⟩]
  | none => [⟨.int .i64, 0⟩, ⟨.int .i64, 0⟩, ⟨.int .i64, 0⟩, ⟨.int .u32, 0⟩, ⟨.int .i64, 0⟩]
def resPe (o : Option (Int × Int × Int × Int × Nat)) : List D := match o with
  | some (s, a, n, m, k) => [⟨.int .i64, s⟩, ⟨.int .i64, a⟩, ⟨.int .i64, n⟩, ⟨.int .u32, m⟩, ⟨.int .i64, k⟩, ⟨.int .i64, 0⟩]
  | none => [⟨.int .i64, 0⟩, ⟨.int .i64, 0⟩, ⟨.int .i64, 0⟩, ⟨.int .u32, 0⟩, ⟨.int .i64, 0⟩, ⟨.int .i64, 2⟩]
theorem four {l : List Int} (h : 4 ≤ l.length) : ∃ a b c d r, l = a :: b :: c :: d :: r := by
  match l, h with
  | a :: b :: c :: d :: r, _ => exact ⟨a, b, c, d, r, rfl⟩
theorem three {l : List Int} (h : l.length = 3) : ∃ a b c, l = [a, b, c] := by
  match l, h with
  | [a, b, c], _ => exact ⟨a, b, c, rfl⟩

theorem f89 (x : List Int) (hb : ∀ c ∈ x, 0 ≤ c ∧ c < 256) (hl : x.length < 1000000000000) : F89 [⟨.sl (.int .u8), x⟩] = some (resPe (getP x)) := by
  have h129 := s129 (lc := [c129, c130, c131, c68]) rfl
  have h130 := s130 (lc := [c129, c130, c131, c68]) rfl
  have h131 := s131 (lc := [c129, c130, c131, c68]) rfl
  have h68 := s68 (lc := [c129, c130, c131, c68]) rfl
  simp only [F89, Fof, ir89]
  generalize Phi [c129, c130, c131, c68] = Φ at *
  have k129 := h129 x 3 hb hl (by omega) (by omega)
  have hle := allA_le 3 x hb
  rw [show (3 : Int).toNat = 3 from rfl] at k129
  cases ha : allL 3 x with
  | none =>
    simp only [ha, resA] at k129
    simp [↓den_start, ↓deb_op, ↓deb_ret, ↓deb_jump, ↓deb_itev, ↓deb_itel, ↓deb_loop, ↓deb_fail, ↓deb_nilcv, nilE_some, opE_some, debP_nil, debP_cons, pushL_nil, pushL_cons, retE_some, iteE_some, evB_nil, evB_v, evB_l, lkE_cons, consE_some, d_int, d_bool, d_str, d_nil, o_add, o_sub, o_mul, o_and, o_or, o_xor, o_andNot, o_quo, o_rem, o_shl, o_shr, o_eql, o_neq, o_lss, o_leq, o_gtr, o_geq, o_seql, o_sneq, o_slss, o_sleq, o_sgtr, o_sgeq, o_beql, o_bneq, o_scat, o_not, o_neg, o_com, o_conv, o_s2b, o_b2s, o_len, o_slen, o_inb, o_idx, o_sidx, o_sub3, o_sub2, o_ssub3, o_ssub2, o_app, o_apps, o_mk, mkE_some, consD_some, mkD_zero, mkD_int, mkD_str, mkD_sl, o_imin, o_imax, o_smin, o_smax, o_eqs, eqsE_some, eqC_nil, andE_some, eqC_int, eqC_bool, eqC_str, j1, outE_some, outE_none, outE_ite, agE_1, loopE_1, agE_2, loopE_2, agE_3, loopE_3, agE_4, loopE_4, agE_5, loopE_5, agE_6, loopE_6, agE_7, loopE_7, agE_8, loopE_8, agE_9, loopE_9, List.cons_append, List.nil_append, List.append_nil, split, List.take_succ_cons, List.take_zero, List.drop_succ_cons, List.drop_zero, k129, getP, ha, resPe]
  | some r =>
    have hr := allL_range 3 x r hb ha
    obtain ⟨s, a, n, rfl⟩ := three (allL_len 3 x r ha)
    simp only [ha, resA, List.nil_append] at k129
    have hs := hr s (by simp)
    have ha' := hr a (by simp)
    have hn := hr n (by simp)
    have k130 := h130 s a n
    simp only [getP, ha]
    generalize allA 3 x = m at *
    by_cases hm : 2147483647 < max s (max a n)
    · have hp : pOk s a n = false := by simp [pOk]; omega
      simp [↓den_start, ↓deb_op, ↓deb_ret, ↓deb_jump, ↓deb_itev, ↓deb_itel, ↓deb_loop, ↓deb_fail, ↓deb_nilcv, nilE_some, opE_some, debP_nil, debP_cons, pushL_nil, pushL_cons, retE_some, iteE_some, evB_nil, evB_v, evB_l, lkE_cons, consE_some, d_int, d_bool, d_str, d_nil, o_add, o_sub, o_mul, o_and, o_or, o_xor, o_andNot, o_quo, o_rem, o_shl, o_shr, o_eql, o_neq, o_lss, o_leq, o_gtr, o_geq, o_seql, o_sneq, o_slss, o_sleq, o_sgtr, o_sgeq, o_beql, o_bneq, o_scat, o_not, o_neg, o_com, o_conv, o_s2b, o_b2s, o_len, o_slen, o_inb, o_idx, o_sidx, o_sub3, o_sub2, o_ssub3, o_ssub2, o_app, o_apps, o_mk, mkE_some, consD_some, mkD_zero, mkD_int, mkD_str, mkD_sl, o_imin, o_imax, o_smin, o_smax, o_eqs, eqsE_some, eqC_nil, andE_some, eqC_int, eqC_bool, eqC_str, j1, outE_some, outE_none, outE_ite, agE_1, loopE_1, agE_2, loopE_2, agE_3, loopE_3, agE_4, loopE_4, agE_5, loopE_5, agE_6, loopE_6, agE_7, loopE_7, agE_8, loopE_8, agE_9, loopE_9, List.cons_append, List.nil_append, List.append_nil, split, List.take_succ_cons, List.take_zero, List.drop_succ_cons, List.drop_zero, k129, k130, resPe, hm, hp]
    · have e : IntKind.i64.wrap ((x.length : Int) - m) = (x.length : Int) - m := wi64 _ (by omega) (by omega)
      have e5 : IntKind.i64.wrap ((m : Int) + 4) = (m : Int) + 4 := wi64 _ (by omega) (by omega)
      by_cases h4 : (x.length : Int) - m < 4
      · have h4' : ¬ (m + 4 ≤ x.length) := by omega
        simp [↓den_start, ↓deb_op, ↓deb_ret, ↓deb_jump, ↓deb_itev, ↓deb_itel, ↓deb_loop, ↓deb_fail, ↓deb_nilcv, nilE_some, opE_some, debP_nil, debP_cons, pushL_nil, pushL_cons, retE_some, iteE_some, evB_nil, evB_v, evB_l, lkE_cons, consE_some, d_int, d_bool, d_str, d_nil, o_add, o_sub, o_mul, o_and, o_or, o_xor, o_andNot, o_quo, o_rem, o_shl, o_shr, o_eql, o_neq, o_lss, o_leq, o_gtr, o_geq, o_seql, o_sneq, o_slss, o_sleq, o_sgtr, o_sgeq, o_beql, o_bneq, o_scat, o_not, o_neg, o_com, o_conv, o_s2b, o_b2s, o_len, o_slen, o_inb, o_idx, o_sidx, o_sub3, o_sub2, o_ssub3, o_ssub2, o_app, o_apps, o_mk, mkE_some, consD_some, mkD_zero, mkD_int, mkD_str, mkD_sl, o_imin, o_imax, o_smin, o_smax, o_eqs, eqsE_some, eqC_nil, andE_some, eqC_int, eqC_bool, eqC_str, j1, outE_some, outE_none, outE_ite, agE_1, loopE_1, agE_2, loopE_2, agE_3, loopE_3, agE_4, loopE_4, agE_5, loopE_5, agE_6, loopE_6, agE_7, loopE_7, agE_8, loopE_8, agE_9, loopE_9, List.cons_append, List.nil_append, List.append_nil, split, List.take_succ_cons, List.take_zero, List.drop_succ_cons, List.drop_zero, k129, k130, resPe, hm, e, h4, h4']
      · have h4' : m + 4 ≤ x.length := by omega
        obtain ⟨p, q, r, t, w, hd⟩ := four (l := x.drop m) (by rw [List.length_drop]; omega)
        have hbd : ∀ c ∈ x.drop m, 0 ≤ c ∧ c < 256 := fun c hc => hb c (List.mem_of_mem_drop hc)
        rw [hd] at hbd
        have k131 := h131 p q r t w (hbd p (by simp)) (hbd q (by simp)) (hbd r (by simp)) (hbd t (by simp))
        have k68 := h68 s a n (p + q * 256 + r * 65536 + t * 16777216)
        have b2 : (m : Int) ≤ x.length := by omega
        have es : IntKind.i64.wrap s = s := wi64 s (by omega) (by omega)
        have ea : IntKind.i64.wrap a = a := wi64 a (by omega) (by omega)
        have en : IntKind.i64.wrap n = n := wi64 n (by omega) (by omega)
        have hsum : sumv (x.drop m) = p + q * 256 + r * 65536 + t * 16777216 := by rw [hd]; rfl
        rw [hsum]
        generalize p + q * 256 + r * 65536 + t * 16777216 = z at *
        rw [← hd] at k131
        clear hd hbd hsum
        by_cases hp : pOk s a n = true
        · rw [if_pos hp] at k68
          simp [↓den_start, ↓deb_op, ↓deb_ret, ↓deb_jump, ↓deb_itev, ↓deb_itel, ↓deb_loop, ↓deb_fail, ↓deb_nilcv, nilE_some, opE_some, debP_nil, debP_cons, pushL_nil, pushL_cons, retE_some, iteE_some, evB_nil, evB_v, evB_l, lkE_cons, consE_some, d_int, d_bool, d_str, d_nil, o_add, o_sub, o_mul, o_and, o_or, o_xor, o_andNot, o_quo, o_rem, o_shl, o_shr, o_eql, o_neq, o_lss, o_leq, o_gtr, o_geq, o_seql, o_sneq, o_slss, o_sleq, o_sgtr, o_sgeq, o_beql, o_bneq, o_scat, o_not, o_neg, o_com, o_conv, o_s2b, o_b2s, o_len, o_slen, o_inb, o_idx, o_sidx, o_sub3, o_sub2, o_ssub3, o_ssub2, o_app, o_apps, o_mk, mkE_some, consD_some, mkD_zero, mkD_int, mkD_str, mkD_sl, o_imin, o_imax, o_smin, o_smax, o_eqs, eqsE_some, eqC_nil, andE_some, eqC_int, eqC_bool, eqC_str, j1, outE_some, outE_none, outE_ite, agE_1, loopE_1, agE_2, loopE_2, agE_3, loopE_3, agE_4, loopE_4, agE_5, loopE_5, agE_6, loopE_6, agE_7, loopE_7, agE_8, loopE_8, agE_9, loopE_9, List.cons_append, List.nil_append, List.append_nil, split, List.take_succ_cons, List.take_zero, List.drop_succ_cons, List.drop_zero, k129, k130, resPe, hm, e, e5, h4, h4', b2, k131, k68, hp, es, ea, en]
        · rw [if_neg hp] at k68
          simp [↓den_start, ↓deb_op, ↓deb_ret, ↓deb_jump, ↓deb_itev, ↓deb_itel, ↓deb_loop, ↓deb_fail, ↓deb_nilcv, nilE_some, opE_some, debP_nil, debP_cons, pushL_nil, pushL_cons, retE_some, iteE_some, evB_nil, evB_v, evB_l, lkE_cons, consE_some, d_int, d_bool, d_str, d_nil, o_add, o_sub, o_mul, o_and, o_or, o_xor, o_andNot, o_quo, o_rem, o_shl, o_shr, o_eql, o_neq, o_lss, o_leq, o_gtr, o_geq, o_seql, o_sneq, o_slss, o_sleq, o_sgtr, o_sgeq, o_beql, o_bneq, o_scat, o_not, o_neg, o_com, o_conv, o_s2b, o_b2s, o_len, o_slen, o_inb, o_idx, o_sidx, o_sub3, o_sub2, o_ssub3, o_ssub2, o_app, o_apps, o_mk, mkE_some, consD_some, mkD_zero, mkD_int, mkD_str, mkD_sl, o_imin, o_imax, o_smin, o_smax, o_eqs, eqsE_some, eqC_nil, andE_some, eqC_int, eqC_bool, eqC_str, j1, outE_some, outE_none, outE_ite, agE_1, loopE_1, agE_2, loopE_2, agE_3, loopE_3, agE_4, loopE_4, agE_5, loopE_5, agE_6, loopE_6, agE_7, loopE_7, agE_8, loopE_8, agE_9, loopE_9, List.cons_append, List.nil_append, List.append_nil, split, List.take_succ_cons, List.take_zero, List.drop_succ_cons, List.drop_zero, k129, k130, resPe, hm, e, e5, h4, h4', b2, k131, k68, hp, es, ea, en]
theorem s89 {lc : List Ct} (hl0 : look (lc.map fun c => (c.sig.id, c)) 89 = some c89) : ∀ (x : List Int) (hb : ∀ c ∈ x, 0 ≤ c ∧ c < 256) (hl : x.length < 1000000000000), Does1 (Phi lc) 89 [⟨.sl (.int .u8), x⟩] (resPe (getP x)) :=
  fun x hb hl => Does1.of hl0 (f89 x hb hl) (by unfold resPe; split <;> rfl)
end Go.Proofs.Ytdjknicjnaiomaa.Sx

/- Cells read back from bytes; the laws CellGets and CellReads. -/
namespace Go.Proofs.Ytdjknicjnaiomaa.Sx

theorem f91 (x : List Int) (hb : ∀ c ∈ x, 0 ≤ c ∧ c < 256) (hl : x.length < 1000000000000) : F91 [⟨.sl (.int .u8), x⟩] = some (resP (getP x)) := by
  have h132 := s132 (lc := [c132, c27]) rfl
  have h27 := s27 (lc := [c132, c27]) rfl
  simp only [F91, Fof, ir91]
  generalize Phi [c132, c27] = Φ at *
  have k132 := h132 x 3 hb hl (by omega) (by omega)
  have hle := allA_le 3 x hb
  rw [show (3 : Int).toNat = 3 from rfl] at k132
  cases ha : allL 3 x with
  | none =>
    simp only [ha, resA] at k132
    simp [↓den_start, ↓deb_op, ↓deb_ret, ↓deb_jump, ↓deb_itev, ↓deb_itel, ↓deb_loop, ↓deb_fail, ↓deb_nilcv, nilE_some, opE_some, debP_nil, debP_cons, pushL_nil, pushL_cons, retE_some, iteE_some, evB_nil, evB_v, evB_l, lkE_cons, consE_some, d_int, d_bool, d_str, d_nil, o_add, o_sub, o_mul, o_and, o_or, o_xor, o_andNot, o_quo, o_rem, o_shl, o_shr, o_eql, o_neq, o_lss, o_leq, o_gtr, o_geq, o_seql, o_sneq, o_slss, o_sleq, o_sgtr, o_sgeq, o_beql, o_bneq, o_scat, o_not, o_neg, o_com, o_conv, o_s2b, o_b2s, o_len, o_slen, o_inb, o_idx, o_sidx, o_sub3, o_sub2, o_ssub3, o_ssub2, o_app, o_apps, o_mk, mkE_some, consD_some, mkD_zero, mkD_int, mkD_str, mkD_sl, o_imin, o_imax, o_smin, o_smax, o_eqs, eqsE_some, eqC_nil, andE_some, eqC_int, eqC_bool, eqC_str, j1, outE_some, outE_none, outE_ite, agE_1, loopE_1, agE_2, loopE_2, agE_3, loopE_3, agE_4, loopE_4, agE_5, loopE_5, agE_6, loopE_6, agE_7, loopE_7, agE_8, loopE_8, agE_9, loopE_9, List.cons_append, List.nil_append, List.append_nil, split, List.take_succ_cons, List.take_zero, List.drop_succ_cons, List.drop_zero, k132, getP, ha, resP]
  | some r =>
    have hr := allL_range 3 x r hb ha
    obtain ⟨s, a, n, rfl⟩ := three (allL_len 3 x r ha)
    simp only [ha, resA, List.nil_append] at k132
    have hs := hr s (by simp)
    have ha' := hr a (by simp)
    have hn := hr n (by simp)
    simp only [getP, ha]
    generalize allA 3 x = m at *
    have e5 : IntKind.i64.wrap ((m : Int) + 4) = (m : Int) + 4 := wi64 _ (by omega) (by omega)
    by_cases h4 : (x.length : Int) < m + 4
    · have h4' : ¬ (m + 4 ≤ x.length) := by omega
      simp [↓den_start, ↓deb_op, ↓deb_ret, ↓deb_jump, ↓deb_itev, ↓deb_itel, ↓deb_loop, ↓deb_fail, ↓deb_nilcv, nilE_some, opE_some, debP_nil, debP_cons, pushL_nil, pushL_cons, retE_some, iteE_some, evB_nil, evB_v, evB_l, lkE_cons, consE_some, d_int, d_bool, d_str, d_nil, o_add, o_sub, o_mul, o_and, o_or, o_xor, o_andNot, o_quo, o_rem, o_shl, o_shr, o_eql, o_neq, o_lss, o_leq, o_gtr, o_geq, o_seql, o_sneq, o_slss, o_sleq, o_sgtr, o_sgeq, o_beql, o_bneq, o_scat, o_not, o_neg, o_com, o_conv, o_s2b, o_b2s, o_len, o_slen, o_inb, o_idx, o_sidx, o_sub3, o_sub2, o_ssub3, o_ssub2, o_app, o_apps, o_mk, mkE_some, consD_some, mkD_zero, mkD_int, mkD_str, mkD_sl, o_imin, o_imax, o_smin, o_smax, o_eqs, eqsE_some, eqC_nil, andE_some, eqC_int, eqC_bool, eqC_str, j1, outE_some, outE_none, outE_ite, agE_1, loopE_1, agE_2, loopE_2, agE_3, loopE_3, agE_4, loopE_4, agE_5, loopE_5, agE_6, loopE_6, agE_7, loopE_7, agE_8, loopE_8, agE_9, loopE_9, List.cons_append, List.nil_append, List.append_nil, split, List.take_succ_cons, List.take_zero, List.drop_succ_cons, List.drop_zero, k132, resP, e5, h4, h4']
    · have h4' : m + 4 ≤ x.length := by omega
      by_cases c1 : 2147483647 < s
      · have hp : pOk s a n = false := by simp [pOk]; omega
        simp [↓den_start, ↓deb_op, ↓deb_ret, ↓deb_jump, ↓deb_itev, ↓deb_itel, ↓deb_loop, ↓deb_fail, ↓deb_nilcv, nilE_some, opE_some, debP_nil, debP_cons, pushL_nil, pushL_cons, retE_some, iteE_some, evB_nil, evB_v, evB_l, lkE_cons, consE_some, d_int, d_bool, d_str, d_nil, o_add, o_sub, o_mul, o_and, o_or, o_xor, o_andNot, o_quo, o_rem, o_shl, o_shr, o_eql, o_neq, o_lss, o_leq, o_gtr, o_geq, o_seql, o_sneq, o_slss, o_sleq, o_sgtr, o_sgeq, o_beql, o_bneq, o_scat, o_not, o_neg, o_com, o_conv, o_s2b, o_b2s, o_len, o_slen, o_inb, o_idx, o_sidx, o_sub3, o_sub2, o_ssub3, o_ssub2, o_app, o_apps, o_mk, mkE_some, consD_some, mkD_zero, mkD_int, mkD_str, mkD_sl, o_imin, o_imax, o_smin, o_smax, o_eqs, eqsE_some, eqC_nil, andE_some, eqC_int, eqC_bool, eqC_str, j1, outE_some, outE_none, outE_ite, agE_1, loopE_1, agE_2, loopE_2, agE_3, loopE_3, agE_4, loopE_4, agE_5, loopE_5, agE_6, loopE_6, agE_7, loopE_7, agE_8, loopE_8, agE_9, loopE_9, List.cons_append, List.nil_append, List.append_nil, split, List.take_succ_cons, List.take_zero, List.drop_succ_cons, List.drop_zero, k132, resP, e5, h4, hp, c1]
      by_cases c2 : 2147483647 < a
      · have hp : pOk s a n = false := by simp [pOk]; omega
        simp [↓den_start, ↓deb_op, ↓deb_ret, ↓deb_jump, ↓deb_itev, ↓deb_itel, ↓deb_loop, ↓deb_fail, ↓deb_nilcv, nilE_some, opE_some, debP_nil, debP_cons, pushL_nil, pushL_cons, retE_some, iteE_some, evB_nil, evB_v, evB_l, lkE_cons, consE_some, d_int, d_bool, d_str, d_nil, o_add, o_sub, o_mul, o_and, o_or, o_xor, o_andNot, o_quo, o_rem, o_shl, o_shr, o_eql, o_neq, o_lss, o_leq, o_gtr, o_geq, o_seql, o_sneq, o_slss, o_sleq, o_sgtr, o_sgeq, o_beql, o_bneq, o_scat, o_not, o_neg, o_com, o_conv, o_s2b, o_b2s, o_len, o_slen, o_inb, o_idx, o_sidx, o_sub3, o_sub2, o_ssub3, o_ssub2, o_app, o_apps, o_mk, mkE_some, consD_some, mkD_zero, mkD_int, mkD_str, mkD_sl, o_imin, o_imax, o_smin, o_smax, o_eqs, eqsE_some, eqC_nil, andE_some, eqC_int, eqC_bool, eqC_str, j1, outE_some, outE_none, outE_ite, agE_1, loopE_1, agE_2, loopE_2, agE_3, loopE_3, agE_4, loopE_4, agE_5, loopE_5, agE_6, loopE_6, agE_7, loopE_7, agE_8, loopE_8, agE_9, loopE_9, List.cons_append, List.nil_append, List.append_nil, split, List.take_succ_cons, List.take_zero, List.drop_succ_cons, List.drop_zero, k132, resP, e5, h4, hp, c1, c2]
      by_cases c3 : 4096 < n
      · have hp : pOk s a n = false := by simp [pOk]; omega
        simp [↓den_start, ↓deb_op, ↓deb_ret, ↓deb_jump, ↓deb_itev, ↓deb_itel, ↓deb_loop, ↓deb_fail, ↓deb_nilcv, nilE_some, opE_some, debP_nil, debP_cons, pushL_nil, pushL_cons, retE_some, iteE_some, evB_nil, evB_v, evB_l, lkE_cons, consE_some, d_int, d_bool, d_str, d_nil, o_add, o_sub, o_mul, o_and, o_or, o_xor, o_andNot, o_quo, o_rem, o_shl, o_shr, o_eql, o_neq, o_lss, o_leq, o_gtr, o_geq, o_seql, o_sneq, o_slss, o_sleq, o_sgtr, o_sgeq, o_beql, o_bneq, o_scat, o_not, o_neg, o_com, o_conv, o_s2b, o_b2s, o_len, o_slen, o_inb, o_idx, o_sidx, o_sub3, o_sub2, o_ssub3, o_ssub2, o_app, o_apps, o_mk, mkE_some, consD_some, mkD_zero, mkD_int, mkD_str, mkD_sl, o_imin, o_imax, o_smin, o_smax, o_eqs, eqsE_some, eqC_nil, andE_some, eqC_int, eqC_bool, eqC_str, j1, outE_some, outE_none, outE_ite, agE_1, loopE_1, agE_2, loopE_2, agE_3, loopE_3, agE_4, loopE_4, agE_5, loopE_5, agE_6, loopE_6, agE_7, loopE_7, agE_8, loopE_8, agE_9, loopE_9, List.cons_append, List.nil_append, List.append_nil, split, List.take_succ_cons, List.take_zero, List.drop_succ_cons, List.drop_zero, k132, resP, e5, h4, hp, c1, c2, c3]
      obtain ⟨p, q, r, t, w, hd⟩ := four (l := x.drop m) (by rw [List.length_drop]; omega)
      have hbd : ∀ c ∈ x.drop m, 0 ≤ c ∧ c < 256 := fun c hc => hb c (List.mem_of_mem_drop hc)
      rw [hd] at hbd
      have hp0 := hbd p (by simp); have hq0 := hbd q (by simp); have hr0 := hbd r (by simp); have ht0 := hbd t (by simp)
      have get0 : ∀ (j : Nat) (y : Int), (x.drop m)[j]? = some y → x[m + j]? = some y := fun j y h => by rw [List.getElem?_drop] at h; exact h
      rw [hd] at get0
      have g0 := get0 0 p rfl; have g1 := get0 1 q rfl; have g2 := get0 2 r rfl; have g3 := get0 3 t rfl
      have hsum : sumv (x.drop m) = p + q * 256 + r * 65536 + t * 16777216 := by rw [hd]; rfl
      have es : IntKind.i64.wrap s = s := wi64 s (by omega) (by omega)
      have ea : IntKind.i64.wrap a = a := wi64 a (by omega) (by omega)
      have en : IntKind.i64.wrap n = n := wi64 n (by omega) (by omega)
      have k27 := h27 s a n (p + q * 256 + r * 65536 + t * 16777216)
      rw [hsum]
      simp [↓den_start, ↓deb_op, ↓deb_ret, ↓deb_jump, ↓deb_itev, ↓deb_itel, ↓deb_loop, ↓deb_fail, ↓deb_nilcv, nilE_some, opE_some, debP_nil, debP_cons, pushL_nil, pushL_cons, retE_some, iteE_some, evB_nil, evB_v, evB_l, lkE_cons, consE_some, d_int, d_bool, d_str, d_nil, o_add, o_sub, o_mul, o_and, o_or, o_xor, o_andNot, o_quo, o_rem, o_shl, o_shr, o_eql, o_neq, o_lss, o_leq, o_gtr, o_geq, o_seql, o_sneq, o_slss, o_sleq, o_sgtr, o_sgeq, o_beql, o_bneq, o_scat, o_not, o_neg, o_com, o_conv, o_s2b, o_b2s, o_len, o_slen, o_inb, o_idx, o_sidx, o_sub3, o_sub2, o_ssub3, o_ssub2, o_app, o_apps, o_mk, mkE_some, consD_some, mkD_zero, mkD_int, mkD_str, mkD_sl, o_imin, o_imax, o_smin, o_smax, o_eqs, eqsE_some, eqC_nil, andE_some, eqC_int, eqC_bool, eqC_str, j1, outE_some, outE_none, outE_ite, agE_1, loopE_1, agE_2, loopE_2, agE_3, loopE_3, agE_4, loopE_4, agE_5, loopE_5, agE_6, loopE_6, agE_7, loopE_7, agE_8, loopE_8, agE_9, loopE_9, List.cons_append, List.nil_append, List.append_nil, split, List.take_succ_cons, List.take_zero, List.drop_succ_cons, List.drop_zero, k132, e5, h4, c1, c2, c3, es, ea, en]
      have stepk : ∀ (k v : Int) (y : Int), 0 ≤ k → k ≤ 3 → x[m + k.toNat]? = some y → 0 ≤ y → y < 256 → 0 ≤ v → v * 256 + y < 4294967296 →
          (0 ≤ k ∧ 0 ≤ IntKind.i64.wrap ((m : Int) + k) ∧ IntKind.i64.wrap ((m : Int) + k) < x.length ∧ IntKind.i64.wrap (k - 1) = k - 1 ∧
            IntKind.u32.wrap (IntKind.u32.wrap (v * 256) + IntKind.u32.wrap (x[(IntKind.i64.wrap ((m : Int) + k)).toNat]?.getD (dflt (Ty.int IntKind.u8)))) = v * 256 + y) := by
        intro k v y h0 h1 hy hy0 hy1 hv0 hv
        have ew : IntKind.i64.wrap ((m : Int) + k) = m + k := wi64 _ (by omega) (by omega)
        rw [ew, show ((m : Int) + k).toNat = m + k.toNat by omega, hy]
        refine ⟨h0, by omega, by omega, wi64 _ (by omega) (by omega), ?_⟩
        simp only [Option.getD_some]
        rw [wu32 (v * 256) (by omega) (by omega), wu32 y hy0 (by omega), wu32 _ (by omega) (by omega)]
      obtain ⟨_, a1, a2, a3, a4⟩ := stepk 3 0 t (by omega) (by omega) g3 ht0.1 ht0.2 (by omega) (by omega)
      obtain ⟨_, b1, b2, b3, b4⟩ := stepk 2 (0 * 256 + t) r (by omega) (by omega) g2 hr0.1 hr0.2 (by omega) (by omega)
      obtain ⟨_, d1, d2, d3, d4⟩ := stepk 1 ((0 * 256 + t) * 256 + r) q (by omega) (by omega) g1 hq0.1 hq0.2 (by omega) (by omega)
      obtain ⟨_, f1, f2, f3, f4⟩ := stepk 0 (((0 * 256 + t) * 256 + r) * 256 + q) p (by omega) (by omega) g0 hp0.1 hp0.2 (by omega) (by omega)
      rw [iter_again (s' := (2, 0 * 256 + t)) (by simp only [a4, a3]; rw [if_pos (by omega), if_pos ⟨a1, a2⟩]; rfl)]
      rw [iter_again (s' := (1, (0 * 256 + t) * 256 + r)) (by simp only [b4, b3]; rw [if_pos (by omega), if_pos ⟨b1, b2⟩]; rfl)]
      rw [iter_again (s' := (0, ((0 * 256 + t) * 256 + r) * 256 + q)) (by simp only [d4, d3]; rw [if_pos (by omega), if_pos ⟨d1, d2⟩]; rfl)]
      rw [iter_again (s' := (-1, (((0 * 256 + t) * 256 + r) * 256 + q) * 256 + p)) (by simp only [f4, f3]; rw [if_pos (by omega), if_pos ⟨f1, f2⟩]; rfl)]
      have ev : (((0 * 256 + t) * 256 + r) * 256 + q) * 256 + p = p + q * 256 + r * 65536 + t * 16777216 := by omega
      rw [ev]
      generalize p + q * 256 + r * 65536 + t * 16777216 = z at *
      apply iter_out
      by_cases hp : pOk s a n = true
      · rw [hp] at k27
        simp [↓den_start, ↓deb_op, ↓deb_ret, ↓deb_jump, ↓deb_itev, ↓deb_itel, ↓deb_loop, ↓deb_fail, ↓deb_nilcv, nilE_some, opE_some, debP_nil, debP_cons, pushL_nil, pushL_cons, retE_some, iteE_some, evB_nil, evB_v, evB_l, lkE_cons, consE_some, d_int, d_bool, d_str, d_nil, o_add, o_sub, o_mul, o_and, o_or, o_xor, o_andNot, o_quo, o_rem, o_shl, o_shr, o_eql, o_neq, o_lss, o_leq, o_gtr, o_geq, o_seql, o_sneq, o_slss, o_sleq, o_sgtr, o_sgeq, o_beql, o_bneq, o_scat, o_not, o_neg, o_com, o_conv, o_s2b, o_b2s, o_len, o_slen, o_inb, o_idx, o_sidx, o_sub3, o_sub2, o_ssub3, o_ssub2, o_app, o_apps, o_mk, mkE_some, consD_some, mkD_zero, mkD_int, mkD_str, mkD_sl, o_imin, o_imax, o_smin, o_smax, o_eqs, eqsE_some, eqC_nil, andE_some, eqC_int, eqC_bool, eqC_str, j1, outE_some, outE_none, outE_ite, agE_1, loopE_1, agE_2, loopE_2, agE_3, loopE_3, agE_4, loopE_4, agE_5, loopE_5, agE_6, loopE_6, agE_7, loopE_7, agE_8, loopE_8, agE_9, loopE_9, List.cons_append, List.nil_append, List.append_nil, split, List.take_succ_cons, List.take_zero, List.drop_succ_cons, List.drop_zero, k27, hp, h4', resP, e5]
      · have hp : pOk s a n = false := by simpa using hp
        rw [hp] at k27
        simp [↓den_start, ↓deb_op, ↓deb_ret, ↓deb_jump, ↓deb_itev, ↓deb_itel, ↓deb_loop, ↓deb_fail, ↓deb_nilcv, nilE_some, opE_some, debP_nil, debP_cons, pushL_nil, pushL_cons, retE_some, iteE_some, evB_nil, evB_v, evB_l, lkE_cons, consE_some, d_int, d_bool, d_str, d_nil, o_add, o_sub, o_mul, o_and, o_or, o_xor, o_andNot, o_quo, o_rem, o_shl, o_shr, o_eql, o_neq, o_lss, o_leq, o_gtr, o_geq, o_seql, o_sneq, o_slss, o_sleq, o_sgtr, o_sgeq, o_beql, o_bneq, o_scat, o_not, o_neg, o_com, o_conv, o_s2b, o_b2s, o_len, o_slen, o_inb, o_idx, o_sidx, o_sub3, o_sub2, o_ssub3, o_ssub2, o_app, o_apps, o_mk, mkE_some, consD_some, mkD_zero, mkD_int, mkD_str, mkD_sl, o_imin, o_imax, o_smin, o_smax, o_eqs, eqsE_some, eqC_nil, andE_some, eqC_int, eqC_bool, eqC_str, j1, outE_some, outE_none, outE_ite, agE_1, loopE_1, agE_2, loopE_2, agE_3, loopE_3, agE_4, loopE_4, agE_5, loopE_5, agE_6, loopE_6, agE_7, loopE_7, agE_8, loopE_8, agE_9, loopE_9, List.cons_append, List.nil_append, List.append_nil, split, List.take_succ_cons, List.take_zero, List.drop_succ_cons, List.drop_zero, k27, hp, resP]
theorem s91 {lc : List Ct} (hl0 : look (lc.map fun c => (c.sig.id, c)) 91 = some c91) : ∀ (x : List Int) (hb : ∀ c ∈ x, 0 ≤ c ∧ c < 256) (hl : x.length < 1000000000000), Does1 (Phi lc) 91 [⟨.sl (.int .u8), x⟩] (resP (getP x)) :=
  fun x hb hl => Does1.of hl0 (f91 x hb hl) (by unfold resP; split <;> rfl)

def Cl : Type := Bool × List Int × Int × Int × Int × Int × Nat
def getC : List Int → Option Cl
  | [] => none
  | c :: t => if 1 < c then none else if c = 1 then (match getP t with
      | some (s, a, n, m, k) => some (true, [], s, a, n, m, k + 1)
      | none => none)
    else if gvN t = 0 ∨ 32 < gvV t ∨ (t.length : Int) < gvN t + gvV t then none else some (false, (t.drop (gvN t)).take (gvV t).toNat, 0, 0, 0, 0, 1 + gvN t + (gvV t).toNat)
def resC (o : Option Cl) : List D := match o with
  | some (f, b, s, a, n, m, k) => [⟨.bool, f⟩, ⟨.sl (.int .u8), b⟩, ⟨.int .i64, s⟩, ⟨.int .i64, a⟩, ⟨.int .i64, n⟩, ⟨.int .u32, m⟩, ⟨.int .i64, k⟩]
  | none => [⟨.bool, false⟩, ⟨.sl (.int .u8), []⟩, ⟨.int .i64, 0⟩, ⟨.int .i64, 0⟩, ⟨.int .i64, 0⟩, ⟨.int .u32, 0⟩, ⟨.int .i64, 0⟩]
def resCe (o : Option Cl) : List D := match o with
  | some (f, b, s, a, n, m, k) => [⟨.bool, f⟩, ⟨.sl (.int .u8), b⟩, ⟨.int .i64, s⟩, ⟨.int .i64, a⟩, ⟨.int .i64, n⟩, ⟨.int .u32, m⟩, ⟨.int .i64, k⟩, ⟨.int .i64, 0⟩]
  | none => [⟨.bool, false⟩, ⟨.sl (.int .u8), []⟩, ⟨.int .i64, 0⟩, ⟨.int .i64, 0⟩, ⟨.int .i64, 0⟩, ⟨.int .u32, 0⟩, ⟨.int .i64, 0⟩, ⟨.int .i64, 2⟩]

theorem getP_k {x : List Int} {s a n m : Int} {k : Nat} (h : getP x = some (s, a, n, m, k)) : k ≤ x.length ∧ 4 ≤ k := by
  unfold getP at h
  split at h
  · split at h
    · rename_i hc
      simp only [Option.some.injEq, Prod.mk.injEq] at h
      omega
    · cases h
  · cases h

theorem f44 (x : List Int) (hb : ∀ c ∈ x, 0 ≤ c ∧ c < 256) (hl : x.length < 100000000000) : F44 [⟨.sl (.int .u8), x⟩] = some (resC (getC x)) := by
  have h91 := s91 (lc := [c91, c92]) rfl
  have h92 := s92 (lc := [c91, c92]) rfl
  simp only [F44, Fof, ir44]
  generalize Phi [c91, c92] = Φ at *
  cases x with
  | nil => simp [↓den_start, ↓deb_op, ↓deb_ret, ↓deb_jump, ↓deb_itev, ↓deb_itel, ↓deb_loop, ↓deb_fail, ↓deb_nilcv, nilE_some, opE_some, debP_nil, debP_cons, pushL_nil, pushL_cons, retE_some, iteE_some, evB_nil, evB_v, evB_l, lkE_cons, consE_some, d_int, d_bool, d_str, d_nil, o_add, o_sub, o_mul, o_and, o_or, o_xor, o_andNot, o_quo, o_rem, o_shl, o_shr, o_eql, o_neq, o_lss, o_leq, o_gtr, o_geq, o_seql, o_sneq, o_slss, o_sleq, o_sgtr, o_sgeq, o_beql, o_bneq, o_scat, o_not, o_neg, o_com, o_conv, o_s2b, o_b2s, o_len, o_slen, o_inb, o_idx, o_sidx, o_sub3, o_sub2, o_ssub3, o_ssub2, o_app, o_apps, o_mk, mkE_some, consD_some, mkD_zero, mkD_int, mkD_str, mkD_sl, o_imin, o_imax, o_smin, o_smax, o_eqs, eqsE_some, eqC_nil, andE_some, eqC_int, eqC_bool, eqC_str, j1, outE_some, outE_none, outE_ite, agE_1, loopE_1, agE_2, loopE_2, agE_3, loopE_3, agE_4, loopE_4, agE_5, loopE_5, agE_6, loopE_6, agE_7, loopE_7, agE_8, loopE_8, agE_9, loopE_9, List.cons_append, List.nil_append, List.append_nil, split, List.take_succ_cons, List.take_zero, List.drop_succ_cons, List.drop_zero, getC, resC]
  | cons c t =>
    have hbt : ∀ c ∈ t, 0 ≤ c ∧ c < 256 := fun d hd => hb d (by simp [hd])
    have hlt : t.length < 100000000000 := by simp at hl; omega
    have L0 : ¬ ((t.length : Int) + 1 = 0) := by omega
    have L1 : (1 : Int) ≤ (t.length : Int) + 1 := by omega
    by_cases c1 : 1 < c
    · simp [↓den_start, ↓deb_op, ↓deb_ret, ↓deb_jump, ↓deb_itev, ↓deb_itel, ↓deb_loop, ↓deb_fail, ↓deb_nilcv, nilE_some, opE_some, debP_nil, debP_cons, pushL_nil, pushL_cons, retE_some, iteE_some, evB_nil, evB_v, evB_l, lkE_cons, consE_some, d_int, d_bool, d_str, d_nil, o_add, o_sub, o_mul, o_and, o_or, o_xor, o_andNot, o_quo, o_rem, o_shl, o_shr, o_eql, o_neq, o_lss, o_leq, o_gtr, o_geq, o_seql, o_sneq, o_slss, o_sleq, o_sgtr, o_sgeq, o_beql, o_bneq, o_scat, o_not, o_neg, o_com, o_conv, o_s2b, o_b2s, o_len, o_slen, o_inb, o_idx, o_sidx, o_sub3, o_sub2, o_ssub3, o_ssub2, o_app, o_apps, o_mk, mkE_some, consD_some, mkD_zero, mkD_int, mkD_str, mkD_sl, o_imin, o_imax, o_smin, o_smax, o_eqs, eqsE_some, eqC_nil, andE_some, eqC_int, eqC_bool, eqC_str, j1, outE_some, outE_none, outE_ite, agE_1, loopE_1, agE_2, loopE_2, agE_3, loopE_3, agE_4, loopE_4, agE_5, loopE_5, agE_6, loopE_6, agE_7, loopE_7, agE_8, loopE_8, agE_9, loopE_9, List.cons_append, List.nil_append, List.append_nil, split, List.take_succ_cons, List.take_zero, List.drop_succ_cons, List.drop_zero, L0, L1, getC, resC, c1]
    by_cases c2 : c = 1
    · subst c2
      have k91 := h91 t hbt (by omega)
      cases hp : getP t with
      | none =>
        simp only [hp, resP] at k91
        simp [↓den_start, ↓deb_op, ↓deb_ret, ↓deb_jump, ↓deb_itev, ↓deb_itel, ↓deb_loop, ↓deb_fail, ↓deb_nilcv, nilE_some, opE_some, debP_nil, debP_cons, pushL_nil, pushL_cons, retE_some, iteE_some, evB_nil, evB_v, evB_l, lkE_cons, consE_some, d_int, d_bool, d_str, d_nil, o_add, o_sub, o_mul, o_and, o_or, o_xor, o_andNot, o_quo, o_rem, o_shl, o_shr, o_eql, o_neq, o_lss, o_leq, o_gtr, o_geq, o_seql, o_sneq, o_slss, o_sleq, o_sgtr, o_sgeq, o_beql, o_bneq, o_scat, o_not, o_neg, o_com, o_conv, o_s2b, o_b2s, o_len, o_slen, o_inb, o_idx, o_sidx, o_sub3, o_sub2, o_ssub3, o_ssub2, o_app, o_apps, o_mk, mkE_some, consD_some, mkD_zero, mkD_int, mkD_str, mkD_sl, o_imin, o_imax, o_smin, o_smax, o_eqs, eqsE_some, eqC_nil, andE_some, eqC_int, eqC_bool, eqC_str, j1, outE_some, outE_none, outE_ite, agE_1, loopE_1, agE_2, loopE_2, agE_3, loopE_3, agE_4, loopE_4, agE_5, loopE_5, agE_6, loopE_6, agE_7, loopE_7, agE_8, loopE_8, agE_9, loopE_9, List.cons_append, List.nil_append, List.append_nil, split, List.take_succ_cons, List.take_zero, List.drop_succ_cons, List.drop_zero, L0, L1, getC, resC, k91, hp]
      | some y =>
        obtain ⟨s, a, n, m, k⟩ := y
        obtain ⟨q1, q2⟩ := getP_k hp
        simp only [hp, resP] at k91
        have ek : IntKind.i64.wrap ((k : Int) + 1) = (k : Int) + 1 := wi64 _ (by omega) (by omega)
        have hk : ¬ k = 0 := by omega
        simp [↓den_start, ↓deb_op, ↓deb_ret, ↓deb_jump, ↓deb_itev, ↓deb_itel, ↓deb_loop, ↓deb_fail, ↓deb_nilcv, nilE_some, opE_some, debP_nil, debP_cons, pushL_nil, pushL_cons, retE_some, iteE_some, evB_nil, evB_v, evB_l, lkE_cons, consE_some, d_int, d_bool, d_str, d_nil, o_add, o_sub, o_mul, o_and, o_or, o_xor, o_andNot, o_quo, o_rem, o_shl, o_shr, o_eql, o_neq, o_lss, o_leq, o_gtr, o_geq, o_seql, o_sneq, o_slss, o_sleq, o_sgtr, o_sgeq, o_beql, o_bneq, o_scat, o_not, o_neg, o_com, o_conv, o_s2b, o_b2s, o_len, o_slen, o_inb, o_idx, o_sidx, o_sub3, o_sub2, o_ssub3, o_ssub2, o_app, o_apps, o_mk, mkE_some, consD_some, mkD_zero, mkD_int, mkD_str, mkD_sl, o_imin, o_imax, o_smin, o_smax, o_eqs, eqsE_some, eqC_nil, andE_some, eqC_int, eqC_bool, eqC_str, j1, outE_some, outE_none, outE_ite, agE_1, loopE_1, agE_2, loopE_2, agE_3, loopE_3, agE_4, loopE_4, agE_5, loopE_5, agE_6, loopE_6, agE_7, loopE_7, agE_8, loopE_8, agE_9, loopE_9, List.cons_append, List.nil_append, List.append_nil, split, List.take_succ_cons, List.take_zero, List.drop_succ_cons, List.drop_zero, L0, L1, getC, resC, k91, hp, ek, hk]
    · have k92 := h92 t hbt (by omega)
      have hr := gv_range hbt
      simp only [getC, if_neg c1, if_neg c2]
      generalize gvN t = g at *
      generalize gvV t = u at *
      by_cases hz : g = 0
      · simp [↓den_start, ↓deb_op, ↓deb_ret, ↓deb_jump, ↓deb_itev, ↓deb_itel, ↓deb_loop, ↓deb_fail, ↓deb_nilcv, nilE_some, opE_some, debP_nil, debP_cons, pushL_nil, pushL_cons, retE_some, iteE_some, evB_nil, evB_v, evB_l, lkE_cons, consE_some, d_int, d_bool, d_str, d_nil, o_add, o_sub, o_mul, o_and, o_or, o_xor, o_andNot, o_quo, o_rem, o_shl, o_shr, o_eql, o_neq, o_lss, o_leq, o_gtr, o_geq, o_seql, o_sneq, o_slss, o_sleq, o_sgtr, o_sgeq, o_beql, o_bneq, o_scat, o_not, o_neg, o_com, o_conv, o_s2b, o_b2s, o_len, o_slen, o_inb, o_idx, o_sidx, o_sub3, o_sub2, o_ssub3, o_ssub2, o_app, o_apps, o_mk, mkE_some, consD_some, mkD_zero, mkD_int, mkD_str, mkD_sl, o_imin, o_imax, o_smin, o_smax, o_eqs, eqsE_some, eqC_nil, andE_some, eqC_int, eqC_bool, eqC_str, j1, outE_some, outE_none, outE_ite, agE_1, loopE_1, agE_2, loopE_2, agE_3, loopE_3, agE_4, loopE_4, agE_5, loopE_5, agE_6, loopE_6, agE_7, loopE_7, agE_8, loopE_8, agE_9, loopE_9, List.cons_append, List.nil_append, List.append_nil, split, List.take_succ_cons, List.take_zero, List.drop_succ_cons, List.drop_zero, L0, L1, resC, k92, c1, c2, hz]
      by_cases h32 : 32 < u
      · simp [↓den_start, ↓deb_op, ↓deb_ret, ↓deb_jump, ↓deb_itev, ↓deb_itel, ↓deb_loop, ↓deb_fail, ↓deb_nilcv, nilE_some, opE_some, debP_nil, debP_cons, pushL_nil, pushL_cons, retE_some, iteE_some, evB_nil, evB_v, evB_l, lkE_cons, consE_some, d_int, d_bool, d_str, d_nil, o_add, o_sub, o_mul, o_and, o_or, o_xor, o_andNot, o_quo, o_rem, o_shl, o_shr, o_eql, o_neq, o_lss, o_leq, o_gtr, o_geq, o_seql, o_sneq, o_slss, o_sleq, o_sgtr, o_sgeq, o_beql, o_bneq, o_scat, o_not, o_neg, o_com, o_conv, o_s2b, o_b2s, o_len, o_slen, o_inb, o_idx, o_sidx, o_sub3, o_sub2, o_ssub3, o_ssub2, o_app, o_apps, o_mk, mkE_some, consD_some, mkD_zero, mkD_int, mkD_str, mkD_sl, o_imin, o_imax, o_smin, o_smax, o_eqs, eqsE_some, eqC_nil, andE_some, eqC_int, eqC_bool, eqC_str, j1, outE_some, outE_none, outE_ite, agE_1, loopE_1, agE_2, loopE_2, agE_3, loopE_3, agE_4, loopE_4, agE_5, loopE_5, agE_6, loopE_6, agE_7, loopE_7, agE_8, loopE_8, agE_9, loopE_9, List.cons_append, List.nil_append, List.append_nil, split, List.take_succ_cons, List.take_zero, List.drop_succ_cons, List.drop_zero, L0, L1, resC, k92, c1, c2, hz, h32]
      have w1 : IntKind.i64.wrap (1 + (g : Int)) = 1 + g := wi64 _ (by omega) (by omega)
      have w2 : IntKind.i64.wrap (u) = u := wi64 _ (by omega) (by omega)
      have w3 : IntKind.i64.wrap (1 + (g : Int) + u) = 1 + g + u := wi64 _ (by omega) (by omega)
      by_cases hlen : (t.length : Int) < g + u
      · have hlen' : (t.length : Int) + 1 < 1 + g + u := by omega
        simp [↓den_start, ↓deb_op, ↓deb_ret, ↓deb_jump, ↓deb_itev, ↓deb_itel, ↓deb_loop, ↓deb_fail, ↓deb_nilcv, nilE_some, opE_some, debP_nil, debP_cons, pushL_nil, pushL_cons, retE_some, iteE_some, evB_nil, evB_v, evB_l, lkE_cons, consE_some, d_int, d_bool, d_str, d_nil, o_add, o_sub, o_mul, o_and, o_or, o_xor, o_andNot, o_quo, o_rem, o_shl, o_shr, o_eql, o_neq, o_lss, o_leq, o_gtr, o_geq, o_seql, o_sneq, o_slss, o_sleq, o_sgtr, o_sgeq, o_beql, o_bneq, o_scat, o_not, o_neg, o_com, o_conv, o_s2b, o_b2s, o_len, o_slen, o_inb, o_idx, o_sidx, o_sub3, o_sub2, o_ssub3, o_ssub2, o_app, o_apps, o_mk, mkE_some, consD_some, mkD_zero, mkD_int, mkD_str, mkD_sl, o_imin, o_imax, o_smin, o_smax, o_eqs, eqsE_some, eqC_nil, andE_some, eqC_int, eqC_bool, eqC_str, j1, outE_some, outE_none, outE_ite, agE_1, loopE_1, agE_2, loopE_2, agE_3, loopE_3, agE_4, loopE_4, agE_5, loopE_5, agE_6, loopE_6, agE_7, loopE_7, agE_8, loopE_8, agE_9, loopE_9, List.cons_append, List.nil_append, List.append_nil, split, List.take_succ_cons, List.take_zero, List.drop_succ_cons, List.drop_zero, L0, L1, resC, k92, c1, c2, hz, h32, w1, w2, w3, hlen, hlen']
      · have hlen' : ¬ (t.length : Int) + 1 < 1 + g + u := by omega
        have b1 : (0 : Int) ≤ 1 + g ∧ (1 + g : Int) ≤ 1 + g + u ∧ 1 + g + u ≤ (t.length : Int) + 1 := by omega
        simp [↓den_start, ↓deb_op, ↓deb_ret, ↓deb_jump, ↓deb_itev, ↓deb_itel, ↓deb_loop, ↓deb_fail, ↓deb_nilcv, nilE_some, opE_some, debP_nil, debP_cons, pushL_nil, pushL_cons, retE_some, iteE_some, evB_nil, evB_v, evB_l, lkE_cons, consE_some, d_int, d_bool, d_str, d_nil, o_add, o_sub, o_mul, o_and, o_or, o_xor, o_andNot, o_quo, o_rem, o_shl, o_shr, o_eql, o_neq, o_lss, o_leq, o_gtr, o_geq, o_seql, o_sneq, o_slss, o_sleq, o_sgtr, o_sgeq, o_beql, o_bneq, o_scat, o_not, o_neg, o_com, o_conv, o_s2b, o_b2s, o_len, o_slen, o_inb, o_idx, o_sidx, o_sub3, o_sub2, o_ssub3, o_ssub2, o_app, o_apps, o_mk, mkE_some, consD_some, mkD_zero, mkD_int, mkD_str, mkD_sl, o_imin, o_imax, o_smin, o_smax, o_eqs, eqsE_some, eqC_nil, andE_some, eqC_int, eqC_bool, eqC_str, j1, outE_some, outE_none, outE_ite, agE_1, loopE_1, agE_2, loopE_2, agE_3, loopE_3, agE_4, loopE_4, agE_5, loopE_5, agE_6, loopE_6, agE_7, loopE_7, agE_8, loopE_8, agE_9, loopE_9, List.cons_append, List.nil_append, List.append_nil, split, List.take_succ_cons, List.take_zero, List.drop_succ_cons, List.drop_zero, L0, L1, resC, k92, c1, c2, hz, h32, w1, w2, w3, hlen, hlen', b1]
        refine ⟨by simp only [BIG]; omega, ?_, by omega⟩
        rw [show (1 + (g : Int)).toNat = g + 1 by omega, show (1 + (g : Int) + u).toNat = g + u.toNat + 1 by omega, List.take_succ_cons, List.drop_succ_cons, List.drop_take]
        congr 1
        omega
theorem s44 {lc : List Ct} (hl0 : look (lc.map fun c => (c.sig.id, c)) 44 = some c44) : ∀ (x : List Int) (hb : ∀ c ∈ x, 0 ≤ c ∧ c < 256) (hl : x.length < 100000000000), Does1 (Phi lc) 44 [⟨.sl (.int .u8), x⟩] (resC (getC x)) :=
  fun x hb hl => Does1.of hl0 (f44 x hb hl) (by unfold resC; split <;> rfl)
end Go.Proofs.Ytdjknicjnaiomaa.Sx

/- The program's reading of a cell; the laws CellGets and CellReads. -/
namespace Go.Proofs.Ytdjknicjnaiomaa.Sx

theorem f43 (x : List Int) (hb : ∀ c ∈ x, 0 ≤ c ∧ c < 256) (hl : x.length < 100000000000) : F43 [⟨.sl (.int .u8), x⟩] = some (resCe (getC x)) := by
  have h89 := s89 (lc := [c89, c90, c72]) rfl
  have h90 := s90 (lc := [c89, c90, c72]) rfl
  have h72 := s72 (lc := [c89, c90, c72]) rfl
  simp only [F43, Fof, ir43]
  generalize Phi [c89, c90, c72] = Φ at *
  cases x with
  | nil => simp [↓den_start, ↓deb_op, ↓deb_ret, ↓deb_jump, ↓deb_itev, ↓deb_itel, ↓deb_loop, ↓deb_fail, ↓deb_nilcv, nilE_some, opE_some, debP_nil, debP_cons, pushL_nil, pushL_cons, retE_some, iteE_some, evB_nil, evB_v, evB_l, lkE_cons, consE_some, d_int, d_bool, d_str, d_nil, o_add, o_sub, o_mul, o_and, o_or, o_xor, o_andNot, o_quo, o_rem, o_shl, o_shr, o_eql, o_neq, o_lss, o_leq, o_gtr, o_geq, o_seql, o_sneq, o_slss, o_sleq, o_sgtr, o_sgeq, o_beql, o_bneq, o_scat, o_not, o_neg, o_com, o_conv, o_s2b, o_b2s, o_len, o_slen, o_inb, o_idx, o_sidx, o_sub3, o_sub2, o_ssub3, o_ssub2, o_app, o_apps, o_mk, mkE_some, consD_some, mkD_zero, mkD_int, mkD_str, mkD_sl, o_imin, o_imax, o_smin, o_smax, o_eqs, eqsE_some, eqC_nil, andE_some, eqC_int, eqC_bool, eqC_str, j1, outE_some, outE_none, outE_ite, agE_1, loopE_1, agE_2, loopE_2, agE_3, loopE_3, agE_4, loopE_4, agE_5, loopE_5, agE_6, loopE_6, agE_7, loopE_7, agE_8, loopE_8, agE_9, loopE_9, List.cons_append, List.nil_append, List.append_nil, split, List.take_succ_cons, List.take_zero, List.drop_succ_cons, List.drop_zero, getC, resCe]
  | cons c t =>
    have hbt : ∀ c ∈ t, 0 ≤ c ∧ c < 256 := fun d hd => hb d (by simp [hd])
    have hlt : t.length < 100000000000 := by simp at hl; omega
    have L0 : ¬ ((t.length : Int) + 1 = 0) := by omega
    have L1 : (1 : Int) ≤ (t.length : Int) + 1 := by omega
    by_cases c1 : 1 < c
    · simp [↓den_start, ↓deb_op, ↓deb_ret, ↓deb_jump, ↓deb_itev, ↓deb_itel, ↓deb_loop, ↓deb_fail, ↓deb_nilcv, nilE_some, opE_some, debP_nil, debP_cons, pushL_nil, pushL_cons, retE_some, iteE_some, evB_nil, evB_v, evB_l, lkE_cons, consE_some, d_int, d_bool, d_str, d_nil, o_add, o_sub, o_mul, o_and, o_or, o_xor, o_andNot, o_quo, o_rem, o_shl, o_shr, o_eql, o_neq, o_lss, o_leq, o_gtr, o_geq, o_seql, o_sneq, o_slss, o_sleq, o_sgtr, o_sgeq, o_beql, o_bneq, o_scat, o_not, o_neg, o_com, o_conv, o_s2b, o_b2s, o_len, o_slen, o_inb, o_idx, o_sidx, o_sub3, o_sub2, o_ssub3, o_ssub2, o_app, o_apps, o_mk, mkE_some, consD_some, mkD_zero, mkD_int, mkD_str, mkD_sl, o_imin, o_imax, o_smin, o_smax, o_eqs, eqsE_some, eqC_nil, andE_some, eqC_int, eqC_bool, eqC_str, j1, outE_some, outE_none, outE_ite, agE_1, loopE_1, agE_2, loopE_2, agE_3, loopE_3, agE_4, loopE_4, agE_5, loopE_5, agE_6, loopE_6, agE_7, loopE_7, agE_8, loopE_8, agE_9, loopE_9, List.cons_append, List.nil_append, List.append_nil, split, List.take_succ_cons, List.take_zero, List.drop_succ_cons, List.drop_zero, L0, L1, getC, resCe, c1]
    by_cases c2 : c = 1
    · subst c2
      have k89 := h89 t hbt (by omega)
      cases hp : getP t with
      | none =>
        simp only [hp, resPe] at k89
        simp [↓den_start, ↓deb_op, ↓deb_ret, ↓deb_jump, ↓deb_itev, ↓deb_itel, ↓deb_loop, ↓deb_fail, ↓deb_nilcv, nilE_some, opE_some, debP_nil, debP_cons, pushL_nil, pushL_cons, retE_some, iteE_some, evB_nil, evB_v, evB_l, lkE_cons, consE_some, d_int, d_bool, d_str, d_nil, o_add, o_sub, o_mul, o_and, o_or, o_xor, o_andNot, o_quo, o_rem, o_shl, o_shr, o_eql, o_neq, o_lss, o_leq, o_gtr, o_geq, o_seql, o_sneq, o_slss, o_sleq, o_sgtr, o_sgeq, o_beql, o_bneq, o_scat, o_not, o_neg, o_com, o_conv, o_s2b, o_b2s, o_len, o_slen, o_inb, o_idx, o_sidx, o_sub3, o_sub2, o_ssub3, o_ssub2, o_app, o_apps, o_mk, mkE_some, consD_some, mkD_zero, mkD_int, mkD_str, mkD_sl, o_imin, o_imax, o_smin, o_smax, o_eqs, eqsE_some, eqC_nil, andE_some, eqC_int, eqC_bool, eqC_str, j1, outE_some, outE_none, outE_ite, agE_1, loopE_1, agE_2, loopE_2, agE_3, loopE_3, agE_4, loopE_4, agE_5, loopE_5, agE_6, loopE_6, agE_7, loopE_7, agE_8, loopE_8, agE_9, loopE_9, List.cons_append, List.nil_append, List.append_nil, split, List.take_succ_cons, List.take_zero, List.drop_succ_cons, List.drop_zero, L0, L1, getC, resCe, k89, hp]
      | some y =>
        obtain ⟨s, a, n, m, k⟩ := y
        obtain ⟨q1, q2⟩ := getP_k hp
        simp only [hp, resPe] at k89
        have ek : IntKind.i64.wrap ((k : Int) + 1) = (k : Int) + 1 := wi64 _ (by omega) (by omega)
        simp [↓den_start, ↓deb_op, ↓deb_ret, ↓deb_jump, ↓deb_itev, ↓deb_itel, ↓deb_loop, ↓deb_fail, ↓deb_nilcv, nilE_some, opE_some, debP_nil, debP_cons, pushL_nil, pushL_cons, retE_some, iteE_some, evB_nil, evB_v, evB_l, lkE_cons, consE_some, d_int, d_bool, d_str, d_nil, o_add, o_sub, o_mul, o_and, o_or, o_xor, o_andNot, o_quo, o_rem, o_shl, o_shr, o_eql, o_neq, o_lss, o_leq, o_gtr, o_geq, o_seql, o_sneq, o_slss, o_sleq, o_sgtr, o_sgeq, o_beql, o_bneq, o_scat, o_not, o_neg, o_com, o_conv, o_s2b, o_b2s, o_len, o_slen, o_inb, o_idx, o_sidx, o_sub3, o_sub2, o_ssub3, o_ssub2, o_app, o_apps, o_mk, mkE_some, consD_some, mkD_zero, mkD_int, mkD_str, mkD_sl, o_imin, o_imax, o_smin, o_smax, o_eqs, eqsE_some, eqC_nil, andE_some, eqC_int, eqC_bool, eqC_str, j1, outE_some, outE_none, outE_ite, agE_1, loopE_1, agE_2, loopE_2, agE_3, loopE_3, agE_4, loopE_4, agE_5, loopE_5, agE_6, loopE_6, agE_7, loopE_7, agE_8, loopE_8, agE_9, loopE_9, List.cons_append, List.nil_append, List.append_nil, split, List.take_succ_cons, List.take_zero, List.drop_succ_cons, List.drop_zero, L0, L1, getC, resCe, k89, hp, ek]
    · have k90 := h90 t hbt
      have hr := gv_range hbt
      simp only [getC, if_neg c1, if_neg c2]
      generalize gvN t = g at *
      generalize gvV t = u at *
      by_cases hz : g = 0
      · rw [if_pos hz] at k90
        simp [↓den_start, ↓deb_op, ↓deb_ret, ↓deb_jump, ↓deb_itev, ↓deb_itel, ↓deb_loop, ↓deb_fail, ↓deb_nilcv, nilE_some, opE_some, debP_nil, debP_cons, pushL_nil, pushL_cons, retE_some, iteE_some, evB_nil, evB_v, evB_l, lkE_cons, consE_some, d_int, d_bool, d_str, d_nil, o_add, o_sub, o_mul, o_and, o_or, o_xor, o_andNot, o_quo, o_rem, o_shl, o_shr, o_eql, o_neq, o_lss, o_leq, o_gtr, o_geq, o_seql, o_sneq, o_slss, o_sleq, o_sgtr, o_sgeq, o_beql, o_bneq, o_scat, o_not, o_neg, o_com, o_conv, o_s2b, o_b2s, o_len, o_slen, o_inb, o_idx, o_sidx, o_sub3, o_sub2, o_ssub3, o_ssub2, o_app, o_apps, o_mk, mkE_some, consD_some, mkD_zero, mkD_int, mkD_str, mkD_sl, o_imin, o_imax, o_smin, o_smax, o_eqs, eqsE_some, eqC_nil, andE_some, eqC_int, eqC_bool, eqC_str, j1, outE_some, outE_none, outE_ite, agE_1, loopE_1, agE_2, loopE_2, agE_3, loopE_3, agE_4, loopE_4, agE_5, loopE_5, agE_6, loopE_6, agE_7, loopE_7, agE_8, loopE_8, agE_9, loopE_9, List.cons_append, List.nil_append, List.append_nil, split, List.take_succ_cons, List.take_zero, List.drop_succ_cons, List.drop_zero, L0, L1, resCe, k90, c1, c2, hz]
      rw [if_neg hz] at k90
      by_cases h32 : 32 < u
      · simp [↓den_start, ↓deb_op, ↓deb_ret, ↓deb_jump, ↓deb_itev, ↓deb_itel, ↓deb_loop, ↓deb_fail, ↓deb_nilcv, nilE_some, opE_some, debP_nil, debP_cons, pushL_nil, pushL_cons, retE_some, iteE_some, evB_nil, evB_v, evB_l, lkE_cons, consE_some, d_int, d_bool, d_str, d_nil, o_add, o_sub, o_mul, o_and, o_or, o_xor, o_andNot, o_quo, o_rem, o_shl, o_shr, o_eql, o_neq, o_lss, o_leq, o_gtr, o_geq, o_seql, o_sneq, o_slss, o_sleq, o_sgtr, o_sgeq, o_beql, o_bneq, o_scat, o_not, o_neg, o_com, o_conv, o_s2b, o_b2s, o_len, o_slen, o_inb, o_idx, o_sidx, o_sub3, o_sub2, o_ssub3, o_ssub2, o_app, o_apps, o_mk, mkE_some, consD_some, mkD_zero, mkD_int, mkD_str, mkD_sl, o_imin, o_imax, o_smin, o_smax, o_eqs, eqsE_some, eqC_nil, andE_some, eqC_int, eqC_bool, eqC_str, j1, outE_some, outE_none, outE_ite, agE_1, loopE_1, agE_2, loopE_2, agE_3, loopE_3, agE_4, loopE_4, agE_5, loopE_5, agE_6, loopE_6, agE_7, loopE_7, agE_8, loopE_8, agE_9, loopE_9, List.cons_append, List.nil_append, List.append_nil, split, List.take_succ_cons, List.take_zero, List.drop_succ_cons, List.drop_zero, L0, L1, resCe, k90, c1, c2, hz, h32]
      have w0 : IntKind.i64.wrap (t.length : Int) = t.length := wi64 _ (by omega) (by omega)
      have w4 : IntKind.i64.wrap ((t.length : Int) - g) = t.length - g := wi64 _ (by omega) (by omega)
      have w1 : IntKind.i64.wrap (1 + (g : Int)) = 1 + g := wi64 _ (by omega) (by omega)
      have w2 : IntKind.i64.wrap u = u := wi64 _ (by omega) (by omega)
      have w3 : IntKind.i64.wrap (1 + (g : Int) + u) = 1 + g + u := wi64 _ (by omega) (by omega)
      by_cases hlen : (t.length : Int) < g + u
      · have hlen' : (t.length : Int) - g < u := by omega
        simp [↓den_start, ↓deb_op, ↓deb_ret, ↓deb_jump, ↓deb_itev, ↓deb_itel, ↓deb_loop, ↓deb_fail, ↓deb_nilcv, nilE_some, opE_some, debP_nil, debP_cons, pushL_nil, pushL_cons, retE_some, iteE_some, evB_nil, evB_v, evB_l, lkE_cons, consE_some, d_int, d_bool, d_str, d_nil, o_add, o_sub, o_mul, o_and, o_or, o_xor, o_andNot, o_quo, o_rem, o_shl, o_shr, o_eql, o_neq, o_lss, o_leq, o_gtr, o_geq, o_seql, o_sneq, o_slss, o_sleq, o_sgtr, o_sgeq, o_beql, o_bneq, o_scat, o_not, o_neg, o_com, o_conv, o_s2b, o_b2s, o_len, o_slen, o_inb, o_idx, o_sidx, o_sub3, o_sub2, o_ssub3, o_ssub2, o_app, o_apps, o_mk, mkE_some, consD_some, mkD_zero, mkD_int, mkD_str, mkD_sl, o_imin, o_imax, o_smin, o_smax, o_eqs, eqsE_some, eqC_nil, andE_some, eqC_int, eqC_bool, eqC_str, j1, outE_some, outE_none, outE_ite, agE_1, loopE_1, agE_2, loopE_2, agE_3, loopE_3, agE_4, loopE_4, agE_5, loopE_5, agE_6, loopE_6, agE_7, loopE_7, agE_8, loopE_8, agE_9, loopE_9, List.cons_append, List.nil_append, List.append_nil, split, List.take_succ_cons, List.take_zero, List.drop_succ_cons, List.drop_zero, L0, L1, resCe, k90, c1, c2, hz, h32, w0, w1, w2, w3, w4, hlen, hlen']
      · have hlen' : ¬ (t.length : Int) - g < u := by omega
        have b1 : (0 : Int) ≤ 1 + g ∧ (1 + g : Int) ≤ 1 + g + u ∧ 1 + g + u ≤ (t.length : Int) + 1 := by omega
        have hlist : ((c :: t).take (1 + (g : Int) + u).toNat).drop (1 + (g : Int)).toNat = (t.drop g).take u.toNat := by
          rw [show (1 + (g : Int)).toNat = g + 1 by omega, show (1 + (g : Int) + u).toNat = g + u.toNat + 1 by omega, List.take_succ_cons, List.drop_succ_cons, List.drop_take]
          congr 1
          omega
        have k72 := h72 ((t.drop g).take u.toNat) (by rw [List.length_take]; omega)
        simp [↓den_start, ↓deb_op, ↓deb_ret, ↓deb_jump, ↓deb_itev, ↓deb_itel, ↓deb_loop, ↓deb_fail, ↓deb_nilcv, nilE_some, opE_some, debP_nil, debP_cons, pushL_nil, pushL_cons, retE_some, iteE_some, evB_nil, evB_v, evB_l, lkE_cons, consE_some, d_int, d_bool, d_str, d_nil, o_add, o_sub, o_mul, o_and, o_or, o_xor, o_andNot, o_quo, o_rem, o_shl, o_shr, o_eql, o_neq, o_lss, o_leq, o_gtr, o_geq, o_seql, o_sneq, o_slss, o_sleq, o_sgtr, o_sgeq, o_beql, o_bneq, o_scat, o_not, o_neg, o_com, o_conv, o_s2b, o_b2s, o_len, o_slen, o_inb, o_idx, o_sidx, o_sub3, o_sub2, o_ssub3, o_ssub2, o_app, o_apps, o_mk, mkE_some, consD_some, mkD_zero, mkD_int, mkD_str, mkD_sl, o_imin, o_imax, o_smin, o_smax, o_eqs, eqsE_some, eqC_nil, andE_some, eqC_int, eqC_bool, eqC_str, j1, outE_some, outE_none, outE_ite, agE_1, loopE_1, agE_2, loopE_2, agE_3, loopE_3, agE_4, loopE_4, agE_5, loopE_5, agE_6, loopE_6, agE_7, loopE_7, agE_8, loopE_8, agE_9, loopE_9, List.cons_append, List.nil_append, List.append_nil, split, List.take_succ_cons, List.take_zero, List.drop_succ_cons, List.drop_zero, L0, L1, resCe, k90, c1, c2, hz, h32, w0, w1, w2, w3, w4, hlen, hlen', b1, hlist, k72]
        exact (by omega : u = max u 0)
theorem s43 {lc : List Ct} (hl0 : look (lc.map fun c => (c.sig.id, c)) 43 = some c43) : ∀ (x : List Int) (hb : ∀ c ∈ x, 0 ≤ c ∧ c < 256) (hl : x.length < 100000000000), Does1 (Phi lc) 43 [⟨.sl (.int .u8), x⟩] (resCe (getC x)) :=
  fun x hb hl => Does1.of hl0 (f43 x hb hl) (by unfold resCe; split <;> rfl)

theorem getC_k {x : List Int} {f : Bool} {b : List Int} {s a n m : Int} {k : Nat} (h : getC x = some (f, b, s, a, n, m, k)) : 1 ≤ k ∧ b.length ≤ x.length := by
  unfold getC at h
  split at h
  · cases h
  · split at h
    · cases h
    · split at h
      · split at h
        · simp only [Option.some.injEq, Cl, Prod.mk.injEq] at h
          obtain ⟨_, rfl, _, _, _, _, rfl⟩ := h
          simp
        · cases h
      · split at h
        · cases h
        · simp only [Option.some.injEq, Cl, Prod.mk.injEq] at h
          obtain ⟨_, rfl, _, _, _, _, rfl⟩ := h
          simp only [List.length_take, List.length_drop, List.length_cons]
          omega

theorem f7 (x : List Int) (hb : ∀ c ∈ x, 0 ≤ c ∧ c < 256) : F7 [⟨.sl (.int .u8), x⟩] = some [⟨.bool, true⟩] := by
  have h15 := s15 (lc := [c15, c43, c44, c18]) rfl
  have h43 := s43 (lc := [c15, c43, c44, c18]) rfl
  have h44 := s44 (lc := [c15, c43, c44, c18]) rfl
  have h18 := s18 (lc := [c15, c43, c44, c18]) rfl
  simp only [F7, Fof, ir7]
  generalize Phi [c15, c43, c44, c18] = Φ at *
  have h15 := h15 ()
  by_cases g : (1000 : Int) < x.length
  · simp [↓den_start, ↓deb_op, ↓deb_ret, ↓deb_jump, ↓deb_itev, ↓deb_itel, ↓deb_loop, ↓deb_fail, ↓deb_nilcv, nilE_some, opE_some, debP_nil, debP_cons, pushL_nil, pushL_cons, retE_some, iteE_some, evB_nil, evB_v, evB_l, lkE_cons, consE_some, d_int, d_bool, d_str, d_nil, o_add, o_sub, o_mul, o_and, o_or, o_xor, o_andNot, o_quo, o_rem, o_shl, o_shr, o_eql, o_neq, o_lss, o_leq, o_gtr, o_geq, o_seql, o_sneq, o_slss, o_sleq, o_sgtr, o_sgeq, o_beql, o_bneq, o_scat, o_not, o_neg, o_com, o_conv, o_s2b, o_b2s, o_len, o_slen, o_inb, o_idx, o_sidx, o_sub3, o_sub2, o_ssub3, o_ssub2, o_app, o_apps, o_mk, mkE_some, consD_some, mkD_zero, mkD_int, mkD_str, mkD_sl, o_imin, o_imax, o_smin, o_smax, o_eqs, eqsE_some, eqC_nil, andE_some, eqC_int, eqC_bool, eqC_str, j1, outE_some, outE_none, outE_ite, agE_1, loopE_1, agE_2, loopE_2, agE_3, loopE_3, agE_4, loopE_4, agE_5, loopE_5, agE_6, loopE_6, agE_7, loopE_7, agE_8, loopE_8, agE_9, loopE_9, List.cons_append, List.nil_append, List.append_nil, split, List.take_succ_cons, List.take_zero, List.drop_succ_cons, List.drop_zero, h15, g]
  have hbig : x.length ≤ BIG := by simp only [BIG]; omega
  have k43 := h43 x hb (by omega)
  have k44 := h44 x hb (by omega)
  cases hc : getC x with
  | none =>
    simp only [hc, resC, resCe] at k43 k44
    have k18 := h18 false false [] [] 0 0 0 0 0 0 0 0 (by simp)
    simp [↓den_start, ↓deb_op, ↓deb_ret, ↓deb_jump, ↓deb_itev, ↓deb_itel, ↓deb_loop, ↓deb_fail, ↓deb_nilcv, nilE_some, opE_some, debP_nil, debP_cons, pushL_nil, pushL_cons, retE_some, iteE_some, evB_nil, evB_v, evB_l, lkE_cons, consE_some, d_int, d_bool, d_str, d_nil, o_add, o_sub, o_mul, o_and, o_or, o_xor, o_andNot, o_quo, o_rem, o_shl, o_shr, o_eql, o_neq, o_lss, o_leq, o_gtr, o_geq, o_seql, o_sneq, o_slss, o_sleq, o_sgtr, o_sgeq, o_beql, o_bneq, o_scat, o_not, o_neg, o_com, o_conv, o_s2b, o_b2s, o_len, o_slen, o_inb, o_idx, o_sidx, o_sub3, o_sub2, o_ssub3, o_ssub2, o_app, o_apps, o_mk, mkE_some, consD_some, mkD_zero, mkD_int, mkD_str, mkD_sl, o_imin, o_imax, o_smin, o_smax, o_eqs, eqsE_some, eqC_nil, andE_some, eqC_int, eqC_bool, eqC_str, j1, outE_some, outE_none, outE_ite, agE_1, loopE_1, agE_2, loopE_2, agE_3, loopE_3, agE_4, loopE_4, agE_5, loopE_5, agE_6, loopE_6, agE_7, loopE_7, agE_8, loopE_8, agE_9, loopE_9, List.cons_append, List.nil_append, List.append_nil, split, List.take_succ_cons, List.take_zero, List.drop_succ_cons, List.drop_zero, h15, g, hbig, k43, k44, k18]
  | some y =>
    obtain ⟨f, b, s, a, n, m, k⟩ := y
    obtain ⟨q1, q2⟩ := getC_k hc
    simp only [hc, resC, resCe] at k43 k44
    have k18 := h18 f f b b s a n m s a n m (by omega)
    have hk : 0 < k := q1
    have hk' : ¬ k = 0 := by omega
    simp [↓den_start, ↓deb_op, ↓deb_ret, ↓deb_jump, ↓deb_itev, ↓deb_itel, ↓deb_loop, ↓deb_fail, ↓deb_nilcv, nilE_some, opE_some, debP_nil, debP_cons, pushL_nil, pushL_cons, retE_some, iteE_some, evB_nil, evB_v, evB_l, lkE_cons, consE_some, d_int, d_bool, d_str, d_nil, o_add, o_sub, o_mul, o_and, o_or, o_xor, o_andNot, o_quo, o_rem, o_shl, o_shr, o_eql, o_neq, o_lss, o_leq, o_gtr, o_geq, o_seql, o_sneq, o_slss, o_sleq, o_sgtr, o_sgeq, o_beql, o_bneq, o_scat, o_not, o_neg, o_com, o_conv, o_s2b, o_b2s, o_len, o_slen, o_inb, o_idx, o_sidx, o_sub3, o_sub2, o_ssub3, o_ssub2, o_app, o_apps, o_mk, mkE_some, consD_some, mkD_zero, mkD_int, mkD_str, mkD_sl, o_imin, o_imax, o_smin, o_smax, o_eqs, eqsE_some, eqC_nil, andE_some, eqC_int, eqC_bool, eqC_str, j1, outE_some, outE_none, outE_ite, agE_1, loopE_1, agE_2, loopE_2, agE_3, loopE_3, agE_4, loopE_4, agE_5, loopE_5, agE_6, loopE_6, agE_7, loopE_7, agE_8, loopE_8, agE_9, loopE_9, List.cons_append, List.nil_append, List.append_nil, split, List.take_succ_cons, List.take_zero, List.drop_succ_cons, List.drop_zero, h15, g, hbig, k43, k44, k18, hk, hk']
theorem s7 {lc : List Ct} (hl0 : look (lc.map fun c => (c.sig.id, c)) 7 = some c7) : ∀ (x : List Int) (hb : ∀ c ∈ x, 0 ≤ c ∧ c < 256), Does1 (Phi lc) 7 [⟨.sl (.int .u8), x⟩] [⟨.bool, true⟩] :=
  fun x hb => Does1.of hl0 (f7 x hb) rfl

theorem gv_one (v : Nat) (r : List Int) (h : v < 18446744073709551616) : gvV (one v ++ r) = v ∧ gvN (one v ++ r) = (one v).length := gv_some (getv_one v r h)

theorem all3 (s a n : Int) (r : List Int) (hs : 0 ≤ s ∧ s < 18446744073709551616) (ha : 0 ≤ a ∧ a < 18446744073709551616) (hn : 0 ≤ n ∧ n < 18446744073709551616) :
    allL 3 (putL [s, a, n] ++ r) = some [s, a, n] ∧ allA 3 (putL [s, a, n] ++ r) = (putL [s, a, n]).length := by
  have e : putL [s, a, n] ++ r = one s.toNat ++ (one a.toNat ++ (one n.toNat ++ r)) := by simp [putL]
  have p1 := one_pos s.toNat; have p2 := one_pos a.toNat; have p3 := one_pos n.toNat
  obtain ⟨v1, n1⟩ := gv_one s.toNat (one a.toNat ++ (one n.toNat ++ r)) (by omega)
  obtain ⟨v2, n2⟩ := gv_one a.toNat (one n.toNat ++ r) (by omega)
  obtain ⟨v3, n3⟩ := gv_one n.toNat r (by omega)
  rw [e]
  simp only [allL, allA, v1, n1, List.drop_left, v2, n2, v3, n3]
  rw [if_neg (by omega), if_neg (by omega), if_neg (by omega), if_neg (by omega), if_neg (by omega), if_neg (by omega)]
  refine ⟨?_, by simp [putL]⟩
  simp only
  congr 2
  · omega
  · congr 1
    · omega
    · congr 1; omega

theorem getC_putC (x0 : Bool) (x1 : List Int) (x2 x3 x4 x5 : Int) (more : List Int) (hc : cErr x0 x1 x2 x3 x4 x5 = 0) (h0 : 0 ≤ x5) (h1 : x5 < 4294967296) :
    getC (putC x0 x1 x2 x3 x4 x5 ++ more) = some (x0, x1, x2, x3, x4, x5, (putC x0 x1 x2 x3 x4 x5).length) := by
  cases x0
  · simp only [cErr, Bool.false_eq_true, if_false] at hc
    split at hc
    · cases hc
    · rename_i hh
      have hl : x1.length ≤ 32 := by omega
      obtain ⟨rfl, rfl, rfl, rfl⟩ : x2 = 0 ∧ x3 = 0 ∧ x4 = 0 ∧ x5 = 0 := by omega
      have p1 := one_pos x1.length
      obtain ⟨v1, n1⟩ := gv_one x1.length (x1 ++ more) (by omega)
      simp only [putC, Bool.false_eq_true, if_false, List.cons_append, List.append_assoc, getC, v1, n1]
      rw [if_neg (by omega), if_neg (by omega), if_neg (by simp only [List.length_append]; omega)]
      simp only [List.drop_left, Int.toNat_natCast, List.take_left, List.length_cons, List.length_append]
      congr 7
      omega
  · have hp : x1 = [] ∧ pOk x2 x3 x4 = true := by
      simp only [cErr, if_true] at hc
      split at hc
      · cases hc
      · split at hc
        · rename_i h _; exact ⟨List.length_eq_zero_iff.1 (by omega), by assumption⟩
        · cases hc
    obtain ⟨rfl, hp⟩ := hp
    have hp' : 1 ≤ x2 ∧ x2 ≤ 2147483647 ∧ 0 ≤ x3 ∧ x3 ≤ 2147483647 ∧ 0 ≤ x4 ∧ x4 ≤ 4096 := by simpa [pOk] using hp
    obtain ⟨a1, a2⟩ := all3 x2 x3 x4 (sum4 x5 ++ more) (by omega) (by omega) (by omega)
    have hg : getP (putL [x2, x3, x4] ++ (sum4 x5 ++ more)) = some (x2, x3, x4, x5, (putL [x2, x3, x4]).length + 4) := by
      simp only [getP, a1, a2, hp, and_true, List.drop_left]
      rw [if_pos (by simp [sum4])]
      have : sumv (sum4 x5 ++ more) = x5 := by simp only [sum4, List.cons_append, sumv]; omega
      rw [this]
    simp only [putC, if_true, List.cons_append, List.append_assoc, getC, hg]
    rw [if_neg (by omega)]
    simp [sum4]
    rfl

theorem putC_byte {x0 : Bool} {x1 : List Int} {x2 x3 x4 x5 : Int} (hb : ∀ c ∈ x1, 0 ≤ c ∧ c < 256) : ∀ c ∈ putC x0 x1 x2 x3 x4 x5, 0 ≤ c ∧ c < 256 := by
  intro c hc
  unfold putC at hc
  split at hc
  · rcases List.mem_cons.1 hc with rfl | hc
    · omega
    · rcases List.mem_append.1 hc with hc | hc
      · simp only [putL, List.map_cons, List.map_nil, List.flatten_cons, List.flatten_nil, List.append_nil, List.mem_append] at hc
        rcases hc with hc | hc | hc <;> (have := one_byte _ c hc; omega)
      · simp only [sum4, List.mem_cons, List.not_mem_nil, or_false] at hc
        rcases hc with rfl | rfl | rfl | rfl <;> omega
  · rcases List.mem_cons.1 hc with rfl | hc
    · omega
    · rcases List.mem_append.1 hc with hc | hc
      · have := one_byte _ c hc; omega
      · exact hb c hc

theorem f8 (x0 : Bool) (x1 : List Int) (x2 x3 x4 x5 : Int) (x6 : List Int) (h0 : 0 ≤ x5) (h1 : x5 < 4294967296) (hb1 : ∀ c ∈ x1, 0 ≤ c ∧ c < 256) (hb6 : ∀ c ∈ x6, 0 ≤ c ∧ c < 256) : F8 [⟨.bool, x0⟩, ⟨.sl (.int .u8), x1⟩, ⟨.int .i64, x2⟩, ⟨.int .i64, x3⟩, ⟨.int .i64, x4⟩, ⟨.int .u32, x5⟩, ⟨.sl (.int .u8), x6⟩] = some [⟨.bool, true⟩] := by
  have h19 := s19 (lc := [c19, c15, c16, c43, c18]) rfl
  have h15 := s15 (lc := [c19, c15, c16, c43, c18]) rfl
  have h16 := s16 (lc := [c19, c15, c16, c43, c18]) rfl
  have h43 := s43 (lc := [c19, c15, c16, c43, c18]) rfl
  have h18 := s18 (lc := [c19, c15, c16, c43, c18]) rfl
  simp only [F8, Fof, ir8]
  generalize Phi [c19, c15, c16, c43, c18] = Φ at *
  have h15 := h15 ()
  have k19 := h19 x0 x1 x2 x3 x4 x5
  by_cases hc : cErr x0 x1 x2 x3 x4 x5 = 0
  · simp only [hc, decide_true] at k19
    by_cases g : (1000 : Int) < x6.length
    · simp [↓den_start, ↓deb_op, ↓deb_ret, ↓deb_jump, ↓deb_itev, ↓deb_itel, ↓deb_loop, ↓deb_fail, ↓deb_nilcv, nilE_some, opE_some, debP_nil, debP_cons, pushL_nil, pushL_cons, retE_some, iteE_some, evB_nil, evB_v, evB_l, lkE_cons, consE_some, d_int, d_bool, d_str, d_nil, o_add, o_sub, o_mul, o_and, o_or, o_xor, o_andNot, o_quo, o_rem, o_shl, o_shr, o_eql, o_neq, o_lss, o_leq, o_gtr, o_geq, o_seql, o_sneq, o_slss, o_sleq, o_sgtr, o_sgeq, o_beql, o_bneq, o_scat, o_not, o_neg, o_com, o_conv, o_s2b, o_b2s, o_len, o_slen, o_inb, o_idx, o_sidx, o_sub3, o_sub2, o_ssub3, o_ssub2, o_app, o_apps, o_mk, mkE_some, consD_some, mkD_zero, mkD_int, mkD_str, mkD_sl, o_imin, o_imax, o_smin, o_smax, o_eqs, eqsE_some, eqC_nil, andE_some, eqC_int, eqC_bool, eqC_str, j1, outE_some, outE_none, outE_ite, agE_1, loopE_1, agE_2, loopE_2, agE_3, loopE_3, agE_4, loopE_4, agE_5, loopE_5, agE_6, loopE_6, agE_7, loopE_7, agE_8, loopE_8, agE_9, loopE_9, List.cons_append, List.nil_append, List.append_nil, split, List.take_succ_cons, List.take_zero, List.drop_succ_cons, List.drop_zero, h15, k19, g]
    have k16 := h16 x0 x1 x2 x3 x4 x5 h0 h1
    have hlen := putC_len hc
    have hget := getC_putC x0 x1 x2 x3 x4 x5 x6 hc h0 h1
    rw [if_pos hc, hc] at k16
    have hby := putC_byte (x0 := x0) (x2 := x2) (x3 := x3) (x4 := x4) (x5 := x5) hb1
    have hx1 : x1.length < 1000000000 := by
      have := (getC_k hget).2
      rw [List.length_append] at this
      unfold putC at hlen this
      cases x0
      · simp at hlen; omega
      · simp only [cErr, if_true] at hc
        split at hc
        · cases hc
        · omega
    generalize putC x0 x1 x2 x3 x4 x5 = p at *
    have k43 := h43 (p ++ x6) (fun c hc => by rcases List.mem_append.1 hc with h | h; exact hby c h; exact hb6 c h) (by rw [List.length_append]; omega)
    have k18 := h18 x0 x0 x1 x1 x2 x3 x4 x5 x2 x3 x4 x5 hx1
    rw [hget] at k43
    simp only [resCe] at k43
    have b1 : p.length ≤ BIG := by simp only [BIG]; omega
    have b2 : p.length + x6.length ≤ BIG := by simp only [BIG]; omega
    simp [↓den_start, ↓deb_op, ↓deb_ret, ↓deb_jump, ↓deb_itev, ↓deb_itel, ↓deb_loop, ↓deb_fail, ↓deb_nilcv, nilE_some, opE_some, debP_nil, debP_cons, pushL_nil, pushL_cons, retE_some, iteE_some, evB_nil, evB_v, evB_l, lkE_cons, consE_some, d_int, d_bool, d_str, d_nil, o_add, o_sub, o_mul, o_and, o_or, o_xor, o_andNot, o_quo, o_rem, o_shl, o_shr, o_eql, o_neq, o_lss, o_leq, o_gtr, o_geq, o_seql, o_sneq, o_slss, o_sleq, o_sgtr, o_sgeq, o_beql, o_bneq, o_scat, o_not, o_neg, o_com, o_conv, o_s2b, o_b2s, o_len, o_slen, o_inb, o_idx, o_sidx, o_sub3, o_sub2, o_ssub3, o_ssub2, o_app, o_apps, o_mk, mkE_some, consD_some, mkD_zero, mkD_int, mkD_str, mkD_sl, o_imin, o_imax, o_smin, o_smax, o_eqs, eqsE_some, eqC_nil, andE_some, eqC_int, eqC_bool, eqC_str, j1, outE_some, outE_none, outE_ite, agE_1, loopE_1, agE_2, loopE_2, agE_3, loopE_3, agE_4, loopE_4, agE_5, loopE_5, agE_6, loopE_6, agE_7, loopE_7, agE_8, loopE_8, agE_9, loopE_9, List.cons_append, List.nil_append, List.append_nil, split, List.take_succ_cons, List.take_zero, List.drop_succ_cons, List.drop_zero, h15, k19, g, k16, k43, k18, b1, b2]
  · simp only [hc, decide_false] at k19
    simp [↓den_start, ↓deb_op, ↓deb_ret, ↓deb_jump, ↓deb_itev, ↓deb_itel, ↓deb_loop, ↓deb_fail, ↓deb_nilcv, nilE_some, opE_some, debP_nil, debP_cons, pushL_nil, pushL_cons, retE_some, iteE_some, evB_nil, evB_v, evB_l, lkE_cons, consE_some, d_int, d_bool, d_str, d_nil, o_add, o_sub, o_mul, o_and, o_or, o_xor, o_andNot, o_quo, o_rem, o_shl, o_shr, o_eql, o_neq, o_lss, o_leq, o_gtr, o_geq, o_seql, o_sneq, o_slss, o_sleq, o_sgtr, o_sgeq, o_beql, o_bneq, o_scat, o_not, o_neg, o_com, o_conv, o_s2b, o_b2s, o_len, o_slen, o_inb, o_idx, o_sidx, o_sub3, o_sub2, o_ssub3, o_ssub2, o_app, o_apps, o_mk, mkE_some, consD_some, mkD_zero, mkD_int, mkD_str, mkD_sl, o_imin, o_imax, o_smin, o_smax, o_eqs, eqsE_some, eqC_nil, andE_some, eqC_int, eqC_bool, eqC_str, j1, outE_some, outE_none, outE_ite, agE_1, loopE_1, agE_2, loopE_2, agE_3, loopE_3, agE_4, loopE_4, agE_5, loopE_5, agE_6, loopE_6, agE_7, loopE_7, agE_8, loopE_8, agE_9, loopE_9, List.cons_append, List.nil_append, List.append_nil, split, List.take_succ_cons, List.take_zero, List.drop_succ_cons, List.drop_zero, h15, k19]
theorem s8 {lc : List Ct} (hl0 : look (lc.map fun c => (c.sig.id, c)) 8 = some c8) : ∀ (x0 : Bool) (x1 : List Int) (x2 x3 x4 x5 : Int) (x6 : List Int) (h0 : 0 ≤ x5) (h1 : x5 < 4294967296) (hb1 : ∀ c ∈ x1, 0 ≤ c ∧ c < 256) (hb6 : ∀ c ∈ x6, 0 ≤ c ∧ c < 256), Does1 (Phi lc) 8 [⟨.bool, x0⟩, ⟨.sl (.int .u8), x1⟩, ⟨.int .i64, x2⟩, ⟨.int .i64, x3⟩, ⟨.int .i64, x4⟩, ⟨.int .u32, x5⟩, ⟨.sl (.int .u8), x6⟩] [⟨.bool, true⟩] :=
  fun x0 x1 x2 x3 x4 x5 x6 h0 h1 hb1 hb6 => Does1.of hl0 (f8 x0 x1 x2 x3 x4 x5 x6 h0 h1 hb1 hb6) rfl
end Go.Proofs.Ytdjknicjnaiomaa.Sx
