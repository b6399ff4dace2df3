/-
  Tables of a level, whether it is full, spans, and what is merged, for every input within the bounds that each statement names.
-/
import Derived.Test.YtdjknicjnaiomaaL1
set_option linter.unusedVariables false
set_option linter.unusedSimpArgs false
set_option maxHeartbeats 4000000
/- Tables in order; those of a level; is a level full; a span. -/
namespace Go.Proofs.Ytdjknicjnaiomaa.Sx
attribute [local simp ↓] den_start deb_op deb_ret deb_jump deb_itev deb_itel deb_loop deb_fail deb_nilcv
attribute [local simp] nilE_some opE_some debP_nil debP_cons pushL_nil pushL_cons retE_some iteE_some evB_nil evB_v evB_l lkE_cons consE_some d_int d_bool d_str d_nil o_add o_sub o_mul o_and o_or o_xor o_andNot o_quo o_rem o_shl o_shr o_eql o_neq o_lss o_leq o_gtr o_geq o_seql o_sneq o_slss o_sleq o_sgtr o_sgeq o_beql o_bneq o_scat o_not o_neg o_com o_conv o_s2b o_b2s o_len o_slen o_inb o_idx o_sidx o_sub3 o_sub2 o_ssub3 o_ssub2 o_app o_clr o_appn o_ful o_apps o_mk mkE_some consD_some mkD_zero mkD_int mkD_str mkD_sl o_imin o_imax o_smin o_smax o_eqs eqsE_some eqC_nil andE_some eqC_int eqC_bool eqC_str j1 outE_some outE_none outE_ite agE_1 loopE_1 agE_2 loopE_2 agE_3 loopE_3 agE_4 loopE_4 agE_5 loopE_5 agE_6 loopE_6 agE_7 loopE_7 agE_8 loopE_8 agE_9 loopE_9 List.cons_append List.nil_append List.append_nil split List.take_succ_cons List.take_zero List.drop_succ_cons List.drop_zero

theorem takeWhile_pos {α : Type} (p : α → Bool) : ∀ (a b : List α), (∀ y ∈ a, p y = true) → (a ++ b).takeWhile p = a ++ b.takeWhile p
  | [], b, _ => rfl
  | x :: a, b, h => by
    rw [List.cons_append, List.takeWhile_cons, if_pos (h x (by simp)), takeWhile_pos p a b (fun y hy => h y (by simp [hy])), List.cons_append]
theorem dropWhile_pos {α : Type} (p : α → Bool) : ∀ (a b : List α), (∀ y ∈ a, p y = true) → (a ++ b).dropWhile p = b.dropWhile p
  | [], b, _ => rfl
  | x :: a, b, h => by
    rw [List.cons_append, List.dropWhile_cons, if_pos (h x (by simp)), dropWhile_pos p a b (fun y hy => h y (by simp [hy]))]

theorem insT_at {x : Tb} {out : List Tb} {k : Nat} (hk : k ≤ out.length) (h1 : ∀ y ∈ out.drop k, ltT x y = true) (h2 : k = 0 ∨ ltT x (out[k - 1]?.getD (dflt TbT)) = false) : insT x out = out.take k ++ x :: out.drop k := by
  have e : out.reverse = (out.drop k).reverse ++ (out.take k).reverse := by rw [← List.reverse_append, List.take_append_drop]
  unfold insT
  rw [e, takeWhile_pos _ _ _ (by simpa using h1), dropWhile_pos _ _ _ (by simpa using h1)]
  have h3 : (out.take k).reverse.takeWhile (ltT x) = [] ∧ (out.take k).reverse.dropWhile (ltT x) = (out.take k).reverse := by
    rcases h2 with rfl | h2
    · simp
    · by_cases h0 : k = 0
      · subst h0; simp
      · have : out.take k = out.take (k - 1) ++ [out[k - 1]'(by omega)] := by
          have := List.take_succ_eq_append_getElem (l := out) (i := k - 1) (by omega)
          rwa [show k - 1 + 1 = k by omega] at this
        rw [this, List.reverse_append]
        rw [List.getElem?_eq_getElem (by omega)] at h2
        simp only [Option.getD_some] at h2
        simp [h2]
  rw [h3.1, h3.2]
  simp

theorem f64 (l : List Tb) (hl : l.length < 1000000) : F64 [⟨.sl TbT, l⟩] = some [⟨.sl TbT, ordT l⟩] := by
  have h119 := s119 (lc := [c119]) rfl
  simp only [F64, Fof, ir64]
  generalize Phi [c119] = Φ at *
  simp -implicitDefEqProofs []
  refine (iter_meas (fun s : List Tb × Int => (l.length - s.2).toNat) (fun s => ([⟨.sl TbT, (l.drop s.2.toNat).foldl (fun out x => insT x out) s.1⟩] : List D)) (fun s => 0 ≤ s.2 ∧ s.2 ≤ l.length ∧ s.1.length = s.2) (by exact ⟨by simp, by simp, by simp⟩) ?_).trans (by simp [ordT])
  rintro ⟨acc, i⟩ ⟨h1, h2, h3⟩
  simp only at h1 h2 h3 ⊢
  by_cases hi : i < l.length
  rotate_left
  · refine .inr ?_
    rw [List.drop_eq_nil_of_le (by omega)]
    simp -implicitDefEqProofs [hi]
  rw [dropI h1 hi]
  have g1 := getG (l := l) (d := dflt TbT) h1 (by omega)
  have b1 : 0 ≤ i ∧ i < (l.length : Int) := ⟨h1, hi⟩
  have wi : IntKind.i64.wrap (i + 1) = i + 1 := wi64 _ (by omega) (by omega)
  generalize hcx : l[i.toNat]'(by omega) = x at *
  refine .inl ⟨(insT x acc, i + 1), ?_, ⟨by (try simp only); omega, by (try simp only); omega, ?_⟩, by (try simp only); omega, ?_⟩
  rotate_left
  · simp only [(insT_perm x acc).length_eq, List.length_cons]; omega
  · simp
  simp -implicitDefEqProofs [hi, b1, g1, hcx]
  refine iter_meas (fun k : Int => k.toNat) (fun k => LS.again (insT x acc, i + 1)) (fun k => 0 ≤ k ∧ k ≤ acc.length ∧ ∀ y ∈ acc.drop k.toNat, ltT x y = true) (by exact ⟨by omega, by omega, by simp⟩) ?_
  rintro k ⟨k1, k2, k3⟩
  have hb2 : acc.length ≤ BIG + k.toNat := by simp only [BIG]; omega
  have hb3 : min k.toNat acc.length + 1 ≤ BIG := by simp only [BIG]; omega
  have hb4 : min k.toNat acc.length + 1 + (acc.length - k.toNat) ≤ BIG := by simp only [BIG]; omega
  have hb5 : k.toNat + 1 ≤ BIG := by simp only [BIG]; omega
  have hb6 : k.toNat + 1 + (acc.length - k.toNat) ≤ BIG := by simp only [BIG]; omega
  have hb7 : 1 + acc.length ≤ BIG := by simp only [BIG]; omega
  have hb8 : acc.length ≤ BIG := by simp only [BIG]; omega
  have hb9 : 1 ≤ BIG := by decide
  have b3 : 0 ≤ k ∧ k ≤ (acc.length : Int) := ⟨k1, k2⟩
  by_cases hk : 0 < k
  · have wk : IntKind.i64.wrap (k - 1) = k - 1 := wi64 _ (by omega) (by omega)
    have b2 : 0 ≤ k - 1 ∧ k - 1 < (acc.length : Int) := by omega
    have g2 := getG (l := acc) (i := k - 1) (d := dflt TbT) (by omega) (by omega)
    generalize hcu : acc[(k - 1).toNat]'(by omega) = u at *
    have g2' : acc[k.toNat - 1]?.getD (dflt TbT) = u := by rw [show k.toNat - 1 = (k - 1).toNat by omega]; exact g2
    have hk1 : 1 ≤ k := by omega
    have hk2 : k - 1 < (acc.length : Int) := by omega
    have k4 : Does1 Φ 119 [⟨.int .i64, x.1⟩, ⟨.int .i64, x.2.1⟩, ⟨.int .i64, x.2.2.1⟩, ⟨.str, x.2.2.2.1⟩, ⟨.str, x.2.2.2.2⟩, ⟨.int .i64, u.1⟩, ⟨.int .i64, u.2.1⟩, ⟨.int .i64, u.2.2.1⟩, ⟨.str, u.2.2.2.1⟩, ⟨.str, u.2.2.2.2⟩] [⟨.bool, ltT x u⟩] := h119 _ _ _ _ _ _ _ _ _ _
    cases hc : ltT x u <;> rw [hc] at k4
    · refine .inr ?_
      rw [insT_at (k := k.toNat) (by omega) k3 (.inr (by rw [show k.toNat - 1 = (k - 1).toNat by omega, g2]; exact hc))]
      simp -implicitDefEqProofs [hk, hi, b1, hk1, hk2, b3, g1, g2', hcx, wk, k4, hb2, hb3, hb4, hb5, hb6, wi]
    · refine .inl ⟨k - 1, ?_, ⟨by omega, by omega, fun y hy => ?_⟩, by omega, rfl⟩
      · simp -implicitDefEqProofs [hk, hi, b1, hk1, hk2, b3, g1, g2', hcx, wk, k4]
      · rw [show (k - 1).toNat = k.toNat - 1 by omega, List.drop_eq_getElem_cons (by omega), show k.toNat - 1 + 1 = k.toNat by omega] at hy
        rcases List.mem_cons.1 hy with rfl | hy
        · rw [← hc, ← hcu]; congr 2; omega
        · exact k3 y hy
  · refine .inr ?_
    have h0 : k = 0 := by omega
    rw [insT_at (k := k.toNat) (by omega) k3 (.inl (by omega))]
    subst h0
    simp -implicitDefEqProofs [hi, b1, g1, hcx, hb7, hb8, hb9, wi, Nat.add_comm]
theorem s64 {lc : List Ct} (hl0 : look (lc.map fun c => (c.sig.id, c)) 64 = some c64) : ∀ (l : List Tb) (hl : l.length < 1000000), Does1 (Phi lc) 64 [⟨.sl TbT, l⟩] [⟨.sl TbT, ordT l⟩] :=
  fun l hl => by
    have eFc : c64.F = F64 := rfl
    have eFh := f64 l hl
    rw [← eFc] at eFh
    exact Does1.of hl0 eFh rfl
def ofT (n : Int) (l : List Tb) : List Tb := l.filter fun x => decide (x.2.1 = n)
theorem f117 (l : List Tb) (n : Int) (hl : l.length < 1000000) : F117 [⟨.sl TbT, l⟩, ⟨.int .i64, n⟩] = some [⟨.sl TbT, ofT n (ordT l)⟩] := by
  have h64 := s64 (lc := [c64]) rfl
  simp only [F117, Fof, ir117]
  generalize Phi [c64] = Φ at *
  have k := h64 l hl
  have hol := ordT_len l
  generalize ordT l = o at *
  simp -implicitDefEqProofs [k]
  refine (iter_meas (fun s : List Tb × Int => (o.length - s.2).toNat) (fun s => ([⟨.sl TbT, s.1 ++ ofT n (o.drop s.2.toNat)⟩] : List D)) (fun s => 0 ≤ s.2 ∧ s.2 ≤ o.length ∧ s.1.length ≤ s.2) (by exact ⟨by simp, by simp, by simp⟩) ?_).trans (by simp)
  rintro ⟨acc, i⟩ ⟨h1, h2, h3⟩
  simp only at h1 h2 h3 ⊢
  by_cases hi : i < o.length
  rotate_left
  · refine .inr ?_
    rw [List.drop_eq_nil_of_le (by omega)]
    simp -implicitDefEqProofs [hi, ofT]
  rw [dropI h1 hi]
  have g1 := getG (l := o) (d := dflt TbT) h1 (by omega)
  have b1 : 0 ≤ i ∧ i < (o.length : Int) := ⟨h1, hi⟩
  have hb : acc.length + 1 ≤ BIG := by simp only [BIG]; omega
  have wi : IntKind.i64.wrap (i + 1) = i + 1 := wi64 _ (by omega) (by omega)
  generalize hcx : o[i.toNat]'(by omega) = x at *
  by_cases hn : x.2.1 = n
  · refine .inl ⟨(acc ++ [x], i + 1), ?_, ⟨by (try simp only); omega, by (try simp only); omega, by simp; omega⟩, by (try simp only); omega, ?_⟩
    · simp -implicitDefEqProofs [hi, b1, g1, hcx, wi, hb, hn]
      rw [← hn]
    · simp [ofT, hn]
  · refine .inl ⟨(acc, i + 1), ?_, ⟨by (try simp only); omega, by (try simp only); omega, by simp; omega⟩, by (try simp only); omega, ?_⟩
    · simp -implicitDefEqProofs [hi, b1, g1, hcx, wi, hn]
    · simp [ofT, hn]
theorem s117 {lc : List Ct} (hl0 : look (lc.map fun c => (c.sig.id, c)) 117 = some c117) : ∀ (l : List Tb) (n : Int) (hl : l.length < 1000000), Does1 (Phi lc) 117 [⟨.sl TbT, l⟩, ⟨.int .i64, n⟩] [⟨.sl TbT, ofT n (ordT l)⟩] :=
  fun l n hl => by
    have eFc : c117.F = F117 := rfl
    have eFh := f117 l n hl
    rw [← eFc] at eFh
    exact Does1.of hl0 eFh rfl
end Go.Proofs.Ytdjknicjnaiomaa.Sx

set_option maxHeartbeats 4000000
/- What DeleteFunc leaves; is a level full; a span. -/
namespace Go.Proofs.Ytdjknicjnaiomaa.Sx
attribute [local simp ↓] den_start deb_op deb_ret deb_jump deb_itev deb_itel deb_loop deb_fail deb_nilcv
attribute [local simp] nilE_some opE_some debP_nil debP_cons pushL_nil pushL_cons retE_some iteE_some evB_nil evB_v evB_l lkE_cons consE_some d_int d_bool d_str d_nil o_add o_sub o_mul o_and o_or o_xor o_andNot o_quo o_rem o_shl o_shr o_eql o_neq o_lss o_leq o_gtr o_geq o_seql o_sneq o_slss o_sleq o_sgtr o_sgeq o_beql o_bneq o_scat o_not o_neg o_com o_conv o_s2b o_b2s o_len o_slen o_inb o_idx o_sidx o_sub3 o_sub2 o_ssub3 o_ssub2 o_app o_clr o_appn o_ful o_apps o_mk mkE_some consD_some mkD_zero mkD_int mkD_str mkD_sl o_imin o_imax o_smin o_smax o_eqs eqsE_some eqC_nil andE_some eqC_int eqC_bool eqC_str j1 outE_some outE_none outE_ite agE_1 loopE_1 agE_2 loopE_2 agE_3 loopE_3 agE_4 loopE_4 agE_5 loopE_5 agE_6 loopE_6 agE_7 loopE_7 agE_8 loopE_8 agE_9 loopE_9 List.cons_append List.nil_append List.append_nil split List.take_succ_cons List.take_zero List.drop_succ_cons List.drop_zero

/-- the loop that looks for the first one: behind it all ahead of it stay -/
theorem first_loop {R : Type} {e : Ty} (o : List e.den) (p : e.den → Bool) (fin : List e.den → R) (st : Int → Option (LS Int R))
    (h : ∀ j : Int, 0 ≤ j → j < o.length → p (o[j.toNat]?.getD (dflt e)) = false → st j = some (.again (j + 1)))
    (h1 : ∀ j : Int, 0 ≤ j → j < o.length → p (o[j.toNat]?.getD (dflt e)) = true → (∀ y ∈ o.take j.toNat, p y = false) → st j = some (.out (fin (o.take j.toNat ++ (o.drop (j.toNat + 1)).filter (fun x => !p x)))))
    (h2 : (∀ y ∈ o, p y = false) → st o.length = some (.out (fin o))) :
    iter st 0 = some (fin (o.filter fun x => !p x)) := by
  refine iter_meas (fun s : Int => (o.length - s).toNat) (fun s => fin (o.filter fun x => !p x)) (fun s => 0 ≤ s ∧ s ≤ o.length ∧ ∀ y ∈ o.take s.toNat, p y = false) (by exact ⟨by omega, by omega, by simp⟩) ?_
  rintro j ⟨j1, j2, j3⟩
  by_cases hj : j < o.length
  · have htk : o.take (j + 1).toNat = o.take j.toNat ++ [o[j.toNat]'(by omega)] := by rw [show (j + 1).toNat = j.toNat + 1 by omega, List.take_succ_eq_append_getElem (by omega)]
    have g := getG (d := dflt e) j1 hj
    cases hc : p (o[j.toNat]'(by omega)) with
    | false =>
      refine .inl ⟨j + 1, h j j1 hj (by rw [g]; exact hc), ⟨by omega, by omega, fun y hy => ?_⟩, by omega, rfl⟩
      rw [htk] at hy
      rcases List.mem_append.1 hy with hy | hy
      · exact j3 y hy
      · simp only [List.mem_singleton] at hy; subst hy; exact hc
    | true =>
      refine .inr ?_
      rw [h1 j j1 hj (by rw [g]; exact hc) j3]
      congr 2
      have e0 : o = o.take j.toNat ++ o.drop j.toNat := (List.take_append_drop _ _).symm
      have e1 : (o.take j.toNat).filter (fun x => !p x) = o.take j.toNat := List.filter_eq_self.2 (fun y hy => by simp [j3 y hy])
      have e2 : o.drop j.toNat = o[j.toNat]'(by omega) :: o.drop (j.toNat + 1) := List.drop_eq_getElem_cons (by omega)
      have e3 : o.filter (fun x => !p x) = o.take j.toNat ++ (o.drop j.toNat).filter (fun x => !p x) := by
        conv => lhs; rw [e0, List.filter_append, e1]
      rw [e3, e2, List.filter_cons, hc]
      simp
  · have e0 : j = o.length := by omega
    subst e0
    have hall : ∀ y ∈ o, p y = false := fun y hy => j3 y (by simpa using hy)
    refine .inr ?_
    rw [h2 hall, List.filter_eq_self.2 (fun y hy => by simp [hall y hy])]

/-- the loop that moves what stays -/
theorem move_loop {R : Type} {e : Ty} (p : e.den → Bool) (fin : List e.den → R) (n : Nat) (i0 j0 : Int) (xs0 : List e.den) (st : Int × Int × List e.den → Option (LS (Int × Int × List e.den) R))
    (h0 : 0 ≤ i0 ∧ i0 ≤ j0 ∧ j0 ≤ n ∧ xs0.length = n)
    (h : ∀ (i j : Int) (xs : List e.den), 0 ≤ i → i ≤ j → j < n → xs.length = n → st (i, j, xs) = some (.again (if p (xs[j.toNat]?.getD (dflt e)) = true then (i, j + 1, xs) else (i + 1, j + 1, xs.set i.toNat (xs[j.toNat]?.getD (dflt e))))))
    (h1 : ∀ (i : Int) (xs : List e.den), 0 ≤ i → i ≤ n → xs.length = n → st (i, (n : Int), xs) = some (.out (fin (xs.take i.toNat)))) :
    iter st (i0, j0, xs0) = some (fin (xs0.take i0.toNat ++ (xs0.drop j0.toNat).filter (fun x => !p x))) := by
  refine iter_meas (fun s : Int × Int × List e.den => (n - s.2.1).toNat) (fun s => fin (s.2.2.take s.1.toNat ++ (s.2.2.drop s.2.1.toNat).filter (fun x => !p x))) (fun s => 0 ≤ s.1 ∧ s.1 ≤ s.2.1 ∧ s.2.1 ≤ n ∧ s.2.2.length = n) (by exact h0) ?_
  rintro ⟨i, j, xs⟩ ⟨i1, i2, i3, i4⟩
  simp only at i1 i2 i3 i4 ⊢
  by_cases hj : j < n
  · have g := getG (l := xs) (i := j) (d := dflt e) (by omega) (by omega)
    have e2 : xs.drop j.toNat = xs[j.toNat]'(by omega) :: xs.drop (j + 1).toNat := dropI (by omega) (by omega)
    rw [h i j xs i1 i2 hj i4, g, e2]
    cases hc : p (xs[j.toNat]'(by omega)) with
    | true =>
      refine .inl ⟨(i, j + 1, xs), by simp, ⟨i1, by (try simp only); omega, by (try simp only); omega, i4⟩, by (try simp only); omega, ?_⟩
      simp [hc]
    | false =>
      refine .inl ⟨(i + 1, j + 1, xs.set i.toNat (xs[j.toNat]'(by omega))), by simp, ⟨by (try simp only); omega, by (try simp only); omega, by (try simp only); omega, by simp [i4]⟩, by (try simp only); omega, ?_⟩
      simp only
      congr 1
      rw [List.filter_cons, hc]
      simp only [Bool.not_false, if_true]
      rw [List.drop_set_of_lt (by omega)]
      have e3 : (xs.set i.toNat (xs[j.toNat]'(by omega))).take (i + 1).toNat = xs.take i.toNat ++ [xs[j.toNat]'(by omega)] := by
        rw [show (i + 1).toNat = i.toNat + 1 by omega, List.take_succ_eq_append_getElem (by simp; omega), List.take_set_of_le (by omega), List.getElem_set_self]
      rw [e3, List.append_assoc]
      rfl
  · have e0 : j = n := by omega
    subst e0
    refine .inr ?_
    rw [h1 i xs i1 (by omega) i4, List.drop_eq_nil_of_le (by omega)]
    simp

theorem f104 (l : List Tb) (n : Int) (hl : l.length < 1000000) : F104 [⟨.sl TbT, l⟩, ⟨.int .i64, n⟩] = some [⟨.sl TbT, ofT n l⟩] := by
  have h109 := s109 (lc := [c109]) rfl
  simp only [F104, Fof, ir104]
  generalize Phi [c109] = Φ at *
  have k := h109 l (by omega)
  simp -implicitDefEqProofs [k]
  have e0 : ofT n l = l.filter fun x => !decide (¬ x.2.1 = n) := by unfold ofT; simp
  rw [e0]
  refine first_loop (e := TbT) l (fun x => decide (¬ x.2.1 = n)) (fun l => ([⟨.sl TbT, l⟩] : List D)) _ ?_ ?_ ?_
  · intro j j1 hj hp
    have b1 : 0 ≤ j ∧ j < (l.length : Int) := ⟨j1, hj⟩
    have wj : IntKind.i64.wrap (j + 1) = j + 1 := wi64 _ (by omega) (by omega)
    have g := getG (l := l) (d := dflt TbT) j1 hj
    rw [g] at hp
    generalize hcx : l[j.toNat]'(by omega) = x at *
    simp only [decide_eq_false_iff_not, Classical.not_not] at hp
    simp -implicitDefEqProofs [hj, b1, g, hcx, hp, wj]
  · intro j j1 hj hp _
    have b1 : 0 ≤ j ∧ j < (l.length : Int) := ⟨j1, hj⟩
    have wj : IntKind.i64.wrap (j + 1) = j + 1 := wi64 _ (by omega) (by omega)
    have hm : ¬ j = -1 := by omega
    have g := getG (l := l) (d := dflt TbT) j1 hj
    rw [g] at hp
    generalize hcx : l[j.toNat]'(by omega) = x at *
    simp only [decide_eq_true_eq] at hp
    simp -implicitDefEqProofs [hj, b1, g, hcx, hp, wj, hm]
    refine (move_loop (e := TbT) (fun x => decide (¬ x.2.1 = n)) (fun l => (.out [⟨.sl TbT, l⟩] : LS Int (List D))) l.length j (j + 1) l _ ⟨j1, by omega, by omega, rfl⟩ ?_ ?_).trans (by rw [show (j + 1).toNat = j.toNat + 1 by omega]; simp)
    · intro i j xs i1 i2 i3 i4
      have b1 : 0 ≤ j ∧ j < (xs.length : Int) := by omega
      have hj : j < (xs.length : Int) := by omega
      have b2 : 0 ≤ i ∧ i < (xs.length : Int) := by omega
      have wj : IntKind.i64.wrap (j + 1) = j + 1 := wi64 _ (by omega) (by omega)
      have wi : IntKind.i64.wrap (i + 1) = i + 1 := wi64 _ (by omega) (by omega)
      have g := getG (l := xs) (i := j) (d := dflt TbT) (by omega) (by omega)
      rw [g]
      generalize hcx : xs[j.toNat]'(by omega) = x at *
      by_cases hp : x.2.1 = n
      · simp -implicitDefEqProofs [hj, b1, b2, g, hcx, hp, wj, wi]
        rw [← hp]
      · simp -implicitDefEqProofs [hj, b1, b2, g, hcx, hp, wj, wi]
    · intro i xs i1 i2 i4
      have hj : ¬ (l.length : Int) < (xs.length : Int) := by omega
      have b2 : 0 ≤ i ∧ i ≤ (xs.length : Int) := by omega
      have hm : min i.toNat xs.length = i.toNat := by omega
      have hc : i ≤ max i 0 + ((xs.length - i.toNat : Nat) : Int) := by omega
      simp -implicitDefEqProofs [hj, b2, hm, hc]
  · intro _
    have hj : ¬ (l.length : Int) < (l.length : Int) := by omega
    simp -implicitDefEqProofs []
theorem s104 {lc : List Ct} (hl0 : look (lc.map fun c => (c.sig.id, c)) 104 = some c104) : ∀ (l : List Tb) (n : Int) (hl : l.length < 1000000), Does1 (Phi lc) 104 [⟨.sl TbT, l⟩, ⟨.int .i64, n⟩] [⟨.sl TbT, ofT n l⟩] :=
  fun l n hl => by
    have eFc : c104.F = F104 := rfl
    have eFh := f104 l n hl
    rw [← eFc] at eFh
    exact Does1.of hl0 eFh rfl
def sizeT' (l : List Tb) : Int := (l.map fun x => x.2.2.1).sum
def fullT (l : List Tb) (n base : Int) : Bool := if n = 0 then decide (4 ≤ l.length) else decide (base * 4 ^ (n - 1).toNat < sizeT' l)

theorem sizeT'_bound : ∀ (l : List Tb), (∀ x ∈ l, 0 ≤ x.2.2.1 ∧ x.2.2.1 ≤ 1073741824) → 0 ≤ sizeT' l ∧ sizeT' l ≤ 1073741824 * l.length
  | [], _ => by simp [sizeT']
  | x :: l, h => by
    have h1 := h x (by simp)
    have h2 := sizeT'_bound l (fun y hy => h y (by simp [hy]))
    have e : sizeT' (x :: l) = x.2.2.1 + sizeT' l := by simp [sizeT']
    rw [e, List.length_cons]
    omega

theorem f105 (l : List Tb) (n base : Int) (hl : l.length ≤ 64) (hs : ∀ x ∈ l, 0 ≤ x.2.2.1 ∧ x.2.2.1 ≤ 1073741824) (hn : 0 ≤ n ∧ n ≤ 4) (hb : 1 ≤ base ∧ base ≤ 1048576) : F105 [⟨.sl TbT, l⟩, ⟨.int .i64, n⟩, ⟨.int .i64, base⟩] = some [⟨.bool, fullT l n base⟩] := by
  simp only [F105, Fof, ir105]
  unfold fullT
  by_cases h0 : n = 0
  · have e : decide ((4 : Int) ≤ l.length) = decide (4 ≤ l.length) := by rw [decide_eq_decide]; omega
    simp -implicitDefEqProofs [h0, e]
  simp -implicitDefEqProofs [h0]
  refine (iter_meas (fun s : Int × Int => (l.length - s.2).toNat) (fun s => ([⟨.bool, decide (base * 4 ^ (n - 1).toNat < s.1 + sizeT' (l.drop s.2.toNat))⟩] : List D)) (fun s => 0 ≤ s.2 ∧ s.2 ≤ l.length ∧ 0 ≤ s.1 ∧ s.1 ≤ 1073741824 * s.2) (by exact ⟨by simp, by simp, by simp, by simp⟩) ?_).trans (by simp)
  rintro ⟨a, i⟩ ⟨h1, h2, h3, h4⟩
  simp only at h1 h2 h3 h4 ⊢
  by_cases hi : i < l.length
  · rw [dropI h1 hi]
    have g1 := getG (l := l) (d := dflt TbT) h1 (by omega)
    have b1 : 0 ≤ i ∧ i < (l.length : Int) := ⟨h1, hi⟩
    have wi : IntKind.i64.wrap (i + 1) = i + 1 := wi64 _ (by omega) (by omega)
    have hx := hs _ (List.getElem_mem (show i.toNat < l.length by omega))
    generalize hcx : l[i.toNat]'(by omega) = x at *
    have wa : IntKind.i64.wrap (a + x.2.2.1) = a + x.2.2.1 := wi64 _ (by omega) (by omega)
    refine .inl ⟨(a + x.2.2.1, i + 1), ?_, ⟨by (try simp only); omega, by (try simp only); omega, by (try simp only); omega, by (try simp only); omega⟩, by (try simp only); omega, ?_⟩
    · simp -implicitDefEqProofs [hi, b1, g1, hcx, wi, wa]
    · simp [sizeT', Int.add_assoc]
  · refine .inr ?_
    rw [List.drop_eq_nil_of_le (by omega)]
    have hc : n = 1 ∨ n = 2 ∨ n = 3 ∨ n = 4 := by omega
    have L0 : IntKind.i64.wrap 0 = 0 := by decide
    have L1 : IntKind.i64.wrap 1 = 1 := by decide
    have L2 : IntKind.i64.wrap 2 = 2 := by decide
    have L3 : IntKind.i64.wrap 3 = 3 := by decide
    have L4 : IntKind.i64.wrap 4 = 4 := by decide
    have L6 : IntKind.i64.wrap 6 = 6 := by decide
    have w0 : ∀ x : Int, 0 ≤ x → x ≤ 1073741824 → IntKind.i64.wrap x = x := fun x h h' => wi64 _ (by omega) (by omega)
    rcases hc with rfl | rfl | rfl | rfl
    · have e4 : (2 : Int) ^ Nat.min 0 IntKind.i64.bits = 1 := by decide
      have e2 : IntKind.i64.wrap base = base := w0 _ (by omega) (by omega)
      simp -implicitDefEqProofs [hi, sizeT', L0, e2, e4]
    · have e2 : IntKind.i64.wrap (base * 4) = base * 4 := w0 _ (by omega) (by omega)
      have e3 : (2 : Int) ^ Nat.min 2 IntKind.i64.bits = 4 := by decide
      simp -implicitDefEqProofs [hi, sizeT', L0, L1, L2, L3, L4, L6, e2, e3]
    · have e2 : IntKind.i64.wrap (base * 16) = base * 16 := w0 _ (by omega) (by omega)
      have e3 : (2 : Int) ^ Nat.min 4 IntKind.i64.bits = 16 := by decide
      simp -implicitDefEqProofs [hi, sizeT', L0, L1, L2, L3, L4, L6, e2, e3]
    · have e2 : IntKind.i64.wrap (base * 64) = base * 64 := w0 _ (by omega) (by omega)
      have e3 : (2 : Int) ^ Nat.min 6 IntKind.i64.bits = 64 := by decide
      simp -implicitDefEqProofs [hi, sizeT', L0, L1, L2, L3, L4, L6, e2, e3]
theorem s105 {lc : List Ct} (hl0 : look (lc.map fun c => (c.sig.id, c)) 105 = some c105) : ∀ (l : List Tb) (n base : Int) (hl : l.length ≤ 64) (hs : ∀ x ∈ l, 0 ≤ x.2.2.1 ∧ x.2.2.1 ≤ 1073741824) (hn : 0 ≤ n ∧ n ≤ 4) (hb : 1 ≤ base ∧ base ≤ 1048576), Does1 (Phi lc) 105 [⟨.sl TbT, l⟩, ⟨.int .i64, n⟩, ⟨.int .i64, base⟩] [⟨.bool, fullT l n base⟩] :=
  fun l n base hl hs hn hb => by
    have eFc : c105.F = F105 := rfl
    have eFh := f105 l n base hl hs hn hb
    rw [← eFc] at eFh
    exact Does1.of hl0 eFh rfl
theorem f116 (l : List Tb) (n base : Int) (hl : l.length ≤ 64) (hs : ∀ x ∈ l, 0 ≤ x.2.2.1 ∧ x.2.2.1 ≤ 1073741824) (hn : 0 ≤ n ∧ n ≤ 4) (hb : 1 ≤ base ∧ base ≤ 1048576) : F116 [⟨.sl TbT, l⟩, ⟨.int .i64, n⟩, ⟨.int .i64, base⟩] = some [⟨.bool, fullT (ofT n (ordT l)) n base⟩] := by
  have h117 := s117 (lc := [c117]) rfl
  simp only [F116, Fof, ir116]
  generalize Phi [c117] = Φ at *
  have k := h117 l n (by omega)
  have ho : (ofT n (ordT l)).length ≤ 64 := by
    have h1 := List.length_filter_le (fun x : Tb => decide (x.2.1 = n)) (ordT l)
    rw [ordT_len] at h1
    exact Nat.le_trans h1 hl
  have hs' : ∀ x ∈ ofT n (ordT l), 0 ≤ x.2.2.1 ∧ x.2.2.1 ≤ 1073741824 := fun x hx => hs x (ordT_mem.1 (List.mem_filter.1 hx).1)
  clear hs hl
  generalize ofT n (ordT l) = o at *
  unfold fullT
  by_cases h0 : n = 0
  · have e : decide ((4 : Int) ≤ o.length) = decide (4 ≤ o.length) := by rw [decide_eq_decide]; omega
    subst h0
    simp -implicitDefEqProofs [k, e]
  simp -implicitDefEqProofs [h0, k]
  refine (iter_meas (fun s : Int × Int => (o.length - s.2).toNat) (fun s => ([⟨.bool, decide (base * 4 ^ (n - 1).toNat < s.1 + sizeT' (o.drop s.2.toNat))⟩] : List D)) (fun s => 0 ≤ s.2 ∧ s.2 ≤ o.length ∧ 0 ≤ s.1 ∧ s.1 ≤ 1073741824 * s.2) (by exact ⟨by simp, by simp, by simp, by simp⟩) ?_).trans (by simp)
  rintro ⟨a, i⟩ ⟨h1, h2, h3, h4⟩
  simp only at h1 h2 h3 h4 ⊢
  by_cases hi : i < o.length
  · rw [dropI h1 hi]
    have g1 := getG (l := o) (d := dflt TbT) h1 (by omega)
    have b1 : 0 ≤ i ∧ i < (o.length : Int) := ⟨h1, hi⟩
    have wi : IntKind.i64.wrap (i + 1) = i + 1 := wi64 _ (by omega) (by omega)
    have hx := hs' _ (List.getElem_mem (show i.toNat < o.length by omega))
    generalize hcx : o[i.toNat]'(by omega) = x at *
    have wa : IntKind.i64.wrap (a + x.2.2.1) = a + x.2.2.1 := wi64 _ (by omega) (by omega)
    refine .inl ⟨(a + x.2.2.1, i + 1), ?_, ⟨by (try simp only); omega, by (try simp only); omega, by (try simp only); omega, by (try simp only); omega⟩, by (try simp only); omega, ?_⟩
    · simp -implicitDefEqProofs [hi, b1, g1, hcx, wi, wa]
    · simp [sizeT', Int.add_assoc]
  · refine .inr ?_
    rw [List.drop_eq_nil_of_le (by omega)]
    simp -implicitDefEqProofs [hi]
    have hc : n = 1 ∨ n = 2 ∨ n = 3 ∨ n = 4 := by omega
    have L0 : IntKind.i64.wrap 0 = 0 := by decide
    have L1 : IntKind.i64.wrap 1 = 1 := by decide
    have L2 : IntKind.i64.wrap 2 = 2 := by decide
    have L3 : IntKind.i64.wrap 3 = 3 := by decide
    have L4 : IntKind.i64.wrap 4 = 4 := by decide
    have L6 : IntKind.i64.wrap 6 = 6 := by decide
    have w0 : ∀ x : Int, 0 ≤ x → x ≤ 1073741824 → IntKind.i64.wrap x = x := fun x h h' => wi64 _ (by omega) (by omega)
    have wa : ∀ x : Int, 1 ≤ x → x ≤ 5 → IntKind.i64.wrap (x + 1) = x + 1 := fun x h h' => wi64 _ (by omega) (by omega)
    have w1 := w0 (base * 4) (by omega) (by omega)
    have w2 := w0 (base * 4 * 4) (by omega) (by omega)
    have w3 := w0 (base * 4 * 4 * 4) (by omega) (by omega)
    have a1 := wa 1 (by omega) (by omega)
    have a2 := wa 2 (by omega) (by omega)
    have a3 := wa 3 (by omega) (by omega)
    rcases hc with rfl | rfl | rfl | rfl
    · refine iter_out ?_
      simp -implicitDefEqProofs [sizeT']
    · refine (iter_again (s' := (base * 4, 2)) ?_).trans (iter_out ?_)
      · simp -implicitDefEqProofs [w1, L2]
      · simp -implicitDefEqProofs [sizeT']
    · refine (iter_again (s' := (base * 4, 2)) ?_).trans ((iter_again (s' := (base * 4 * 4, 3)) ?_).trans (iter_out ?_))
      · simp -implicitDefEqProofs [w1, L2]
      · simp -implicitDefEqProofs [w2, L3]
      · simp -implicitDefEqProofs [sizeT', Int.mul_assoc]
    · refine (iter_again (s' := (base * 4, 2)) ?_).trans ((iter_again (s' := (base * 4 * 4, 3)) ?_).trans ((iter_again (s' := (base * 4 * 4 * 4, 4)) ?_).trans (iter_out ?_)))
      · simp -implicitDefEqProofs [w1, L2]
      · simp -implicitDefEqProofs [w2, L3]
      · simp -implicitDefEqProofs [w3, L4]
      · simp -implicitDefEqProofs [sizeT', Int.mul_assoc]
theorem s116 {lc : List Ct} (hl0 : look (lc.map fun c => (c.sig.id, c)) 116 = some c116) : ∀ (l : List Tb) (n base : Int) (hl : l.length ≤ 64) (hs : ∀ x ∈ l, 0 ≤ x.2.2.1 ∧ x.2.2.1 ≤ 1073741824) (hn : 0 ≤ n ∧ n ≤ 4) (hb : 1 ≤ base ∧ base ≤ 1048576), Does1 (Phi lc) 116 [⟨.sl TbT, l⟩, ⟨.int .i64, n⟩, ⟨.int .i64, base⟩] [⟨.bool, fullT (ofT n (ordT l)) n base⟩] :=
  fun l n base hl hs hn hb => by
    have eFc : c116.F = F116 := rfl
    have eFh := f116 l n base hl hs hn hb
    rw [← eFc] at eFh
    exact Does1.of hl0 eFh rfl
end Go.Proofs.Ytdjknicjnaiomaa.Sx

set_option maxHeartbeats 4000000
/- Spans; all tables; those that may have a key. -/
namespace Go.Proofs.Ytdjknicjnaiomaa.Sx
attribute [local simp ↓] den_start deb_op deb_ret deb_jump deb_itev deb_itel deb_loop deb_fail deb_nilcv
attribute [local simp] nilE_some opE_some debP_nil debP_cons pushL_nil pushL_cons retE_some iteE_some evB_nil evB_v evB_l lkE_cons consE_some d_int d_bool d_str d_nil o_add o_sub o_mul o_and o_or o_xor o_andNot o_quo o_rem o_shl o_shr o_eql o_neq o_lss o_leq o_gtr o_geq o_seql o_sneq o_slss o_sleq o_sgtr o_sgeq o_beql o_bneq o_scat o_not o_neg o_com o_conv o_s2b o_b2s o_len o_slen o_inb o_idx o_sidx o_sub3 o_sub2 o_ssub3 o_ssub2 o_app o_clr o_appn o_ful o_apps o_mk mkE_some consD_some mkD_zero mkD_int mkD_str mkD_sl o_imin o_imax o_smin o_smax o_eqs eqsE_some eqC_nil andE_some eqC_int eqC_bool eqC_str j1 outE_some outE_none outE_ite agE_1 loopE_1 agE_2 loopE_2 agE_3 loopE_3 agE_4 loopE_4 agE_5 loopE_5 agE_6 loopE_6 agE_7 loopE_7 agE_8 loopE_8 agE_9 loopE_9 List.cons_append List.nil_append List.append_nil split List.take_succ_cons List.take_zero List.drop_succ_cons List.drop_zero

theorem tidy_of_good : ∀ (r pre : List Tb), goodFrom pre r = true → (∀ x ∈ pre, okT x = true) → (∀ x ∈ pre, ∀ y ∈ pre, x = y ∨ clash x y = false) → (∀ x ∈ pre ++ r, okT x = true) ∧ ∀ x ∈ pre ++ r, ∀ y ∈ pre ++ r, x = y ∨ clash x y = false
  | [], pre, _, h1, h2 => ⟨fun x hx => h1 x (by simpa using hx), fun x hx y hy => h2 x (by simpa using hx) y (by simpa using hy)⟩
  | t :: r, pre, h, h1, h2 => by
    simp only [goodFrom, Bool.and_eq_true, Bool.not_eq_true', List.any_eq_false] at h
    obtain ⟨⟨a, b⟩, c⟩ := h
    have hsym : ∀ x y : Tb, clash x y = clash y x := by
      intro x y
      unfold clash meetT
      rw [meetL_comm]
      by_cases e1 : x.1 = y.1
      · simp [e1]
      · have e1' : ¬ y.1 = x.1 := fun e => e1 e.symm
        by_cases e2 : x.2.1 = y.2.1
        · simp [e1, e1', e2]
        · have e2' : ¬ y.2.1 = x.2.1 := fun e => e2 e.symm
          simp [e1, e1', e2, e2']
    have := tidy_of_good r (pre ++ [t]) c (fun x hx => by
      rcases List.mem_append.1 hx with hx | hx
      · exact h1 x hx
      · simp only [List.mem_singleton] at hx; subst hx; exact a) (fun x hx y hy => by
      rcases List.mem_append.1 hx with ux | ux <;> rcases List.mem_append.1 hy with uy | uy
      · exact h2 x ux y uy
      · have e : y = t := by simpa using uy
        rw [e]
        right; rw [hsym]; simpa using b x ux
      · have e : x = t := by simpa using ux
        rw [e]
        right; simpa using b y uy
      · have e : x = t := by simpa using ux
        have e' : y = t := by simpa using uy
        rw [e, e']; exact .inl rfl)
    simpa using this

theorem may_ok {l : List Tb} (h : mayT l = true) : l.length ≤ 64 ∧ (∀ x ∈ l, okT x = true) ∧ ∀ x ∈ l, ∀ y ∈ l, x = y ∨ clash x y = false := by
  simp only [mayT, Bool.and_eq_true, decide_eq_true_eq] at h
  have := tidy_of_good l [] h.2 (by simp) (by simp)
  exact ⟨h.1, by simpa using this⟩

theorem okT_facts {x : Tb} (h : okT x = true) : (1 ≤ x.1 ∧ x.1 ≤ 2147483647) ∧ (0 ≤ x.2.1 ∧ x.2.1 ≤ 4) ∧ (0 ≤ x.2.2.1 ∧ x.2.2.1 ≤ 1073741824) ∧ (x.f ≠ [] ∧ x.f.length ≤ 64 ∧ x.l.length ≤ 64) ∧ (ltL x.f x.l = true ∨ x.f = x.l) := by
  simp only [okT, tabOk, cnt, Bool.and_eq_true, decide_eq_true_eq, Bool.or_eq_true] at h
  exact ⟨h.1.1.1.1, h.1.1.1.2, h.1.1.2, h.1.2, h.2⟩

theorem okT_le {x : Tb} (h : okT x = true) : ltL x.l x.f = false := by
  rcases (okT_facts h).2.2.2.2 with h | h
  · exact (ltL_asymm _ _ h).1
  · rw [h]; exact ltL_irrefl _

theorem may_tidy {l : List Tb} (h : mayT l = true) : tidy l := by
  obtain ⟨h0, h1, h2⟩ := may_ok h
  refine ⟨fun x hx => (okT_facts (h1 x hx)).2.1, fun x hx y hy a b => ?_, by omega⟩
  rcases h2 x hx y hy with e | e
  · exact e
  · exfalso
    simp only [clash, Bool.or_eq_false_iff, decide_eq_false_iff_not] at e
    obtain ⟨e1, e2⟩ := e
    unfold ltT at a b
    by_cases hl : x.2.1 = y.2.1
    · rw [if_pos hl] at a
      rw [if_pos hl.symm] at b
      by_cases h0 : x.2.1 = 0
      · rw [if_pos h0] at a
        rw [if_pos (by omega)] at b
        simp only [decide_eq_false_iff_not] at a b
        omega
      · rw [if_neg h0] at a
        rw [if_neg (by omega)] at b
        have hp : 0 < x.2.1 := by have := (okT_facts (h1 x hx)).2.1; omega
        have hm : meetT x y = false := by
          cases hm : meetT x y with
          | false => rfl
          | true => simp [hp, hl, hm] at e2; omega
        -- both begin alike, so they meet
        have hf : x.f = y.f := Classical.byContradiction fun hne => by
          have := ltL_total _ _ a hne
          rw [b] at this; cases this
        have k1 := okT_le (h1 x hx)
        have k2 := okT_le (h1 y hy)
        simp [meetT, meetL, ← hf, k1] at hm
        rw [← hf] at k2
        rw [k2] at hm; cases hm
    · rw [if_neg hl] at a
      rw [if_neg (fun e => hl e.symm)] at b
      simp only [decide_eq_false_iff_not] at a b
      omega

theorem f103 (l : List Tb) (hl : l.length < 1000000) (ht : tidy l) : F103 [⟨.sl TbT, l⟩] = some [⟨.sl TbT, ordT l⟩] := by
  have h135 := s135 (lc := [c135, c109]) rfl
  have h109 := s109 (lc := [c135, c109]) rfl
  simp only [F103, Fof, ir103]
  generalize Phi [c135, c109] = Φ at *
  have k := h109 l (by omega)
  have k2 := h135 l ht
  simp -implicitDefEqProofs [k, k2]
theorem s103 {lc : List Ct} (hl0 : look (lc.map fun c => (c.sig.id, c)) 103 = some c103) : ∀ (l : List Tb) (hl : l.length < 1000000) (ht : tidy l), Does1 (Phi lc) 103 [⟨.sl TbT, l⟩] [⟨.sl TbT, ordT l⟩] :=
  fun l hl ht => by
    have eFc : c103.F = F103 := rfl
    have eFh := f103 l hl ht
    rw [← eFc] at eFh
    exact Does1.of hl0 eFh rfl
def minS (a b : List Int) : List Int := if ltL a b = true ∨ a = b then a else b
def maxS (a b : List Int) : List Int := if ltL a b = true then b else a
def spanFL (s : List Int × List Int) (l : List Tb) : List Int × List Int := l.foldl (fun s x => (minS s.1 x.f, maxS s.2 x.l)) s
def spanT (l : List Tb) : Tb := match l with
  | [] => dflt TbT
  | x :: r => (x.1, x.2.1, x.2.2.1, (spanFL (x.f, x.l) l).1, (spanFL (x.f, x.l) l).2)

theorem f106 (l : List Tb) (hl : l.length < 1000000) (hn : l ≠ []) : F106 [⟨.sl TbT, l⟩] = some (tbD (spanT l)) := by
  simp only [F106, Fof, ir106]
  cases l with
  | nil => exact absurd rfl hn
  | cons y r =>
  unfold spanT
  simp only
  generalize hll : y :: r = l at *
  have hp : 0 < l.length := by rw [← hll]; simp
  have g0 : l[0]?.getD (dflt TbT) = y := by rw [← hll]; rfl
  have hp' : (0 : Int) < l.length := by omega
  have g0' : l[0]'hp = y := by rw [List.getElem?_eq_getElem hp] at g0; exact g0
  simp -implicitDefEqProofs [hp, hp', g0, g0']
  refine (iter_meas (fun s : Int × List Int × List Int => (l.length - s.1).toNat) (fun s => (tbD (y.1, y.2.1, y.2.2.1, (spanFL s.2 (l.drop s.1.toNat)).1, (spanFL s.2 (l.drop s.1.toNat)).2))) (fun s => 0 ≤ s.1 ∧ s.1 ≤ l.length) (by exact ⟨by simp, by simp⟩) ?_).trans (by simp [Tb.f, Tb.l, g0'])
  rintro ⟨i, a, b⟩ ⟨h1, h2⟩
  simp only at h1 h2 ⊢
  by_cases hi : i < l.length
  · rw [dropI h1 hi]
    have g1 := getG (l := l) (d := dflt TbT) h1 (by omega)
    have b1 : 0 ≤ i ∧ i < (l.length : Int) := ⟨h1, hi⟩
    have wi : IntKind.i64.wrap (i + 1) = i + 1 := wi64 _ (by omega) (by omega)
    generalize hcx : l[i.toNat]'(by omega) = x at *
    refine .inl ⟨(i + 1, minS a x.f, maxS b x.l), ?_, ⟨by (try simp only); omega, by (try simp only); omega⟩, by (try simp only); omega, ?_⟩
    · unfold minS maxS
      simp -implicitDefEqProofs [hi, b1, g1, hcx, wi, Tb.f, Tb.l]
      exact ⟨by congr, by congr⟩
    · simp [spanFL]
  · refine .inr ?_
    rw [List.drop_eq_nil_of_le (by omega)]
    simp -implicitDefEqProofs [hi, spanFL, g0, g0']
theorem s106 {lc : List Ct} (hl0 : look (lc.map fun c => (c.sig.id, c)) 106 = some c106) : ∀ (l : List Tb) (hl : l.length < 1000000) (hn : l ≠ []), Does1 (Phi lc) 106 [⟨.sl TbT, l⟩] (tbD (spanT l)) :=
  fun l hl hn => by
    have eFc : c106.F = F106 := rfl
    have eFh := f106 l hl hn
    rw [← eFc] at eFh
    exact Does1.of hl0 eFh rfl
theorem may_len {l : List Tb} (h : mayT l = true) : l.length ≤ 64 := (may_ok h).1

def lastLvl (l : List Tb) : Int := (l.getLast?.map (·.2.1)).getD 0
theorem f60 (l : List Tb) : F60 [⟨.sl TbT, l⟩] = some [⟨.sl (.int .i64), if mayT l = true then numsT (ordT l) else []⟩, ⟨.int .i64, if mayT l = true ∧ l ≠ [] then max 1 (lastLvl (ordT l)) else 0⟩, ⟨.bool, mayT l && decide (l ≠ [])⟩, ⟨.bool, mayT l && decide (l ≠ [])⟩] := by
  have h58 := s58 (lc := [c58, c103, c113]) rfl
  have h103 := s103 (lc := [c58, c103, c113]) rfl
  have h113 := s113 (lc := [c58, c103, c113]) rfl
  simp only [F60, Fof, ir60]
  generalize Phi [c58, c103, c113] = Φ at *
  have k := h58 l
  cases hm : mayT l <;> rw [hm] at k
  · simp only [Bool.false_eq_true, if_false] at k
    simp -implicitDefEqProofs [k]
  simp only [if_true] at k
  have hl := may_len hm
  by_cases hn : l = []
  · subst hn
    simp -implicitDefEqProofs [k, ordT, numsT]
  have k2 := h103 l (by omega) (may_tidy hm)
  have k3 := h113 (ordT l) (by rw [ordT_len]; omega)
  have ho := ordT_len l
  have hp : 0 < l.length := by cases l with | nil => exact absurd rfl hn | cons => simp
  have hne : ¬ ((l.length : Int) = 0) := by omega
  have hne' : ¬ l.length = 0 := by omega
  generalize ordT l = o at *
  have w : IntKind.i64.wrap ((o.length : Int) - 1) = (o.length : Int) - 1 := wi64 _ (by omega) (by omega)
  have b1 : 0 ≤ (o.length : Int) - 1 ∧ (o.length : Int) - 1 < (o.length : Int) := by omega
  have b2 : 1 ≤ (o.length : Int) := by omega
  have b3 : 1 ≤ o.length := by omega
  have b4 : 0 < o.length := by omega
  have e : (o[o.length - 1]?.getD (dflt TbT)).2.1 = lastLvl o := by
    unfold lastLvl
    rw [List.getLast?_eq_getElem?, List.getElem?_eq_getElem (by omega)]
    rfl
  have e2 : ∀ x : Int, (if 1 < x then x else 1) = max 1 x := by intro x; split <;> omega
  simp -implicitDefEqProofs [k, k2, k3, hn, hne, hne', w, b1, b2, b3, b4, e, e2]
theorem s60 {lc : List Ct} (hl0 : look (lc.map fun c => (c.sig.id, c)) 60 = some c60) : ∀ (l : List Tb), Does1 (Phi lc) 60 [⟨.sl TbT, l⟩] [⟨.sl (.int .i64), if mayT l = true then numsT (ordT l) else []⟩, ⟨.int .i64, if mayT l = true ∧ l ≠ [] then max 1 (lastLvl (ordT l)) else 0⟩, ⟨.bool, mayT l && decide (l ≠ [])⟩, ⟨.bool, mayT l && decide (l ≠ [])⟩] :=
  fun l => by
    have eFc : c60.F = F60 := rfl
    have eFh := f60 l
    rw [← eFc] at eFh
    exact Does1.of hl0 eFh rfl
end Go.Proofs.Ytdjknicjnaiomaa.Sx

set_option maxHeartbeats 8000000
/- What is merged. -/
namespace Go.Proofs.Ytdjknicjnaiomaa.Sx
attribute [local simp ↓] den_start deb_op deb_ret deb_jump deb_itev deb_itel deb_loop deb_fail deb_nilcv
attribute [local simp] nilE_some opE_some debP_nil debP_cons pushL_nil pushL_cons retE_some iteE_some evB_nil evB_v evB_l lkE_cons consE_some d_int d_bool d_str d_nil o_add o_sub o_mul o_and o_or o_xor o_andNot o_quo o_rem o_shl o_shr o_eql o_neq o_lss o_leq o_gtr o_geq o_seql o_sneq o_slss o_sleq o_sgtr o_sgeq o_beql o_bneq o_scat o_not o_neg o_com o_conv o_s2b o_b2s o_len o_slen o_inb o_idx o_sidx o_sub3 o_sub2 o_ssub3 o_ssub2 o_app o_clr o_appn o_ful o_apps o_mk mkE_some consD_some mkD_zero mkD_int mkD_str mkD_sl o_imin o_imax o_smin o_smax o_eqs eqsE_some eqC_nil andE_some eqC_int eqC_bool eqC_str j1 outE_some outE_none outE_ite agE_1 loopE_1 agE_2 loopE_2 agE_3 loopE_3 agE_4 loopE_4 agE_5 loopE_5 agE_6 loopE_6 agE_7 loopE_7 agE_8 loopE_8 agE_9 loopE_9 List.cons_append List.nil_append List.append_nil split List.take_succ_cons List.take_zero List.drop_succ_cons List.drop_zero

def inT (n : Int) (o : List Tb) : List Tb := if 0 < n then (ofT n o).take 1 else ofT n o
def nextT (n : Int) (o : List Tb) : List Tb := (ofT (n + 1) o).filter fun x => meetT x (spanT (inT n o))
def jobIn (n : Int) (o : List Tb) : List Tb := inT n o ++ nextT n o
def dropQ (n : Int) (inn : List Tb) (t : Tb) : Bool := decide (n + 1 < t.2.1) && inn.any (meetT t)
def resN (n : Int) (inn o : List Tb) : List D := [⟨.sl (.int .i64), numsT inn⟩, ⟨.int .i64, n + 1⟩, ⟨.bool, !(o.any (dropQ n inn))⟩, ⟨.bool, true⟩]
def noJob : List D := [⟨.sl (.int .i64), []⟩, ⟨.int .i64, 0⟩, ⟨.bool, false⟩, ⟨.bool, false⟩]
def pickD (o : List Tb) (base : Int) : Nat → Int → List D
  | 0, _ => noJob
  | k + 1, n => if fullT (ofT n o) n base = true then resN n (jobIn n o) o else pickD o base k (n + 1)

theorem full_ne {l : List Tb} {n base : Int} (hb : 1 ≤ base) (h : fullT l n base = true) : l ≠ [] := by
  rintro rfl
  unfold fullT at h
  split at h
  · simp at h
  · have : 0 < (4 : Int) ^ (n - 1).toNat := Int.pow_pos (by omega)
    have h2 : 0 < base * 4 ^ (n - 1).toNat := Int.mul_pos (by omega) this
    simp only [decide_eq_true_eq, sizeT', List.map_nil, List.sum_nil] at h
    omega

theorem pickD_ty (o : List Tb) (base : Int) : ∀ (k : Nat) (n : Int), (pickD o base k n).map (·.t) = [.sl (.int .i64), .int .i64, .bool, .bool]
  | 0, _ => rfl
  | k + 1, n => by
    unfold pickD
    split
    · rfl
    · exact pickD_ty o base k (n + 1)

theorem tail_loop {R : Type} (o inn : List Tb) (n : Int) (wr : List D → R) (st : Int → Option (LS Int R))
    (h : ∀ j : Int, 0 ≤ j → j < o.length → st j = some (if dropQ n inn (o[j.toNat]?.getD (dflt TbT)) = true then .out (wr [⟨.sl (.int .i64), numsT inn⟩, ⟨.int .i64, n + 1⟩, ⟨.bool, false⟩, ⟨.bool, true⟩]) else .again (j + 1)))
    (h' : st o.length = some (.out (wr [⟨.sl (.int .i64), numsT inn⟩, ⟨.int .i64, n + 1⟩, ⟨.bool, true⟩, ⟨.bool, true⟩]))) :
    iter st 0 = some (wr (resN n inn o)) := by
  refine (any_loop (e := TbT) o (dropQ n inn) _ _ st h h').trans ?_
  unfold resN
  cases o.any (dropQ n inn) <;> rfl

theorem f56 (l : List Tb) (base : Int) : F56 [⟨.sl TbT, l⟩, ⟨.int .i64, base⟩] = some (if mayT l = true ∧ 1 ≤ base ∧ base ≤ 1048576 then pickD (ordT l) base 4 0 else noJob) := by
  have h58 := s58 (lc := [c58, c103, c104, c105, c106, c102, c109, c112, c113]) rfl
  have h103 := s103 (lc := [c58, c103, c104, c105, c106, c102, c109, c112, c113]) rfl
  have h104 := s104 (lc := [c58, c103, c104, c105, c106, c102, c109, c112, c113]) rfl
  have h105 := s105 (lc := [c58, c103, c104, c105, c106, c102, c109, c112, c113]) rfl
  have h106 := s106 (lc := [c58, c103, c104, c105, c106, c102, c109, c112, c113]) rfl
  have h102 := s102 (lc := [c58, c103, c104, c105, c106, c102, c109, c112, c113]) rfl
  have h109 := s109 (lc := [c58, c103, c104, c105, c106, c102, c109, c112, c113]) rfl
  have h112 := s112 (lc := [c58, c103, c104, c105, c106, c102, c109, c112, c113]) rfl
  have h113 := s113 (lc := [c58, c103, c104, c105, c106, c102, c109, c112, c113]) rfl
  simp only [F56, Fof, ir56]
  generalize Phi [c58, c103, c104, c105, c106, c102, c109, c112, c113] = Φ at *
  have k := h58 l
  cases hm : mayT l <;> rw [hm] at k
  · simp only [Bool.false_eq_true, if_false] at k
    simp -implicitDefEqProofs [k, noJob]
  simp only [if_true] at k
  by_cases c1 : base < 1
  · have c1' : ¬ 1 ≤ base := by omega
    simp -implicitDefEqProofs [k, c1, c1', noJob]
  by_cases c2 : 1048576 < base
  · have c2' : ¬ base ≤ 1048576 := by omega
    simp -implicitDefEqProofs [k, c1, c2, c2', noJob]
  rw [if_pos ⟨rfl, by omega, by omega⟩]
  have hl := may_len hm
  have k2 := h103 l (by omega) (may_tidy hm)
  have ho := ordT_len l
  have hsz : ∀ x ∈ ordT l, 0 ≤ x.2.2.1 ∧ x.2.2.1 ≤ 1073741824 := fun x hx => (okT_facts ((may_ok hm).2.1 x (ordT_mem.1 hx))).2.2.1
  generalize ordT l = o at *
  simp -implicitDefEqProofs [k, c1, c2, k2]
  refine (iter_meas (s := (0 : Int)) (fun n : Int => (4 - n).toNat) (fun n => pickD o base (4 - n).toNat n) (fun n => 0 ≤ n ∧ n ≤ 4) (by exact ⟨by omega, by omega⟩) ?_).trans rfl
  rintro n ⟨n1, n2⟩
  by_cases hn : n < 4
  rotate_left
  · refine .inr ?_
    have e : (4 - n).toNat = 0 := by omega
    rw [e]
    simp -implicitDefEqProofs [hn, pickD, noJob]
  have e4 : (4 - n).toNat = (4 - (n + 1)).toNat + 1 := by omega
  rw [e4, pickD]
  have wn : IntKind.i64.wrap (n + 1) = n + 1 := wi64 _ (by omega) (by omega)
  have kof := h104 o n (by omega)
  have kof' := h104 o (n + 1) (by omega)
  have l1 : (ofT n o).length ≤ 64 := by have := List.length_filter_le (fun x : Tb => decide (x.2.1 = n)) o; unfold ofT; omega
  have l2 : (ofT (n + 1) o).length ≤ 64 := by have := List.length_filter_le (fun x : Tb => decide (x.2.1 = n + 1)) o; unfold ofT; omega
  have hsz' : ∀ x ∈ ofT n o, 0 ≤ x.2.2.1 ∧ x.2.2.1 ≤ 1073741824 := fun x hx => hsz x (List.mem_filter.1 hx).1
  have kful := h105 (ofT n o) n base l1 hsz' (by omega) (by omega)
  cases hf : fullT (ofT n o) n base <;> rw [hf] at kful
  · refine .inl ⟨n + 1, ?_, ⟨by omega, by omega⟩, by omega, by simp⟩
    simp -implicitDefEqProofs [hn, kof, kful, wn]
  refine .inr ?_
  have hne := full_ne (by omega) hf
  rw [if_pos rfl]
  by_cases h0 : 0 < n
  · have hin : inT n o = (ofT n o).take 1 := if_pos h0
    have hine : (ofT n o).take 1 ≠ [] := by
      cases hq : ofT n o with
      | nil => exact absurd hq hne
      | cons => simp
    have hil : ((ofT n o).take 1).length ≤ 64 := by rw [List.length_take]; omega
    have e106 := h106 ((ofT n o).take 1) (by omega) hine
    have hp0 : 0 < (ofT n o).length := List.length_pos_iff.2 hne
    have hp1 : (0 : Int) ≤ 1 ∧ (1 : Int) ≤ ((ofT n o).length : Int) := by omega
    have hp2 : 0 < (ofT n o).length := by omega
    have hp3 : 1 ≤ (ofT n o).length := by omega
    have hres : resN n (jobIn n o) o = resN n ((ofT n o).take 1 ++ (ofT (n + 1) o).filter (fun x => !(!meetT x (spanT ((ofT n o).take 1))))) o := by simp [jobIn, nextT, hin]
    simp -implicitDefEqProofs [hn, kof, kful, h0, wn, kof', hp1, hp2, hp3, e106]
    clear kful kof kof' hsz' hne hf
    generalize spanT ((ofT n o).take 1) = al at *
    generalize (ofT n o).take 1 = inn at *
    generalize ofT (n + 1) o = nx at *
    have e109 := h109 inn (by omega)
    refine (first_loop (e := TbT) nx (fun x => !meetT x al) (fun l => (.out (resN n (inn ++ l) o) : LS Int (List D))) _ ?_ ?_ ?_).trans ?_
    rotate_right
    · rw [hres]
    · intro j j1 hj hp
      have b1 : 0 ≤ j ∧ j < (nx.length : Int) := ⟨j1, hj⟩
      have wj : IntKind.i64.wrap (j + 1) = j + 1 := wi64 _ (by omega) (by omega)
      have g := getG (l := nx) (d := dflt TbT) j1 hj
      rw [g] at hp
      generalize hcx : nx[j.toNat]'(by omega) = x at *
      have hp' : meetT x al = true := by simpa using hp
      have e102 : Does1 Φ 102 [⟨.int .i64, x.1⟩, ⟨.int .i64, x.2.1⟩, ⟨.int .i64, x.2.2.1⟩, ⟨.str, x.2.2.2.1⟩, ⟨.str, x.2.2.2.2⟩, ⟨.int .i64, al.1⟩, ⟨.int .i64, al.2.1⟩, ⟨.int .i64, al.2.2.1⟩, ⟨.str, al.2.2.2.1⟩, ⟨.str, al.2.2.2.2⟩] [⟨.bool, meetT x al⟩] := h102 _ _ _ _ _ _ _ _ _ _
      rw [hp'] at e102
      simp -implicitDefEqProofs [hj, b1, g, hcx, e102, wj]
    · intro j j1 hj hp _
      have b1 : 0 ≤ j ∧ j < (nx.length : Int) := ⟨j1, hj⟩
      have wj : IntKind.i64.wrap (j + 1) = j + 1 := wi64 _ (by omega) (by omega)
      have hm : ¬ j = -1 := by omega
      have g := getG (l := nx) (d := dflt TbT) j1 hj
      rw [g] at hp
      generalize hcx : nx[j.toNat]'(by omega) = x at *
      have hp' : meetT x al = false := by simpa using hp
      have e102 : Does1 Φ 102 [⟨.int .i64, x.1⟩, ⟨.int .i64, x.2.1⟩, ⟨.int .i64, x.2.2.1⟩, ⟨.str, x.2.2.2.1⟩, ⟨.str, x.2.2.2.2⟩, ⟨.int .i64, al.1⟩, ⟨.int .i64, al.2.1⟩, ⟨.int .i64, al.2.2.1⟩, ⟨.str, al.2.2.2.1⟩, ⟨.str, al.2.2.2.2⟩] [⟨.bool, meetT x al⟩] := h102 _ _ _ _ _ _ _ _ _ _
      rw [hp'] at e102
      simp -implicitDefEqProofs [hj, b1, g, hcx, e102, wj, hm]
      refine (move_loop (e := TbT) (fun x => !meetT x al) (fun l => (.out (.out (resN n (inn ++ l) o)) : LS Int (LS Int (List D)))) nx.length j (j + 1) nx _ ⟨j1, by omega, by omega, rfl⟩ ?_ ?_).trans (by rw [show (j + 1).toNat = j.toNat + 1 by omega]; simp)
      · clear hcx g
        intro i j xs i1 i2 i3 i4
        have b1 : 0 ≤ j ∧ j < (xs.length : Int) := by omega
        have hj : j < (xs.length : Int) := by omega
        have b2 : 0 ≤ i ∧ i < (xs.length : Int) := by omega
        have wj : IntKind.i64.wrap (j + 1) = j + 1 := wi64 _ (by omega) (by omega)
        have wi : IntKind.i64.wrap (i + 1) = i + 1 := wi64 _ (by omega) (by omega)
        have g := getG (l := xs) (i := j) (d := dflt TbT) (by omega) (by omega)
        rw [g]
        generalize hcx : xs[j.toNat]'(by omega) = x at *
        have e102 : Does1 Φ 102 [⟨.int .i64, x.1⟩, ⟨.int .i64, x.2.1⟩, ⟨.int .i64, x.2.2.1⟩, ⟨.str, x.2.2.2.1⟩, ⟨.str, x.2.2.2.2⟩, ⟨.int .i64, al.1⟩, ⟨.int .i64, al.2.1⟩, ⟨.int .i64, al.2.2.1⟩, ⟨.str, al.2.2.2.1⟩, ⟨.str, al.2.2.2.2⟩] [⟨.bool, meetT x al⟩] := h102 _ _ _ _ _ _ _ _ _ _
        cases hp : meetT x al <;> rw [hp] at e102 <;> simp -implicitDefEqProofs [hj, b1, b2, g, hcx, e102, wj, wi]
      · intro i xs i1 i2 i4
        have hj : ¬ (nx.length : Int) < (xs.length : Int) := by omega
        have b2 : 0 ≤ i ∧ i ≤ (xs.length : Int) := by omega
        have hm : min i.toNat xs.length = i.toNat := by omega
        have hc : i ≤ max i 0 + ((xs.length - i.toNat : Nat) : Int) := by omega
        have hb : inn.length + i.toNat ≤ BIG := by simp only [BIG]; omega
        have htl : (xs.take i.toNat).length ≤ 64 := by rw [List.length_take]; omega
        simp -implicitDefEqProofs [hj, b2, hm, hc, e109, hb]
        generalize xs.take i.toNat = nz at *
        refine tail_loop o (inn ++ nz) n (fun r => (.out (.out (.out r)) : LS (Int × Int × List Tb) (LS Int (LS Int (List D))))) _ ?_ ?_
        rotate_left
        · have e113 := h113 (inn ++ nz) (by simp only [List.length_append]; omega)
          simp -implicitDefEqProofs [wn, e113]
        intro j j1 hj
        have b1 : 0 ≤ j ∧ j < (o.length : Int) := ⟨j1, hj⟩
        have wj : IntKind.i64.wrap (j + 1) = j + 1 := wi64 _ (by omega) (by omega)
        have g := getG (l := o) (d := dflt TbT) j1 hj
        rw [g]
        generalize hcx : o[j.toNat]'(by omega) = t at *
        have e112 : Does1 Φ 112 [⟨.int .i64, t.1⟩, ⟨.int .i64, t.2.1⟩, ⟨.int .i64, t.2.2.1⟩, ⟨.str, t.2.2.2.1⟩, ⟨.str, t.2.2.2.2⟩, ⟨.sl TbT, inn ++ nz⟩] [⟨.bool, (inn ++ nz).any (meetT t)⟩] := h112 _ _ _ _ _ _ (by simp only [List.length_append]; omega)
        have e113 := h113 (inn ++ nz) (by simp only [List.length_append]; omega)
        unfold dropQ
        by_cases hq : n + 1 < t.2.1
        · cases ha : (inn ++ nz).any (meetT t) <;> rw [ha] at e112 <;> simp -implicitDefEqProofs [hj, b1, g, hcx, wj, wn, hq, e112, e113, j1]
        · simp -implicitDefEqProofs [hj, b1, g, hcx, wj, wn, hq]
    · intro _
      have hb : inn.length + nx.length ≤ BIG := by simp only [BIG]; omega
      simp -implicitDefEqProofs [e109, hb]
      refine tail_loop o (inn ++ nx) n (fun r => (.out (.out r) : LS Int (LS Int (List D)))) _ ?_ ?_
      rotate_left
      · have e113 := h113 (inn ++ nx) (by simp only [List.length_append]; omega)
        simp -implicitDefEqProofs [wn, e113]
      intro j j1 hj
      have b1 : 0 ≤ j ∧ j < (o.length : Int) := ⟨j1, hj⟩
      have wj : IntKind.i64.wrap (j + 1) = j + 1 := wi64 _ (by omega) (by omega)
      have g := getG (l := o) (d := dflt TbT) j1 hj
      rw [g]
      generalize hcx : o[j.toNat]'(by omega) = t at *
      have e112 : Does1 Φ 112 [⟨.int .i64, t.1⟩, ⟨.int .i64, t.2.1⟩, ⟨.int .i64, t.2.2.1⟩, ⟨.str, t.2.2.2.1⟩, ⟨.str, t.2.2.2.2⟩, ⟨.sl TbT, inn ++ nx⟩] [⟨.bool, (inn ++ nx).any (meetT t)⟩] := h112 _ _ _ _ _ _ (by simp only [List.length_append]; omega)
      have e113 := h113 (inn ++ nx) (by simp only [List.length_append]; omega)
      unfold dropQ
      by_cases hq : n + 1 < t.2.1
      · cases ha : (inn ++ nx).any (meetT t) <;> rw [ha] at e112 <;> simp -implicitDefEqProofs [hj, b1, g, hcx, wj, wn, hq, e112, e113, j1]
      · simp -implicitDefEqProofs [hj, b1, g, hcx, wj, wn, hq]
  · have hin : inT n o = ofT n o := if_neg h0
    have e106 := h106 (ofT n o) (by omega) hne
    have hres : resN n (jobIn n o) o = resN n (ofT n o ++ (ofT (n + 1) o).filter (fun x => !(!meetT x (spanT (ofT n o))))) o := by simp [jobIn, nextT, hin]
    simp -implicitDefEqProofs [hn, kof, kful, h0, wn, kof', e106]
    clear kful kof kof' hsz' hf
    generalize spanT (ofT n o) = al at *
    generalize ofT n o = inn at *
    generalize ofT (n + 1) o = nx at *
    have e109 := h109 inn (by omega)
    refine (first_loop (e := TbT) nx (fun x => !meetT x al) (fun l => (.out (resN n (inn ++ l) o) : LS Int (List D))) _ ?_ ?_ ?_).trans ?_
    rotate_right
    · rw [hres]
    · intro j j1 hj hp
      have b1 : 0 ≤ j ∧ j < (nx.length : Int) := ⟨j1, hj⟩
      have wj : IntKind.i64.wrap (j + 1) = j + 1 := wi64 _ (by omega) (by omega)
      have g := getG (l := nx) (d := dflt TbT) j1 hj
      rw [g] at hp
      generalize hcx : nx[j.toNat]'(by omega) = x at *
      have hp' : meetT x al = true := by simpa using hp
      have e102 : Does1 Φ 102 [⟨.int .i64, x.1⟩, ⟨.int .i64, x.2.1⟩, ⟨.int .i64, x.2.2.1⟩, ⟨.str, x.2.2.2.1⟩, ⟨.str, x.2.2.2.2⟩, ⟨.int .i64, al.1⟩, ⟨.int .i64, al.2.1⟩, ⟨.int .i64, al.2.2.1⟩, ⟨.str, al.2.2.2.1⟩, ⟨.str, al.2.2.2.2⟩] [⟨.bool, meetT x al⟩] := h102 _ _ _ _ _ _ _ _ _ _
      rw [hp'] at e102
      simp -implicitDefEqProofs [hj, b1, g, hcx, e102, wj]
    · intro j j1 hj hp _
      have b1 : 0 ≤ j ∧ j < (nx.length : Int) := ⟨j1, hj⟩
      have wj : IntKind.i64.wrap (j + 1) = j + 1 := wi64 _ (by omega) (by omega)
      have hm : ¬ j = -1 := by omega
      have g := getG (l := nx) (d := dflt TbT) j1 hj
      rw [g] at hp
      generalize hcx : nx[j.toNat]'(by omega) = x at *
      have hp' : meetT x al = false := by simpa using hp
      have e102 : Does1 Φ 102 [⟨.int .i64, x.1⟩, ⟨.int .i64, x.2.1⟩, ⟨.int .i64, x.2.2.1⟩, ⟨.str, x.2.2.2.1⟩, ⟨.str, x.2.2.2.2⟩, ⟨.int .i64, al.1⟩, ⟨.int .i64, al.2.1⟩, ⟨.int .i64, al.2.2.1⟩, ⟨.str, al.2.2.2.1⟩, ⟨.str, al.2.2.2.2⟩] [⟨.bool, meetT x al⟩] := h102 _ _ _ _ _ _ _ _ _ _
      rw [hp'] at e102
      simp -implicitDefEqProofs [hj, b1, g, hcx, e102, wj, hm]
      refine (move_loop (e := TbT) (fun x => !meetT x al) (fun l => (.out (.out (resN n (inn ++ l) o)) : LS Int (LS Int (List D)))) nx.length j (j + 1) nx _ ⟨j1, by omega, by omega, rfl⟩ ?_ ?_).trans (by rw [show (j + 1).toNat = j.toNat + 1 by omega]; simp)
      · clear hcx g
        intro i j xs i1 i2 i3 i4
        have b1 : 0 ≤ j ∧ j < (xs.length : Int) := by omega
        have hj : j < (xs.length : Int) := by omega
        have b2 : 0 ≤ i ∧ i < (xs.length : Int) := by omega
        have wj : IntKind.i64.wrap (j + 1) = j + 1 := wi64 _ (by omega) (by omega)
        have wi : IntKind.i64.wrap (i + 1) = i + 1 := wi64 _ (by omega) (by omega)
        have g := getG (l := xs) (i := j) (d := dflt TbT) (by omega) (by omega)
        rw [g]
        generalize hcx : xs[j.toNat]'(by omega) = x at *
        have e102 : Does1 Φ 102 [⟨.int .i64, x.1⟩, ⟨.int .i64, x.2.1⟩, ⟨.int .i64, x.2.2.1⟩, ⟨.str, x.2.2.2.1⟩, ⟨.str, x.2.2.2.2⟩, ⟨.int .i64, al.1⟩, ⟨.int .i64, al.2.1⟩, ⟨.int .i64, al.2.2.1⟩, ⟨.str, al.2.2.2.1⟩, ⟨.str, al.2.2.2.2⟩] [⟨.bool, meetT x al⟩] := h102 _ _ _ _ _ _ _ _ _ _
        cases hp : meetT x al <;> rw [hp] at e102 <;> simp -implicitDefEqProofs [hj, b1, b2, g, hcx, e102, wj, wi]
      · intro i xs i1 i2 i4
        have hj : ¬ (nx.length : Int) < (xs.length : Int) := by omega
        have b2 : 0 ≤ i ∧ i ≤ (xs.length : Int) := by omega
        have hm : min i.toNat xs.length = i.toNat := by omega
        have hc : i ≤ max i 0 + ((xs.length - i.toNat : Nat) : Int) := by omega
        have hb : inn.length + i.toNat ≤ BIG := by simp only [BIG]; omega
        have htl : (xs.take i.toNat).length ≤ 64 := by rw [List.length_take]; omega
        simp -implicitDefEqProofs [hj, b2, hm, hc, e109, hb]
        generalize xs.take i.toNat = nz at *
        refine tail_loop o (inn ++ nz) n (fun r => (.out (.out (.out r)) : LS (Int × Int × List Tb) (LS Int (LS Int (List D))))) _ ?_ ?_
        rotate_left
        · have e113 := h113 (inn ++ nz) (by simp only [List.length_append]; omega)
          simp -implicitDefEqProofs [wn, e113]
        intro j j1 hj
        have b1 : 0 ≤ j ∧ j < (o.length : Int) := ⟨j1, hj⟩
        have wj : IntKind.i64.wrap (j + 1) = j + 1 := wi64 _ (by omega) (by omega)
        have g := getG (l := o) (d := dflt TbT) j1 hj
        rw [g]
        generalize hcx : o[j.toNat]'(by omega) = t at *
        have e112 : Does1 Φ 112 [⟨.int .i64, t.1⟩, ⟨.int .i64, t.2.1⟩, ⟨.int .i64, t.2.2.1⟩, ⟨.str, t.2.2.2.1⟩, ⟨.str, t.2.2.2.2⟩, ⟨.sl TbT, inn ++ nz⟩] [⟨.bool, (inn ++ nz).any (meetT t)⟩] := h112 _ _ _ _ _ _ (by simp only [List.length_append]; omega)
        have e113 := h113 (inn ++ nz) (by simp only [List.length_append]; omega)
        unfold dropQ
        by_cases hq : n + 1 < t.2.1
        · cases ha : (inn ++ nz).any (meetT t) <;> rw [ha] at e112 <;> simp -implicitDefEqProofs [hj, b1, g, hcx, wj, wn, hq, e112, e113, j1]
        · simp -implicitDefEqProofs [hj, b1, g, hcx, wj, wn, hq]
    · intro _
      have hb : inn.length + nx.length ≤ BIG := by simp only [BIG]; omega
      simp -implicitDefEqProofs [e109, hb]
      refine tail_loop o (inn ++ nx) n (fun r => (.out (.out r) : LS Int (LS Int (List D)))) _ ?_ ?_
      rotate_left
      · have e113 := h113 (inn ++ nx) (by simp only [List.length_append]; omega)
        simp -implicitDefEqProofs [wn, e113]
      intro j j1 hj
      have b1 : 0 ≤ j ∧ j < (o.length : Int) := ⟨j1, hj⟩
      have wj : IntKind.i64.wrap (j + 1) = j + 1 := wi64 _ (by omega) (by omega)
      have g := getG (l := o) (d := dflt TbT) j1 hj
      rw [g]
      generalize hcx : o[j.toNat]'(by omega) = t at *
      have e112 : Does1 Φ 112 [⟨.int .i64, t.1⟩, ⟨.int .i64, t.2.1⟩, ⟨.int .i64, t.2.2.1⟩, ⟨.str, t.2.2.2.1⟩, ⟨.str, t.2.2.2.2⟩, ⟨.sl TbT, inn ++ nx⟩] [⟨.bool, (inn ++ nx).any (meetT t)⟩] := h112 _ _ _ _ _ _ (by simp only [List.length_append]; omega)
      have e113 := h113 (inn ++ nx) (by simp only [List.length_append]; omega)
      unfold dropQ
      by_cases hq : n + 1 < t.2.1
      · cases ha : (inn ++ nx).any (meetT t) <;> rw [ha] at e112 <;> simp -implicitDefEqProofs [hj, b1, g, hcx, wj, wn, hq, e112, e113, j1]
      · simp -implicitDefEqProofs [hj, b1, g, hcx, wj, wn, hq]
theorem s56 {lc : List Ct} (hl0 : look (lc.map fun c => (c.sig.id, c)) 56 = some c56) : ∀ (l : List Tb) (base : Int), Does1 (Phi lc) 56 [⟨.sl TbT, l⟩, ⟨.int .i64, base⟩] (if mayT l = true ∧ 1 ≤ base ∧ base ≤ 1048576 then pickD (ordT l) base 4 0 else noJob) :=
  fun l base => by
    have eFc : c56.F = F56 := rfl
    have eFh := f56 l base
    rw [← eFc] at eFh
    exact Does1.of hl0 eFh (by split; exact pickD_ty _ _ _ _; rfl)
end Go.Proofs.Ytdjknicjnaiomaa.Sx
