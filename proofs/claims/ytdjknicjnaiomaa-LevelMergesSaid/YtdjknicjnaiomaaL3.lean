/-
  What the reference merges, and what the laws of level answer.
-/
import Derived.Test.YtdjknicjnaiomaaL2
set_option linter.unusedVariables false
set_option linter.unusedSimpArgs false
set_option maxHeartbeats 8000000
/- What the reference merges. -/
namespace Go.Proofs.Ytdjknicjnaiomaa.Sx
attribute [local simp ↓] den_start deb_op deb_ret deb_jump deb_itev deb_itel deb_loop deb_fail deb_nilcv
attribute [local simp] nilE_some opE_some debP_nil debP_cons pushL_nil pushL_cons retE_some iteE_some evB_nil evB_v evB_l lkE_cons consE_some d_int d_bool d_str d_nil o_add o_sub o_mul o_and o_or o_xor o_andNot o_quo o_rem o_shl o_shr o_eql o_neq o_lss o_leq o_gtr o_geq o_seql o_sneq o_slss o_sleq o_sgtr o_sgeq o_beql o_bneq o_scat o_not o_neg o_com o_conv o_s2b o_b2s o_len o_slen o_inb o_idx o_sidx o_sub3 o_sub2 o_ssub3 o_ssub2 o_app o_clr o_appn o_ful o_apps o_mk mkE_some consD_some mkD_zero mkD_int mkD_str mkD_sl o_imin o_imax o_smin o_smax o_eqs eqsE_some eqC_nil andE_some eqC_int eqC_bool eqC_str j1 outE_some outE_none outE_ite agE_1 loopE_1 agE_2 loopE_2 agE_3 loopE_3 agE_4 loopE_4 agE_5 loopE_5 agE_6 loopE_6 agE_7 loopE_7 agE_8 loopE_8 agE_9 loopE_9 List.cons_append List.nil_append List.append_nil split List.take_succ_cons List.take_zero List.drop_succ_cons List.drop_zero

theorem minS_lt {a b : List Int} (h : ltL b a = true) : minS a b = b := by
  have := ltL_asymm _ _ h
  unfold minS
  rw [if_neg]
  rintro (h1 | h1)
  · rw [this.1] at h1; cases h1
  · exact this.2 h1
theorem minS_ge {a b : List Int} (h : ltL b a = false) : minS a b = a := by
  unfold minS
  by_cases e : a = b
  · rw [if_pos (.inr e)]
  · rw [if_pos (.inl (ltL_total _ _ h (Ne.symm e)))]
theorem maxS_gt {a b : List Int} (h : ¬ (ltL b a = true ∨ b = a)) : maxS a b = b := by
  unfold maxS
  rw [if_pos]
  refine ltL_total _ _ ?_ (fun e => h (.inr e))
  cases hq : ltL b a with
  | false => rfl
  | true => exact absurd (.inl hq) h
theorem maxS_le {a b : List Int} (h : ltL b a = true ∨ b = a) : maxS a b = a := by
  unfold maxS
  rcases h with h | h
  · rw [(ltL_asymm _ _ h).1]; rfl
  · rw [h, ltL_irrefl]; rfl

theorem span_eq {inn : List Tb} {y : Tb} (h : inn ≠ []) (hy : inn[0]?.getD (dflt TbT) = y) : spanFL (y.2.2.2.1, y.2.2.2.2) inn = ((spanT inn).2.2.2.1, (spanT inn).2.2.2.2) := by
  cases inn with
  | nil => exact absurd rfl h
  | cons x r => simp only [List.getElem?_cons_zero, Option.getD_some] at hy; subst hy; rfl

def refN (n : Int) (inn o : List Tb) : List D := [⟨.sl (.int .i64), numsT inn⟩, ⟨.int .i64, n + 1⟩, ⟨.bool, !(o.any (dropQ n inn))⟩]
def refD (o : List Tb) (base : Int) : Nat → Int → List D
  | 0, _ => [⟨.sl (.int .i64), []⟩, ⟨.int .i64, 0⟩, ⟨.bool, false⟩]
  | k + 1, n => if fullT (ofT n o) n base = true then refN n (jobIn n o) o else refD o base k (n + 1)
theorem refD_ty (o : List Tb) (base : Int) : ∀ (k : Nat) (n : Int), (refD o base k n).map (·.t) = [.sl (.int .i64), .int .i64, .bool]
  | 0, _ => rfl
  | k + 1, n => by
    unfold refD
    split
    · rfl
    · exact refD_ty o base k (n + 1)

theorem any_ord (l : List Tb) (q : Tb → Bool) : (ordT l).any q = l.any q := by
  rw [Bool.eq_iff_iff, List.any_eq_true, List.any_eq_true]
  exact ⟨fun ⟨x, h1, h2⟩ => ⟨x, ordT_mem.1 h1, h2⟩, fun ⟨x, h1, h2⟩ => ⟨x, ordT_mem.2 h1, h2⟩⟩

theorem f61 (l : List Tb) (base : Int) (hm : mayT l = true) (hb : 1 ≤ base ∧ base ≤ 1048576) : F61 [⟨.sl TbT, l⟩, ⟨.int .i64, base⟩] = some (refD (ordT l) base 4 0) := by
  have h116 := s116 (lc := [c116, c117, c101, c63, c118]) rfl
  have h117 := s117 (lc := [c116, c117, c101, c63, c118]) rfl
  have h101 := s101 (lc := [c116, c117, c101, c63, c118]) rfl
  have h63 := s63 (lc := [c116, c117, c101, c63, c118]) rfl
  have h118 := s118 (lc := [c116, c117, c101, c63, c118]) rfl
  simp only [F61, Fof, ir61]
  generalize Phi [c116, c117, c101, c63, c118] = Φ at *
  have hl := may_len hm
  have ho := ordT_len l
  have hsz : ∀ x ∈ l, 0 ≤ x.2.2.1 ∧ x.2.2.1 ≤ 1073741824 := fun x hx => (okT_facts ((may_ok hm).2.1 x hx)).2.2.1
  have hany := any_ord l
  simp -implicitDefEqProofs []
  refine (iter_meas (s := (0 : Int)) (fun n : Int => (4 - n).toNat) (fun n => refD (ordT l) base (4 - n).toNat n) (fun n => 0 ≤ n ∧ n ≤ 4) (by exact ⟨by omega, by omega⟩) ?_).trans rfl
  rintro n ⟨n1, n2⟩
  by_cases hn : n < 4
  rotate_left
  · refine .inr ?_
    have e : (4 - n).toNat = 0 := by omega
    have e4 : n = 4 := by omega
    rw [e]
    subst e4
    simp -implicitDefEqProofs [refD]
  have e4 : (4 - n).toNat = (4 - (n + 1)).toNat + 1 := by omega
  have hn4 : ¬ n = 4 := by omega
  rw [e4, refD]
  have wn : IntKind.i64.wrap (n + 1) = n + 1 := wi64 _ (by omega) (by omega)
  have kof := h117 l n (by omega)
  have kof' := h117 l (n + 1) (by omega)
  have kful := h116 l n base hl hsz (by omega) hb
  cases hf : fullT (ofT n (ordT l)) n base <;> rw [hf] at kful
  · refine .inl ⟨n + 1, ?_, ⟨by omega, by omega⟩, by omega, by simp⟩
    simp -implicitDefEqProofs [hn, kof, kful, wn]
  refine .inr ?_
  have hne := full_ne (by omega) hf
  rw [if_pos rfl]
  have hrn : refN n (jobIn n (ordT l)) (ordT l) = refN n (jobIn n (ordT l)) l := by unfold refN; rw [hany]
  rw [hrn]
  unfold jobIn nextT
  generalize ordT l = o at *
  have l1 : (ofT n o).length ≤ 64 := by have := List.length_filter_le (fun x : Tb => decide (x.2.1 = n)) o; unfold ofT; omega
  have l2 : (ofT (n + 1) o).length ≤ 64 := by have := List.length_filter_le (fun x : Tb => decide (x.2.1 = n + 1)) o; unfold ofT; omega
  by_cases h0 : 0 < n
  · have hin : inT n o = (ofT n o).take 1 := if_pos h0
    rw [hin]
    obtain ⟨inn, hinn⟩ : ∃ T, (ofT n o).take 1 = T := ⟨_, rfl⟩
    have hp0 : 0 < (ofT n o).length := List.length_pos_iff.2 hne
    have hp1 : (0 : Int) ≤ 1 ∧ (1 : Int) ≤ ((ofT n o).length : Int) := by omega
    have hp2 : 1 ≤ (ofT n o).length := by omega
    have hil : inn.length ≤ 64 := by rw [← hinn, List.length_take]; omega
    have hp3 : 0 < inn.length := by rw [← hinn, List.length_take]; omega
    have hp4 : (0 : Int) < inn.length := by omega
    obtain ⟨y, g0⟩ : ∃ y, inn[0]?.getD (dflt TbT) = y := ⟨_, rfl⟩
    have g0' : inn[0]'hp3 = y := by rw [List.getElem?_eq_getElem hp3] at g0; exact g0
    have hsp := span_eq (List.length_pos_iff.1 hp3) g0
    rw [hinn]
    simp -implicitDefEqProofs [hn, hn4, kof, kful, h0, wn, kof', hp1, hp2, hp3, hp4, hinn, g0, g0']
    clear kful kof hne hf l1 g0 g0' hp1 hp2 hin hinn hp0 hp3 hp4
    generalize spanT inn = al at *
    generalize ofT (n + 1) o = nx at *
    refine iter_meas (s := ((0 : Int), y.2.2.2.1, y.2.2.2.2)) (fun s : Int × List Int × List Int => (inn.length - s.1).toNat) (fun s => (.out (refN n (inn ++ nx.filter (fun x => meetT x al)) l) : LS Int (List D))) (fun s => 0 ≤ s.1 ∧ s.1 ≤ inn.length ∧ spanFL s.2 (inn.drop s.1.toNat) = (al.2.2.2.1, al.2.2.2.2)) (by exact ⟨by simp, by simp, by simpa using hsp⟩) ?_
    rintro ⟨i, a, b⟩ ⟨h1, h2, h3⟩
    simp only at h1 h2 h3 ⊢
    by_cases hi : i < inn.length
    · rw [dropI h1 hi] at h3
      have g1 := getG (l := inn) (d := dflt TbT) h1 (by omega)
      have b1 : 0 ≤ i ∧ i < (inn.length : Int) := ⟨h1, hi⟩
      have wi : IntKind.i64.wrap (i + 1) = i + 1 := wi64 _ (by omega) (by omega)
      generalize hcx : inn[i.toNat]'(by omega) = x at *
      have h3' : spanFL (minS a x.2.2.2.1, maxS b x.2.2.2.2) (inn.drop (i + 1).toNat) = (al.2.2.2.1, al.2.2.2.2) := h3
      refine .inl ⟨(i + 1, minS a x.2.2.2.1, maxS b x.2.2.2.2), ?_, ⟨by (try simp only); omega, by (try simp only); omega, h3'⟩, by (try simp only); omega, by first | trivial | rfl⟩
      by_cases q1 : ltL x.2.2.2.1 a = true
      · rw [minS_lt q1]
        by_cases q2 : ltL x.2.2.2.2 b = true
        · rw [maxS_le (.inl q2)]
          simp -implicitDefEqProofs [hi, b1, g1, hcx, wi, q1, q2]
        · have q2' : ltL x.2.2.2.2 b = false := by simpa using q2
          by_cases q3 : x.2.2.2.2 = b
          · rw [maxS_le (.inr q3)]
            simp -implicitDefEqProofs [hi, b1, g1, hcx, wi, q1, q2', q3]
          · rw [maxS_gt (fun h => h.elim q2 q3)]
            simp -implicitDefEqProofs [hi, b1, g1, hcx, wi, q1, q2', q3]
      · have q1' : ltL x.2.2.2.1 a = false := by simpa using q1
        rw [minS_ge q1']
        by_cases q2 : ltL x.2.2.2.2 b = true
        · rw [maxS_le (.inl q2)]
          simp -implicitDefEqProofs [hi, b1, g1, hcx, wi, q1', q2]
        · have q2' : ltL x.2.2.2.2 b = false := by simpa using q2
          by_cases q3 : x.2.2.2.2 = b
          · rw [maxS_le (.inr q3)]
            simp -implicitDefEqProofs [hi, b1, g1, hcx, wi, q1', q2', q3]
          · rw [maxS_gt (fun h => h.elim q2 q3)]
            simp -implicitDefEqProofs [hi, b1, g1, hcx, wi, q1', q2', q3]
    refine .inr ?_
    rw [List.drop_eq_nil_of_le (by omega)] at h3
    simp only [spanFL, List.foldl_nil, Prod.mk.injEq] at h3
    obtain ⟨rfl, rfl⟩ := h3
    simp -implicitDefEqProofs [hi, wn, kof']
    clear hi h1 h2
    refine iter_meas (s := (inn, (0 : Int))) (fun s : List Tb × Int => (nx.length - s.2).toNat) (fun s => (.out (.out (refN n (inn ++ nx.filter (fun x => meetT x al)) l)) : LS (Int × List Int × List Int) (LS Int (List D)))) (fun s => 0 ≤ s.2 ∧ s.2 ≤ nx.length ∧ s.1 = inn ++ (nx.take s.2.toNat).filter (fun x => meetT x al)) (by exact ⟨by simp, by simp, by simp⟩) ?_
    rintro ⟨acc, i⟩ ⟨h1, h2, h3⟩
    simp only at h1 h2 h3 ⊢
    have hal : acc.length ≤ 128 := by
      rw [h3, List.length_append]
      have := List.length_filter_le (fun x => meetT x al) (nx.take i.toNat)
      rw [List.length_take] at this
      omega
    by_cases hi : i < nx.length
    · have htk : nx.take (i + 1).toNat = nx.take i.toNat ++ [nx[i.toNat]'(by omega)] := by rw [show (i + 1).toNat = i.toNat + 1 by omega, List.take_succ_eq_append_getElem (by omega)]
      have g1 := getG (l := nx) (d := dflt TbT) h1 (by omega)
      have b1 : 0 ≤ i ∧ i < (nx.length : Int) := ⟨h1, hi⟩
      have wi : IntKind.i64.wrap (i + 1) = i + 1 := wi64 _ (by omega) (by omega)
      have hb : acc.length + 1 ≤ BIG := by simp only [BIG]; omega
      generalize hcx : nx[i.toNat]'(by omega) = x at *
      have e101 : Does1 Φ 101 [⟨.int .i64, x.1⟩, ⟨.int .i64, x.2.1⟩, ⟨.int .i64, x.2.2.1⟩, ⟨.str, x.2.2.2.1⟩, ⟨.str, x.2.2.2.2⟩, ⟨.int .i64, y.1⟩, ⟨.int .i64, y.2.1⟩, ⟨.int .i64, y.2.2.1⟩, ⟨.str, al.2.2.2.1⟩, ⟨.str, al.2.2.2.2⟩] [⟨.bool, meetT x al⟩] := h101 _ _ _ _ _ _ _ _ _ _
      cases hp : meetT x al <;> rw [hp] at e101
      · refine .inl ⟨(acc, i + 1), ?_, ⟨by (try simp only); omega, by (try simp only); omega, ?_⟩, by (try simp only); omega, by first | trivial | rfl⟩
        · simp -implicitDefEqProofs [hi, b1, g1, hcx, wi, e101]
        · simp only; rw [h3, htk, List.filter_append]; simp [hp]
      · refine .inl ⟨(acc ++ [x], i + 1), ?_, ⟨by (try simp only); omega, by (try simp only); omega, ?_⟩, by (try simp only); omega, by first | trivial | rfl⟩
        · clear h3
          simp -implicitDefEqProofs [hi, b1, g1, hcx, wi, e101, hb]
        · simp only; rw [h3, htk, List.filter_append]; simp [hp]
    refine .inr ?_
    rw [List.take_of_length_le (by omega)] at h3
    have e63 := h63 acc (by omega)
    rw [← h3]
    clear h3
    simp -implicitDefEqProofs [hi, wn, e63]
    clear hi h1 h2
    refine iter_meas (s := ((0 : Int), true)) (fun s : Int × Bool => (l.length - s.1).toNat) (fun s => (.out (.out (.out (refN n acc l))) : LS (List Tb × Int) (LS (Int × List Int × List Int) (LS Int (List D))))) (fun s => 0 ≤ s.1 ∧ s.1 ≤ l.length ∧ s.2 = !((l.take s.1.toNat).any (dropQ n acc))) (by exact ⟨by simp, by simp, by simp⟩) ?_
    rintro ⟨i, dr⟩ ⟨h1, h2, h3⟩
    simp only at h1 h2 h3 ⊢
    by_cases hi : i < l.length
    · have htk : l.take (i + 1).toNat = l.take i.toNat ++ [l[i.toNat]'(by omega)] := by rw [show (i + 1).toNat = i.toNat + 1 by omega, List.take_succ_eq_append_getElem (by omega)]
      have g1 := getG (l := l) (d := dflt TbT) h1 (by omega)
      have b1 : 0 ≤ i ∧ i < (l.length : Int) := ⟨h1, hi⟩
      have wi : IntKind.i64.wrap (i + 1) = i + 1 := wi64 _ (by omega) (by omega)
      generalize hcx : l[i.toNat]'(by omega) = x at *
      have e118 : Does1 Φ 118 [⟨.int .i64, x.1⟩, ⟨.int .i64, x.2.1⟩, ⟨.int .i64, x.2.2.1⟩, ⟨.str, x.2.2.2.1⟩, ⟨.str, x.2.2.2.2⟩, ⟨.sl TbT, acc⟩] [⟨.bool, acc.any (meetT x)⟩] := h118 _ _ _ _ _ _ (by omega)
      have hd : ∀ q : Bool, dropQ n acc x = q → (!((l.take (i + 1).toNat).any (dropQ n acc))) = (dr && !q) := by
        intro q hq
        rw [htk, List.any_append, h3]
        simp [hq]
      by_cases hq : n + 1 < x.2.1
      · cases ha : acc.any (meetT x) <;> rw [ha] at e118
        · refine .inl ⟨(i + 1, dr), ?_, ⟨by (try simp only); omega, by (try simp only); omega, ?_⟩, by (try simp only); omega, by first | trivial | rfl⟩
          · simp -implicitDefEqProofs [hi, b1, g1, hcx, wi, wn, hq, e118]
          · simp only; rw [hd false (by simp only [dropQ, ha, Bool.and_false])]; simp
        · refine .inl ⟨(i + 1, false), ?_, ⟨by (try simp only); omega, by (try simp only); omega, ?_⟩, by (try simp only); omega, by first | trivial | rfl⟩
          · simp -implicitDefEqProofs [hi, b1, g1, hcx, wi, wn, hq, e118]
          · simp only; rw [hd true (by simp only [dropQ, ha, hq, decide_true, Bool.and_self])]; simp
      · refine .inl ⟨(i + 1, dr), ?_, ⟨by (try simp only); omega, by (try simp only); omega, ?_⟩, by (try simp only); omega, by first | trivial | rfl⟩
        · simp -implicitDefEqProofs [hi, b1, g1, hcx, wi, wn, hq]
        · simp only; rw [hd false (by simp only [dropQ, hq, decide_false, Bool.false_and])]; simp
    refine .inr ?_
    rw [List.take_of_length_le (by omega)] at h3
    subst h3
    simp -implicitDefEqProofs [hi, refN]
  · have hin : inT n o = ofT n o := if_neg h0
    rw [hin]
    generalize ofT n o = inn at *
    have hp3 : 0 < inn.length := List.length_pos_iff.2 hne
    have hp4 : (0 : Int) < inn.length := by omega
    obtain ⟨y, g0⟩ : ∃ y, inn[0]?.getD (dflt TbT) = y := ⟨_, rfl⟩
    have g0' : inn[0]'hp3 = y := by rw [List.getElem?_eq_getElem hp3] at g0; exact g0
    have hsp := span_eq hne g0
    simp -implicitDefEqProofs [hn, hn4, kof, kful, h0, wn, kof', hp3, hp4, g0, g0']
    clear kful kof hne hf g0 g0' hin hp3 hp4
    generalize spanT inn = al at *
    generalize ofT (n + 1) o = nx at *
    refine iter_meas (s := ((0 : Int), y.2.2.2.1, y.2.2.2.2)) (fun s : Int × List Int × List Int => (inn.length - s.1).toNat) (fun s => (.out (refN n (inn ++ nx.filter (fun x => meetT x al)) l) : LS Int (List D))) (fun s => 0 ≤ s.1 ∧ s.1 ≤ inn.length ∧ spanFL s.2 (inn.drop s.1.toNat) = (al.2.2.2.1, al.2.2.2.2)) (by exact ⟨by simp, by simp, by simpa using hsp⟩) ?_
    rintro ⟨i, a, b⟩ ⟨h1, h2, h3⟩
    simp only at h1 h2 h3 ⊢
    by_cases hi : i < inn.length
    · rw [dropI h1 hi] at h3
      have g1 := getG (l := inn) (d := dflt TbT) h1 (by omega)
      have b1 : 0 ≤ i ∧ i < (inn.length : Int) := ⟨h1, hi⟩
      have wi : IntKind.i64.wrap (i + 1) = i + 1 := wi64 _ (by omega) (by omega)
      generalize hcx : inn[i.toNat]'(by omega) = x at *
      have h3' : spanFL (minS a x.2.2.2.1, maxS b x.2.2.2.2) (inn.drop (i + 1).toNat) = (al.2.2.2.1, al.2.2.2.2) := h3
      refine .inl ⟨(i + 1, minS a x.2.2.2.1, maxS b x.2.2.2.2), ?_, ⟨by (try simp only); omega, by (try simp only); omega, h3'⟩, by (try simp only); omega, by first | trivial | rfl⟩
      by_cases q1 : ltL x.2.2.2.1 a = true
      · rw [minS_lt q1]
        by_cases q2 : ltL x.2.2.2.2 b = true
        · rw [maxS_le (.inl q2)]
          simp -implicitDefEqProofs [hi, b1, g1, hcx, wi, q1, q2]
        · have q2' : ltL x.2.2.2.2 b = false := by simpa using q2
          by_cases q3 : x.2.2.2.2 = b
          · rw [maxS_le (.inr q3)]
            simp -implicitDefEqProofs [hi, b1, g1, hcx, wi, q1, q2', q3]
          · rw [maxS_gt (fun h => h.elim q2 q3)]
            simp -implicitDefEqProofs [hi, b1, g1, hcx, wi, q1, q2', q3]
      · have q1' : ltL x.2.2.2.1 a = false := by simpa using q1
        rw [minS_ge q1']
        by_cases q2 : ltL x.2.2.2.2 b = true
        · rw [maxS_le (.inl q2)]
          simp -implicitDefEqProofs [hi, b1, g1, hcx, wi, q1', q2]
        · have q2' : ltL x.2.2.2.2 b = false := by simpa using q2
          by_cases q3 : x.2.2.2.2 = b
          · rw [maxS_le (.inr q3)]
            simp -implicitDefEqProofs [hi, b1, g1, hcx, wi, q1', q2', q3]
          · rw [maxS_gt (fun h => h.elim q2 q3)]
            simp -implicitDefEqProofs [hi, b1, g1, hcx, wi, q1', q2', q3]
    refine .inr ?_
    rw [List.drop_eq_nil_of_le (by omega)] at h3
    simp only [spanFL, List.foldl_nil, Prod.mk.injEq] at h3
    obtain ⟨rfl, rfl⟩ := h3
    simp -implicitDefEqProofs [hi, wn, kof']
    clear hi h1 h2
    refine iter_meas (s := (inn, (0 : Int))) (fun s : List Tb × Int => (nx.length - s.2).toNat) (fun s => (.out (.out (refN n (inn ++ nx.filter (fun x => meetT x al)) l)) : LS (Int × List Int × List Int) (LS Int (List D)))) (fun s => 0 ≤ s.2 ∧ s.2 ≤ nx.length ∧ s.1 = inn ++ (nx.take s.2.toNat).filter (fun x => meetT x al)) (by exact ⟨by simp, by simp, by simp⟩) ?_
    rintro ⟨acc, i⟩ ⟨h1, h2, h3⟩
    simp only at h1 h2 h3 ⊢
    have hal : acc.length ≤ 128 := by
      rw [h3, List.length_append]
      have := List.length_filter_le (fun x => meetT x al) (nx.take i.toNat)
      rw [List.length_take] at this
      omega
    by_cases hi : i < nx.length
    · have htk : nx.take (i + 1).toNat = nx.take i.toNat ++ [nx[i.toNat]'(by omega)] := by rw [show (i + 1).toNat = i.toNat + 1 by omega, List.take_succ_eq_append_getElem (by omega)]
      have g1 := getG (l := nx) (d := dflt TbT) h1 (by omega)
      have b1 : 0 ≤ i ∧ i < (nx.length : Int) := ⟨h1, hi⟩
      have wi : IntKind.i64.wrap (i + 1) = i + 1 := wi64 _ (by omega) (by omega)
      have hb : acc.length + 1 ≤ BIG := by simp only [BIG]; omega
      generalize hcx : nx[i.toNat]'(by omega) = x at *
      have e101 : Does1 Φ 101 [⟨.int .i64, x.1⟩, ⟨.int .i64, x.2.1⟩, ⟨.int .i64, x.2.2.1⟩, ⟨.str, x.2.2.2.1⟩, ⟨.str, x.2.2.2.2⟩, ⟨.int .i64, y.1⟩, ⟨.int .i64, y.2.1⟩, ⟨.int .i64, y.2.2.1⟩, ⟨.str, al.2.2.2.1⟩, ⟨.str, al.2.2.2.2⟩] [⟨.bool, meetT x al⟩] := h101 _ _ _ _ _ _ _ _ _ _
      cases hp : meetT x al <;> rw [hp] at e101
      · refine .inl ⟨(acc, i + 1), ?_, ⟨by (try simp only); omega, by (try simp only); omega, ?_⟩, by (try simp only); omega, by first | trivial | rfl⟩
        · simp -implicitDefEqProofs [hi, b1, g1, hcx, wi, e101]
        · simp only; rw [h3, htk, List.filter_append]; simp [hp]
      · refine .inl ⟨(acc ++ [x], i + 1), ?_, ⟨by (try simp only); omega, by (try simp only); omega, ?_⟩, by (try simp only); omega, by first | trivial | rfl⟩
        · clear h3
          simp -implicitDefEqProofs [hi, b1, g1, hcx, wi, e101, hb]
        · simp only; rw [h3, htk, List.filter_append]; simp [hp]
    refine .inr ?_
    rw [List.take_of_length_le (by omega)] at h3
    have e63 := h63 acc (by omega)
    rw [← h3]
    clear h3
    simp -implicitDefEqProofs [hi, wn, e63]
    clear hi h1 h2
    refine iter_meas (s := ((0 : Int), true)) (fun s : Int × Bool => (l.length - s.1).toNat) (fun s => (.out (.out (.out (refN n acc l))) : LS (List Tb × Int) (LS (Int × List Int × List Int) (LS Int (List D))))) (fun s => 0 ≤ s.1 ∧ s.1 ≤ l.length ∧ s.2 = !((l.take s.1.toNat).any (dropQ n acc))) (by exact ⟨by simp, by simp, by simp⟩) ?_
    rintro ⟨i, dr⟩ ⟨h1, h2, h3⟩
    simp only at h1 h2 h3 ⊢
    by_cases hi : i < l.length
    · have htk : l.take (i + 1).toNat = l.take i.toNat ++ [l[i.toNat]'(by omega)] := by rw [show (i + 1).toNat = i.toNat + 1 by omega, List.take_succ_eq_append_getElem (by omega)]
      have g1 := getG (l := l) (d := dflt TbT) h1 (by omega)
      have b1 : 0 ≤ i ∧ i < (l.length : Int) := ⟨h1, hi⟩
      have wi : IntKind.i64.wrap (i + 1) = i + 1 := wi64 _ (by omega) (by omega)
      generalize hcx : l[i.toNat]'(by omega) = x at *
      have e118 : Does1 Φ 118 [⟨.int .i64, x.1⟩, ⟨.int .i64, x.2.1⟩, ⟨.int .i64, x.2.2.1⟩, ⟨.str, x.2.2.2.1⟩, ⟨.str, x.2.2.2.2⟩, ⟨.sl TbT, acc⟩] [⟨.bool, acc.any (meetT x)⟩] := h118 _ _ _ _ _ _ (by omega)
      have hd : ∀ q : Bool, dropQ n acc x = q → (!((l.take (i + 1).toNat).any (dropQ n acc))) = (dr && !q) := by
        intro q hq
        rw [htk, List.any_append, h3]
        simp [hq]
      by_cases hq : n + 1 < x.2.1
      · cases ha : acc.any (meetT x) <;> rw [ha] at e118
        · refine .inl ⟨(i + 1, dr), ?_, ⟨by (try simp only); omega, by (try simp only); omega, ?_⟩, by (try simp only); omega, by first | trivial | rfl⟩
          · simp -implicitDefEqProofs [hi, b1, g1, hcx, wi, wn, hq, e118]
          · simp only; rw [hd false (by simp only [dropQ, ha, Bool.and_false])]; simp
        · refine .inl ⟨(i + 1, false), ?_, ⟨by (try simp only); omega, by (try simp only); omega, ?_⟩, by (try simp only); omega, by first | trivial | rfl⟩
          · simp -implicitDefEqProofs [hi, b1, g1, hcx, wi, wn, hq, e118]
          · simp only; rw [hd true (by simp only [dropQ, ha, hq, decide_true, Bool.and_self])]; simp
      · refine .inl ⟨(i + 1, dr), ?_, ⟨by (try simp only); omega, by (try simp only); omega, ?_⟩, by (try simp only); omega, by first | trivial | rfl⟩
        · simp -implicitDefEqProofs [hi, b1, g1, hcx, wi, wn, hq]
        · simp only; rw [hd false (by simp only [dropQ, hq, decide_false, Bool.false_and])]; simp
    refine .inr ?_
    rw [List.take_of_length_le (by omega)] at h3
    subst h3
    simp -implicitDefEqProofs [hi, refN]
theorem s61 {lc : List Ct} (hl0 : look (lc.map fun c => (c.sig.id, c)) 61 = some c61) : ∀ (l : List Tb) (base : Int) (hm : mayT l = true) (hb : 1 ≤ base ∧ base ≤ 1048576), Does1 (Phi lc) 61 [⟨.sl TbT, l⟩, ⟨.int .i64, base⟩] (refD (ordT l) base 4 0) :=
  fun l base hm hb => by
    have eFc : c61.F = F61 := rfl
    have eFh := f61 l base hm hb
    rw [← eFc] at eFh
    exact Does1.of hl0 eFh (refD_ty _ _ _ _)
end Go.Proofs.Ytdjknicjnaiomaa.Sx

set_option maxHeartbeats 8000000
/- Those that may have a key; the law of what is merged. -/
namespace Go.Proofs.Ytdjknicjnaiomaa.Sx
attribute [local simp ↓] den_start deb_op deb_ret deb_jump deb_itev deb_itel deb_loop deb_fail deb_nilcv
attribute [local simp] nilE_some opE_some debP_nil debP_cons pushL_nil pushL_cons retE_some iteE_some evB_nil evB_v evB_l lkE_cons consE_some d_int d_bool d_str d_nil o_add o_sub o_mul o_and o_or o_xor o_andNot o_quo o_rem o_shl o_shr o_eql o_neq o_lss o_leq o_gtr o_geq o_seql o_sneq o_slss o_sleq o_sgtr o_sgeq o_beql o_bneq o_scat o_not o_neg o_com o_conv o_s2b o_b2s o_len o_slen o_inb o_idx o_sidx o_sub3 o_sub2 o_ssub3 o_ssub2 o_app o_clr o_appn o_ful o_apps o_mk mkE_some consD_some mkD_zero mkD_int mkD_str mkD_sl o_imin o_imax o_smin o_smax o_eqs eqsE_some eqC_nil andE_some eqC_int eqC_bool eqC_str j1 outE_some outE_none outE_ite agE_1 loopE_1 agE_2 loopE_2 agE_3 loopE_3 agE_4 loopE_4 agE_5 loopE_5 agE_6 loopE_6 agE_7 loopE_7 agE_8 loopE_8 agE_9 loopE_9 List.cons_append List.nil_append List.append_nil split List.take_succ_cons List.take_zero List.drop_succ_cons List.drop_zero

def hasK (key : List Int) (t : Tb) : Bool := (ltL t.2.2.2.1 key || decide (t.2.2.2.1 = key)) && !ltL t.2.2.2.2 key

theorem f59 (l : List Tb) (key : List Int) : F59 [⟨.sl TbT, l⟩, ⟨.str, key⟩] = some [⟨.sl (.int .i64), if mayT l = true then numsT ((ordT l).filter (hasK key)) else []⟩] := by
  have h58 := s58 (lc := [c58, c103, c113]) rfl
  have h103 := s103 (lc := [c58, c103, c113]) rfl
  have h113 := s113 (lc := [c58, c103, c113]) rfl
  simp only [F59, Fof, ir59]
  generalize Phi [c58, c103, c113] = Φ at *
  have k := h58 l
  cases hm : mayT l <;> rw [hm] at k
  · simp only [Bool.false_eq_true, if_false] at k
    simp -implicitDefEqProofs [k]
  simp only [if_true] at k
  have hl := may_len hm
  have k2 := h103 l (by omega) (may_tidy hm)
  have ho := ordT_len l
  generalize ordT l = o at *
  simp -implicitDefEqProofs [k, k2]
  refine (first_loop (e := TbT) o (fun x => !hasK key x) (fun l => ([⟨.sl (.int .i64), numsT l⟩] : List D)) _ ?_ ?_ ?_).trans (by simp)
  · intro j j1 hj hp
    have b1 : 0 ≤ j ∧ j < (o.length : Int) := ⟨j1, hj⟩
    have wj : IntKind.i64.wrap (j + 1) = j + 1 := wi64 _ (by omega) (by omega)
    have g := getG (l := o) (d := dflt TbT) j1 hj
    rw [g] at hp
    generalize hcx : o[j.toNat]'(by omega) = x at *
    simp only [hasK, Bool.not_eq_false', Bool.and_eq_true, Bool.or_eq_true, decide_eq_true_eq, Bool.not_eq_true'] at hp
    obtain ⟨p1, p2⟩ := hp
    rcases p1 with p1 | p1
    · simp -implicitDefEqProofs [hj, b1, g, hcx, wj, p1, p2]
    · simp -implicitDefEqProofs [hj, b1, g, hcx, wj, p1, p2, ltL_irrefl]
  · intro j j1 hj hp _
    have b1 : 0 ≤ j ∧ j < (o.length : Int) := ⟨j1, hj⟩
    have wj : IntKind.i64.wrap (j + 1) = j + 1 := wi64 _ (by omega) (by omega)
    have hm : ¬ j = -1 := by omega
    have g := getG (l := o) (d := dflt TbT) j1 hj
    rw [g] at hp
    generalize hcx : o[j.toNat]'(by omega) = x at *
    have hp : hasK key x = false := by simpa using hp
    unfold hasK at hp
    by_cases a1 : ltL x.2.2.2.1 key = true
    · have a3 : ltL x.2.2.2.2 key = true := by
        rw [a1] at hp
        simpa using hp
      simp -implicitDefEqProofs [hj, b1, g, hcx, wj, hm, a1, a3]
      refine (move_loop (e := TbT) (fun x => !hasK key x) (fun l => (.out [⟨.sl (.int .i64), numsT l⟩] : LS Int (List D))) o.length j (j + 1) o _ ⟨j1, by omega, by omega, rfl⟩ ?_ ?_).trans (by rw [show (j + 1).toNat = j.toNat + 1 by omega]; simp)
      · clear hcx g hp
        intro i j xs i1 i2 i3 i4
        have b1 : 0 ≤ j ∧ j < (xs.length : Int) := by omega
        have hj : j < (xs.length : Int) := by omega
        have b2 : 0 ≤ i ∧ i < (xs.length : Int) := by omega
        have wj : IntKind.i64.wrap (j + 1) = j + 1 := wi64 _ (by omega) (by omega)
        have wi : IntKind.i64.wrap (i + 1) = i + 1 := wi64 _ (by omega) (by omega)
        have g := getG (l := xs) (i := j) (d := dflt TbT) (by omega) (by omega)
        rw [g]
        generalize hcx : xs[j.toNat]'(by omega) = x at *
        unfold hasK
        by_cases a1 : ltL x.2.2.2.1 key = true
        · cases a3 : ltL x.2.2.2.2 key <;> simp -implicitDefEqProofs [hj, b1, b2, g, hcx, wj, wi, a1, a3]
        · have a1' : ltL x.2.2.2.1 key = false := by simpa using a1
          by_cases a2 : x.2.2.2.1 = key
          · cases a3 : ltL x.2.2.2.2 key
            · simp -implicitDefEqProofs [hj, b1, b2, g, hcx, wj, wi, a1', a2, ltL_irrefl, a3]
              rw [← a2]
            · simp -implicitDefEqProofs [hj, b1, b2, g, hcx, wj, wi, a1', a2, ltL_irrefl, a3]
          · simp -implicitDefEqProofs [hj, b1, b2, g, hcx, wj, wi, a1', a2]
      · intro i xs i1 i2 i4
        have hj : ¬ (o.length : Int) < (xs.length : Int) := by omega
        have b2 : 0 ≤ i ∧ i ≤ (xs.length : Int) := by omega
        have hm : min i.toNat xs.length = i.toNat := by omega
        have hc : i ≤ max i 0 + ((xs.length - i.toNat : Nat) : Int) := by omega
        have e113 := h113 (xs.take i.toNat) (by rw [List.length_take]; omega)
        simp -implicitDefEqProofs [hj, b2, hm, hc, e113]
    have a1' : ltL x.2.2.2.1 key = false := by simpa using a1
    by_cases a2 : x.2.2.2.1 = key
    · have a3 : ltL x.2.2.2.2 key = true := by
        rw [a1', decide_eq_true a2] at hp
        simpa using hp
      simp -implicitDefEqProofs [hj, b1, g, hcx, wj, hm, a1', a2, ltL_irrefl, a3]
      refine (move_loop (e := TbT) (fun x => !hasK key x) (fun l => (.out [⟨.sl (.int .i64), numsT l⟩] : LS Int (List D))) o.length j (j + 1) o _ ⟨j1, by omega, by omega, rfl⟩ ?_ ?_).trans (by rw [show (j + 1).toNat = j.toNat + 1 by omega]; simp)
      · clear hcx g hp
        intro i j xs i1 i2 i3 i4
        have b1 : 0 ≤ j ∧ j < (xs.length : Int) := by omega
        have hj : j < (xs.length : Int) := by omega
        have b2 : 0 ≤ i ∧ i < (xs.length : Int) := by omega
        have wj : IntKind.i64.wrap (j + 1) = j + 1 := wi64 _ (by omega) (by omega)
        have wi : IntKind.i64.wrap (i + 1) = i + 1 := wi64 _ (by omega) (by omega)
        have g := getG (l := xs) (i := j) (d := dflt TbT) (by omega) (by omega)
        rw [g]
        generalize hcx : xs[j.toNat]'(by omega) = x at *
        unfold hasK
        by_cases a1 : ltL x.2.2.2.1 key = true
        · cases a3 : ltL x.2.2.2.2 key <;> simp -implicitDefEqProofs [hj, b1, b2, g, hcx, wj, wi, a1, a3]
        · have a1' : ltL x.2.2.2.1 key = false := by simpa using a1
          by_cases a2 : x.2.2.2.1 = key
          · cases a3 : ltL x.2.2.2.2 key
            · simp -implicitDefEqProofs [hj, b1, b2, g, hcx, wj, wi, a1', a2, ltL_irrefl, a3]
              rw [← a2]
            · simp -implicitDefEqProofs [hj, b1, b2, g, hcx, wj, wi, a1', a2, ltL_irrefl, a3]
          · simp -implicitDefEqProofs [hj, b1, b2, g, hcx, wj, wi, a1', a2]
      · intro i xs i1 i2 i4
        have hj : ¬ (o.length : Int) < (xs.length : Int) := by omega
        have b2 : 0 ≤ i ∧ i ≤ (xs.length : Int) := by omega
        have hm : min i.toNat xs.length = i.toNat := by omega
        have hc : i ≤ max i 0 + ((xs.length - i.toNat : Nat) : Int) := by omega
        have e113 := h113 (xs.take i.toNat) (by rw [List.length_take]; omega)
        simp -implicitDefEqProofs [hj, b2, hm, hc, e113]
    · simp -implicitDefEqProofs [hj, b1, g, hcx, wj, hm, a1', a2]
      refine (move_loop (e := TbT) (fun x => !hasK key x) (fun l => (.out [⟨.sl (.int .i64), numsT l⟩] : LS Int (List D))) o.length j (j + 1) o _ ⟨j1, by omega, by omega, rfl⟩ ?_ ?_).trans (by rw [show (j + 1).toNat = j.toNat + 1 by omega]; simp)
      · clear hcx g hp
        intro i j xs i1 i2 i3 i4
        have b1 : 0 ≤ j ∧ j < (xs.length : Int) := by omega
        have hj : j < (xs.length : Int) := by omega
        have b2 : 0 ≤ i ∧ i < (xs.length : Int) := by omega
        have wj : IntKind.i64.wrap (j + 1) = j + 1 := wi64 _ (by omega) (by omega)
        have wi : IntKind.i64.wrap (i + 1) = i + 1 := wi64 _ (by omega) (by omega)
        have g := getG (l := xs) (i := j) (d := dflt TbT) (by omega) (by omega)
        rw [g]
        generalize hcx : xs[j.toNat]'(by omega) = x at *
        unfold hasK
        by_cases a1 : ltL x.2.2.2.1 key = true
        · cases a3 : ltL x.2.2.2.2 key <;> simp -implicitDefEqProofs [hj, b1, b2, g, hcx, wj, wi, a1, a3]
        · have a1' : ltL x.2.2.2.1 key = false := by simpa using a1
          by_cases a2 : x.2.2.2.1 = key
          · cases a3 : ltL x.2.2.2.2 key
            · simp -implicitDefEqProofs [hj, b1, b2, g, hcx, wj, wi, a1', a2, ltL_irrefl, a3]
              rw [← a2]
            · simp -implicitDefEqProofs [hj, b1, b2, g, hcx, wj, wi, a1', a2, ltL_irrefl, a3]
          · simp -implicitDefEqProofs [hj, b1, b2, g, hcx, wj, wi, a1', a2]
      · intro i xs i1 i2 i4
        have hj : ¬ (o.length : Int) < (xs.length : Int) := by omega
        have b2 : 0 ≤ i ∧ i ≤ (xs.length : Int) := by omega
        have hm : min i.toNat xs.length = i.toNat := by omega
        have hc : i ≤ max i 0 + ((xs.length - i.toNat : Nat) : Int) := by omega
        have e113 := h113 (xs.take i.toNat) (by rw [List.length_take]; omega)
        simp -implicitDefEqProofs [hj, b2, hm, hc, e113]
  · intro _
    have e113 := h113 o (by omega)
    simp -implicitDefEqProofs [e113]
theorem s59 {lc : List Ct} (hl0 : look (lc.map fun c => (c.sig.id, c)) 59 = some c59) : ∀ (l : List Tb) (key : List Int), Does1 (Phi lc) 59 [⟨.sl TbT, l⟩, ⟨.str, key⟩] [⟨.sl (.int .i64), if mayT l = true then numsT ((ordT l).filter (hasK key)) else []⟩] :=
  fun l key => by
    have eFc : c59.F = F59 := rfl
    have eFh := f59 l key
    rw [← eFc] at eFh
    exact Does1.of hl0 eFh rfl
abbrev four : List Tb := [(1, 0, 0, [97], [99]), (2, 0, 0, [97], [99]), (3, 0, 0, [97], [99]), (4, 0, 0, [98], [100])]
theorem four_may : mayT four = true := by decide
theorem four_pick : pickD (ordT four) 100 4 0 = [⟨.sl (.int .i64), [4, 3, 2, 1]⟩, ⟨.int .i64, 1⟩, ⟨.bool, true⟩, ⟨.bool, true⟩] := by rfl
theorem f55  : F55 [] = some [⟨.bool, true⟩] := by
  have h56 := s56 (lc := [c56, c62, c102]) rfl
  have h62 := s62 (lc := [c56, c62, c102]) rfl
  have h102 := s102 (lc := [c56, c62, c102]) rfl
  simp only [F55, Fof, ir55]
  generalize Phi [c56, c62, c102] = Φ at *
  have k := h56 four 100
  rw [if_pos ⟨four_may, by decide, by decide⟩, four_pick] at k
  have k2 := h62 [4, 3, 2, 1] [4, 3, 2, 1] (by decide)
  have hmk : mkD TbT 4 [⟨.int .i64, 1⟩, ⟨.int .i64, 0⟩, ⟨.int .i64, 0⟩, ⟨.str, [97]⟩, ⟨.str, [99]⟩, ⟨.int .i64, 2⟩, ⟨.int .i64, 0⟩, ⟨.int .i64, 0⟩, ⟨.str, [97]⟩, ⟨.str, [99]⟩, ⟨.int .i64, 3⟩, ⟨.int .i64, 0⟩, ⟨.int .i64, 0⟩, ⟨.str, [97]⟩, ⟨.str, [99]⟩, ⟨.int .i64, 4⟩, ⟨.int .i64, 0⟩, ⟨.int .i64, 0⟩, ⟨.str, [98]⟩, ⟨.str, [100]⟩] = some ⟨.sl TbT, four⟩ := rfl
  have k3 : Does1 Φ 102 [⟨.int .i64, 1⟩, ⟨.int .i64, 0⟩, ⟨.int .i64, 0⟩, ⟨.str, [97]⟩, ⟨.str, [99]⟩, ⟨.int .i64, 4⟩, ⟨.int .i64, 0⟩, ⟨.int .i64, 0⟩, ⟨.str, [98]⟩, ⟨.str, [100]⟩] [⟨.bool, true⟩] := h102 _ _ _ _ _ _ _ _ _ _
  have g0 : (four : List Tb)[0]?.getD (dflt TbT) = (1, 0, 0, [97], [99]) := rfl
  have g3 : (four : List Tb)[3]?.getD (dflt TbT) = (4, 0, 0, [98], [100]) := rfl
  simp -implicitDefEqProofs [hmk, k, k2, k3]
theorem s55 {lc : List Ct} (hl0 : look (lc.map fun c => (c.sig.id, c)) 55 = some c55) : ∀ _u : Unit, Does1 (Phi lc) 55 [] [⟨.bool, true⟩] :=
  fun _ => Does1.of hl0 f55 rfl
theorem pick_ref (o : List Tb) (base : Int) (ho : o.length ≤ 64) : ∀ (k : Nat) (n : Int), 0 ≤ n → ∃ (u : List Int) (v : Int) (d q : Bool), pickD o base k n = [⟨.sl (.int .i64), u⟩, ⟨.int .i64, v⟩, ⟨.bool, d⟩, ⟨.bool, q⟩] ∧ refD o base k n = [⟨.sl (.int .i64), u⟩, ⟨.int .i64, v⟩, ⟨.bool, d⟩] ∧ q = decide (0 < v) ∧ u.length < 1000000
  | 0, n, _ => ⟨[], 0, false, false, rfl, rfl, rfl, by decide⟩
  | k + 1, n, h => by
    unfold pickD refD
    split
    · refine ⟨_, _, _, _, rfl, rfl, (decide_eq_true (by omega)).symm, ?_⟩
      have h1 := List.length_filter_le (fun x : Tb => decide (x.2.1 = n)) o
      have h2 := List.length_filter_le (fun x : Tb => decide (x.2.1 = n + 1)) o
      have h3 : (inT n o).length ≤ 64 := by
        unfold inT ofT
        split
        · rw [List.length_take]; omega
        · omega
      have h4 : (nextT n o).length ≤ 64 := by
        unfold nextT ofT
        exact Nat.le_trans (List.length_filter_le _ _) (by omega)
      simp only [numsT, jobIn, List.length_map, List.length_append]
      omega
    · exact pick_ref o base ho k (n + 1) (by omega)

def deepT (d : Int) (l : List Tb) : Int := l.foldl (fun d x => if d < x.2.1 then x.2.1 else d) d
theorem deepT_spec : ∀ (l : List Tb) (d : Int), d ≤ deepT d l ∧ (∀ x ∈ l, x.2.1 ≤ deepT d l) ∧ (deepT d l = d ∨ ∃ x ∈ l, deepT d l = x.2.1)
  | [], d => ⟨Int.le_refl _, fun x hx => by simp at hx, .inl rfl⟩
  | x :: l, d => by
    have e : deepT d (x :: l) = deepT (if d < x.2.1 then x.2.1 else d) l := rfl
    obtain ⟨h1, h2, h3⟩ := deepT_spec l (if d < x.2.1 then x.2.1 else d)
    rw [e]
    refine ⟨?_, fun y hy => ?_, ?_⟩
    · split at h1 <;> split <;> omega
    · rcases List.mem_cons.1 hy with rfl | hy
      · split at h1 <;> split <;> omega
      · exact h2 y hy
    · rcases h3 with h3 | ⟨y, hy, h3⟩
      · by_cases hd : d < x.2.1
        · right; refine ⟨x, by simp, ?_⟩; rw [h3, if_pos hd]
        · left; rw [h3, if_neg hd]
      · right; exact ⟨y, by simp [hy], h3⟩

theorem deep_last {l : List Tb} (hn : l ≠ []) : deepT 1 l = max 1 (lastLvl (ordT l)) := by
  obtain ⟨h1, h2, h3⟩ := deepT_spec l 1
  have ho := ordT_ord l
  have hne : ordT l ≠ [] := fun e => hn (List.length_eq_zero_iff.1 (by rw [← ordT_len l, e]; rfl))
  have hsp := List.dropLast_concat_getLast hne
  have hll : lastLvl (ordT l) = ((ordT l).getLast hne).2.1 := by
    unfold lastLvl
    rw [List.getLast?_eq_some_getLast hne]; rfl
  have hmem : (ordT l).getLast hne ∈ l := ordT_mem.1 (List.getLast_mem hne)
  have hmax : ∀ x ∈ l, x.2.1 ≤ ((ordT l).getLast hne).2.1 := by
    intro x hx
    have hx' := ordT_mem.2 hx
    unfold Ord at ho
    rw [← hsp] at ho hx'
    rcases List.mem_append.1 hx' with hx' | hx'
    · have := (pair_append.1 ho).2.2 x hx' ((ordT l).getLast hne) (by simp)
      unfold ltT at this
      by_cases he : ((ordT l).getLast hne).2.1 = x.2.1
      · omega
      · rw [if_neg he] at this
        simp only [decide_eq_false_iff_not] at this
        omega
    · simp only [List.mem_singleton] at hx'
      rw [hx']; exact Int.le_refl _
  rw [hll]
  have h4 := h2 _ hmem
  rcases h3 with h3 | ⟨y, hy, h3⟩
  · rw [h3] at h4 ⊢; omega
  · have := hmax y hy
    omega

theorem f14 (l : List Tb) (base : Int) : F14 [⟨.sl TbT, l⟩, ⟨.int .i64, base⟩] = some [⟨.bool, true⟩] := by
  have h53 := s53 (lc := [c53, c55, c56, c60, c54, c61, c62, c64, c63]) rfl
  have h55 := s55 (lc := [c53, c55, c56, c60, c54, c61, c62, c64, c63]) rfl
  have h56 := s56 (lc := [c53, c55, c56, c60, c54, c61, c62, c64, c63]) rfl
  have h60 := s60 (lc := [c53, c55, c56, c60, c54, c61, c62, c64, c63]) rfl
  have h54 := s54 (lc := [c53, c55, c56, c60, c54, c61, c62, c64, c63]) rfl
  have h61 := s61 (lc := [c53, c55, c56, c60, c54, c61, c62, c64, c63]) rfl
  have h62 := s62 (lc := [c53, c55, c56, c60, c54, c61, c62, c64, c63]) rfl
  have h64 := s64 (lc := [c53, c55, c56, c60, c54, c61, c62, c64, c63]) rfl
  have h63 := s63 (lc := [c53, c55, c56, c60, c54, c61, c62, c64, c63]) rfl
  simp only [F14, Fof, ir14]
  generalize Phi [c53, c55, c56, c60, c54, c61, c62, c64, c63] = Φ at *
  have h55 := h55 ()
  have k53 := h53 l
  by_cases hli : lightT l = true
  rotate_left
  · have hli : lightT l = false := by simpa using hli
    rw [hli] at k53
    simp -implicitDefEqProofs [h55, k53]
  rw [hli] at k53
  have hl80 : l.length ≤ 80 := by simp only [lightT, Bool.and_eq_true, decide_eq_true_eq] at hli; exact hli.1
  have k54 := h54 l (by omega)
  have k56 := h56 l base
  have k60 := h60 l
  cases hm : mayT l
  · rw [hm] at k54 k56 k60
    simp only [Bool.false_eq_true, if_false, false_and, Bool.false_and, noJob] at k54 k56 k60
    simp -implicitDefEqProofs [h55, k53, k54, k56, k60]
  have hl := may_len hm
  rw [hm] at k54 k56 k60
  by_cases hb : 1 ≤ base ∧ base ≤ 1048576
  rotate_left
  · rw [if_neg (fun h => hb h.2)] at k56
    simp only [noJob] at k56
    by_cases c1 : base < 1
    · simp -implicitDefEqProofs [h55, k53, k54, k56, k60, c1]
    · have c2 : 1048576 < base := by omega
      simp -implicitDefEqProofs [h55, k53, k54, k56, k60, c1, c2]
  have c1 : ¬ base < 1 := by omega
  have c2 : ¬ 1048576 < base := by omega
  have k61 := h61 l base hm hb
  obtain ⟨u, v, d, q, e1, e2, e3, e4⟩ := pick_ref (ordT l) base (by rw [ordT_len]; exact hl) 4 0 (by omega)
  rw [if_pos ⟨rfl, hb⟩, e1] at k56
  rw [e2] at k61
  subst e3
  have k62 := h62 u u e4
  rw [decide_eq_true rfl] at k62
  by_cases hn : l = []
  · subst hn
    simp [ordT, numsT] at k60
    simp -implicitDefEqProofs [h55, k53, k54, k56, k60, k61, k62, c1, c2]
  have hlp : 0 < l.length := List.length_pos_iff.2 hn
  have hne : ¬ (l.length : Int) = 0 := by omega
  have hne' : ¬ l.length = 0 := by omega
  have k64 := h64 l (by omega)
  have k63 := h63 (ordT l) (by rw [ordT_len]; omega)
  have k62' := h62 (numsT (ordT l)) (numsT (ordT l)) (by simp only [numsT, List.length_map, ordT_len]; omega)
  rw [decide_eq_true rfl] at k62'
  have hdl := deep_last hn
  simp only [ne_eq, hn, not_false_eq_true, and_self, decide_true, Bool.and_true, if_true, ← hdl] at k60
  simp -implicitDefEqProofs [h55, k53, k54, k56, k60, k61, k62, c1, c2, hn, hne, hne']
  refine iter_meas (s := ((1 : Int), (0 : Int))) (fun s : Int × Int => (l.length - s.2).toNat) (fun s => ([⟨.bool, true⟩] : List D)) (fun s => 0 ≤ s.2 ∧ s.2 ≤ l.length ∧ deepT s.1 (l.drop s.2.toNat) = deepT 1 l) (by exact ⟨by simp, by simp, by simp⟩) ?_
  rintro ⟨a, i⟩ ⟨i1, i2, i3⟩
  simp only at i1 i2 i3 ⊢
  by_cases hi : i < l.length
  · rw [dropI i1 hi] at i3
    have g1 := getG (l := l) (d := dflt TbT) i1 (by omega)
    have b1 : 0 ≤ i ∧ i < (l.length : Int) := ⟨i1, hi⟩
    have wi : IntKind.i64.wrap (i + 1) = i + 1 := wi64 _ (by omega) (by omega)
    generalize hcx : l[i.toNat]'(by omega) = x at *
    have i3' : deepT (if a < x.2.1 then x.2.1 else a) (l.drop (i + 1).toNat) = deepT 1 l := i3
    by_cases c : a < x.2.1
    · rw [if_pos c] at i3'
      refine .inl ⟨(x.2.1, i + 1), ?_, ⟨by (try simp only); omega, by (try simp only); omega, i3'⟩, by (try simp only); omega, trivial⟩
      simp -implicitDefEqProofs [hi, b1, g1, hcx, wi, c]
    · rw [if_neg c] at i3'
      refine .inl ⟨(a, i + 1), ?_, ⟨by (try simp only); omega, by (try simp only); omega, i3'⟩, by (try simp only); omega, trivial⟩
      simp -implicitDefEqProofs [hi, b1, g1, hcx, wi, c]
  · refine .inr ?_
    rw [List.drop_eq_nil_of_le (by omega)] at i3
    have i3 : a = deepT 1 l := i3
    subst i3
    simp -implicitDefEqProofs [hi, k60, k64, k63, k62', h55]
theorem s14 {lc : List Ct} (hl0 : look (lc.map fun c => (c.sig.id, c)) 14 = some c14) : ∀ (l : List Tb) (base : Int), Does1 (Phi lc) 14 [⟨.sl TbT, l⟩, ⟨.int .i64, base⟩] [⟨.bool, true⟩] :=
  fun l base => by
    have eFc : c14.F = F14 := rfl
    have eFh := f14 l base
    rw [← eFc] at eFh
    exact Does1.of hl0 eFh rfl
end Go.Proofs.Ytdjknicjnaiomaa.Sx

set_option maxHeartbeats 8000000
/- The law of jobs: with one table in the place of those that are merged, tables may be again. -/
namespace Go.Proofs.Ytdjknicjnaiomaa.Sx
attribute [local simp ↓] den_start deb_op deb_ret deb_jump deb_itev deb_itel deb_loop deb_fail deb_nilcv
attribute [local simp] nilE_some opE_some debP_nil debP_cons pushL_nil pushL_cons retE_some iteE_some evB_nil evB_v evB_l lkE_cons consE_some d_int d_bool d_str d_nil o_add o_sub o_mul o_and o_or o_xor o_andNot o_quo o_rem o_shl o_shr o_eql o_neq o_lss o_leq o_gtr o_geq o_seql o_sneq o_slss o_sleq o_sgtr o_sgeq o_beql o_bneq o_scat o_not o_neg o_com o_conv o_s2b o_b2s o_len o_slen o_inb o_idx o_sidx o_sub3 o_sub2 o_ssub3 o_ssub2 o_app o_clr o_appn o_ful o_apps o_mk mkE_some consD_some mkD_zero mkD_int mkD_str mkD_sl o_imin o_imax o_smin o_smax o_eqs eqsE_some eqC_nil andE_some eqC_int eqC_bool eqC_str j1 outE_some outE_none outE_ite agE_1 loopE_1 agE_2 loopE_2 agE_3 loopE_3 agE_4 loopE_4 agE_5 loopE_5 agE_6 loopE_6 agE_7 loopE_7 agE_8 loopE_8 agE_9 loopE_9 List.cons_append List.nil_append List.append_nil split List.take_succ_cons List.take_zero List.drop_succ_cons List.drop_zero

abbrev leL (a b : List Int) : Prop := ltL b a = false
theorem leL_refl (a : List Int) : leL a a := ltL_irrefl a
theorem leL_trans {a b c : List Int} (h : leL a b) (k : leL b c) : leL a c := ltL_ntrans c b a k h
theorem lt_abs {a b : List Int} (h : ltL a b = true) (k : leL b a) : False := by
  have k' : ltL a b = false := k
  rw [h] at k'; cases k'
theorem filt_len (p : Tb → Bool) : ∀ l : List Tb, (l.filter (fun x => !p x)).length + (l.filter p).length = l.length
  | [] => rfl
  | x :: l => by
    have := filt_len p l
    rw [List.filter_cons, List.filter_cons]
    cases h : p x <;> simp [h] <;> omega
theorem okT_mk {n v s : Int} {f l : List Int} (h1 : 1 ≤ n ∧ n ≤ 2147483647) (h2 : 0 ≤ v ∧ v ≤ 4) (h3 : 0 ≤ s ∧ s ≤ 1073741824) (h4 : f ≠ [] ∧ f.length ≤ 64 ∧ l.length ≤ 64) (h5 : leL f l) : okT (n, v, s, f, l) = true := by
  have hor : (ltL f l || decide (f = l)) = true := by
    by_cases e : f = l
    · simp [e]
    · rw [ltL_total _ _ h5 (Ne.symm e)]; rfl
  show tabOk n v s f l = true
  unfold tabOk cnt
  rw [hor]
  simp [h1, h2, h3, h4]
theorem lt_le {a b c : List Int} (h : ltL a b = true) (k : leL b c) : ltL a c = true := by
  cases hq : ltL a c with
  | true => rfl
  | false =>
    exact (lt_abs h (leL_trans k hq)).elim
theorem le_lt {a b c : List Int} (h : leL a b) (k : ltL b c = true) : ltL a c = true := by
  cases hq : ltL a c with
  | true => rfl
  | false =>
    exact (lt_abs k (leL_trans hq h)).elim
theorem le_of_lt {a b : List Int} (h : ltL a b = true) : leL a b := (ltL_asymm _ _ h).1
theorem lt_nil {a : List Int} (h : a ≠ []) : ltL [] a = true := by cases a with | nil => exact absurd rfl h | cons => rfl
theorem nlt_nil (a : List Int) : ltL a [] = false := by cases a <;> rfl

theorem good_iff : ∀ (r pre : List Tb), goodFrom pre r = true ↔ (∀ t ∈ r, okT t = true) ∧ r.Pairwise (fun a b => clash b a = false) ∧ ∀ t ∈ r, ∀ p ∈ pre, clash t p = false
  | [], pre => by simp [goodFrom]
  | t :: r, pre => by
    simp only [goodFrom, Bool.and_eq_true, Bool.not_eq_true', List.any_eq_false, good_iff r (pre ++ [t]), List.pairwise_cons, List.mem_cons, List.mem_append, List.not_mem_nil, or_false, forall_eq_or_imp, Bool.not_eq_true]
    constructor
    · rintro ⟨⟨a, b⟩, c, d, e⟩
      exact ⟨⟨a, c⟩, ⟨fun x hx => e x hx t (.inr rfl), d⟩, b, fun x hx p hp => e x hx p (.inl hp)⟩
    · rintro ⟨⟨a, c⟩, ⟨e, d⟩, b, f⟩
      refine ⟨⟨a, b⟩, c, d, fun x hx p hp => ?_⟩
      rcases hp with hp | rfl
      · exact f x hx p hp
      · exact e x hx

theorem span_spec : ∀ (l : List Tb) (s : List Int × List Int), leL (spanFL s l).1 s.1 ∧ leL s.2 (spanFL s l).2 ∧ ∀ x ∈ l, leL (spanFL s l).1 x.f ∧ leL x.l (spanFL s l).2
  | [], s => ⟨leL_refl _, leL_refl _, fun x hx => by simp at hx⟩
  | y :: l, s => by
    have e : spanFL s (y :: l) = spanFL (minS s.1 y.f, maxS s.2 y.l) l := rfl
    rw [e]
    obtain ⟨h1, h2, h3⟩ := span_spec l (minS s.1 y.f, maxS s.2 y.l)
    simp only at h1 h2
    have a1 : leL (minS s.1 y.f) s.1 ∧ leL (minS s.1 y.f) y.f := by
      by_cases c : ltL y.f s.1 = true
      · rw [minS_lt c]; exact ⟨le_of_lt c, leL_refl _⟩
      · have c' : ltL y.f s.1 = false := by simpa using c
        rw [minS_ge c']; exact ⟨leL_refl _, c'⟩
    have a2 : leL s.2 (maxS s.2 y.l) ∧ leL y.l (maxS s.2 y.l) := by
      by_cases c : ltL y.l s.2 = true ∨ y.l = s.2
      · rw [maxS_le c]
        refine ⟨leL_refl _, ?_⟩
        rcases c with c | c
        · exact le_of_lt c
        · rw [c]; exact leL_refl _
      · rw [maxS_gt c]
        refine ⟨?_, leL_refl _⟩
        cases hq : ltL y.l s.2 with
        | false => exact hq
        | true => exact absurd (.inl hq) c
    refine ⟨leL_trans h1 a1.1, leL_trans a2.1 h2, fun x hx => ?_⟩
    rcases List.mem_cons.1 hx with rfl | hx
    · exact ⟨leL_trans h1 a1.2, leL_trans a2.2 h2⟩
    · exact h3 x hx

theorem spanT_spec {l : List Tb} {x : Tb} (hx : x ∈ l) : leL (spanT l).f x.f ∧ leL x.l (spanT l).l := by
  cases l with
  | nil => simp at hx
  | cons y r => exact (span_spec (y :: r) (y.f, y.l)).2.2 x hx

theorem meet_false {x y : Tb} (h : meetT x y = false) : ltL x.l y.f = true ∨ ltL y.l x.f = true := by
  unfold meetT meetL at h
  cases h1 : ltL x.l y.f
  · right; rw [h1] at h; simpa using h
  · exact .inl rfl

theorem meet_true {x y : Tb} (h : meetT x y = true) : leL y.f x.l ∧ leL x.f y.l := by
  unfold meetT meetL at h
  simp only [Bool.and_eq_true, Bool.not_eq_true'] at h
  exact h

/-- what is first and last of those that are merged -/
def Ends (js : List Tb) (f l : List Int) : Prop :=
  (js = [] ∧ f = [] ∧ l = []) ∨ ((∃ x ∈ js, x.f = f) ∧ (∃ x ∈ js, x.l = l) ∧ ∀ x ∈ js, leL f x.f ∧ leL x.l l)

def newF (f : List Int) (x : Tb) : List Int := if f = [] ∨ ltL x.2.2.2.1 f = true then x.2.2.2.1 else f
def newL (l : List Int) (x : Tb) : List Int := if ltL x.2.2.2.2 l = true ∨ x.2.2.2.2 = l then l else x.2.2.2.2

theorem Ends.step {js : List Tb} {f l : List Int} (h : Ends js f l) {x : Tb} (hx : okT x = true) (hj : ∀ y ∈ js, okT y = true) : Ends (js ++ [x]) (newF f x) (newL l x) := by
  have hf : x.f ≠ [] := (okT_facts hx).2.2.2.1.1
  have hlf := okT_le hx
  have hl : x.l ≠ [] := by
    intro e
    rw [e] at hlf
    have := lt_nil hf
    unfold Tb.f at this hlf
    rw [this] at hlf; cases hlf
  right
  rcases h with ⟨rfl, rfl, rfl⟩ | ⟨⟨a, ha, rfl⟩, ⟨b, hb, rfl⟩, hall⟩
  · have e1 : newF [] x = x.f := by unfold newF; rw [if_pos (.inl rfl)]; rfl
    have e2 : newL [] x = x.l := by
      unfold newL
      rw [if_neg]; rfl
      rintro (h | h)
      · have := nlt_nil x.2.2.2.2; rw [h] at this; cases this
      · exact hl h
    rw [e1, e2]
    refine ⟨⟨x, by simp, rfl⟩, ⟨x, by simp, rfl⟩, fun y hy => ?_⟩
    have : y = x := by simpa using hy
    subst this
    exact ⟨leL_refl _, leL_refl _⟩
  · have hfa : a.f ≠ [] := (okT_facts (hj a ha)).2.2.2.1.1
    have s1 : ((newF a.f x = x.f ∧ leL x.f a.f) ∨ (newF a.f x = a.f ∧ leL a.f x.f)) := by
      unfold newF
      by_cases c : ltL x.2.2.2.1 a.f = true
      · rw [if_pos (.inr c)]; exact .inl ⟨rfl, le_of_lt c⟩
      · rw [if_neg (by rintro (h | h); exact hfa h; exact c h)]
        right; exact ⟨rfl, by show ltL x.2.2.2.1 a.f = false; simpa using c⟩
    have s2 : ((newL b.l x = x.l ∧ leL b.l x.l) ∨ (newL b.l x = b.l ∧ leL x.l b.l)) := by
      unfold newL
      by_cases c : ltL x.2.2.2.2 b.l = true ∨ x.2.2.2.2 = b.l
      · rw [if_pos c]
        right
        refine ⟨rfl, ?_⟩
        rcases c with c | c
        · exact le_of_lt c
        · show leL x.2.2.2.2 b.l
          rw [c]; exact leL_refl _
      · rw [if_neg c]
        left
        refine ⟨rfl, ?_⟩
        cases hq : ltL x.2.2.2.2 b.l with
        | false => exact hq
        | true => exact absurd (.inl hq) c
    refine ⟨?_, ?_, fun y hy => ?_⟩
    · rcases s1 with s | s
      · exact ⟨x, by simp, s.1.symm⟩
      · exact ⟨a, by simp [ha], s.1.symm⟩
    · rcases s2 with s | s
      · exact ⟨x, by simp, s.1.symm⟩
      · exact ⟨b, by simp [hb], s.1.symm⟩
    · rcases List.mem_append.1 hy with hy | hy
      · obtain ⟨h1, h2⟩ := hall y hy
        constructor
        · rcases s1 with s | s <;> rw [s.1]
          · exact leL_trans s.2 h1
          · exact h1
        · rcases s2 with s | s <;> rw [s.1]
          · exact leL_trans h2 s.2
          · exact h2
      · have : y = x := by simpa using hy
        subst this
        constructor
        · rcases s1 with s | s <;> rw [s.1]
          · exact leL_refl _
          · exact s.2
        · rcases s2 with s | s <;> rw [s.1]
          · exact leL_refl _
          · exact s.2

def isIn (u : List Int) (x : Tb) : Bool := decide (x.1 ∈ u)
def inKey (key : List Int) (x : Tb) : Bool := (ltL x.2.2.2.1 key || decide (x.2.2.2.1 = key)) && (ltL key x.2.2.2.2 || decide (key = x.2.2.2.2))

theorem ofT_mem {n : Int} {l : List Tb} {x : Tb} : x ∈ ofT n l ↔ x ∈ l ∧ x.2.1 = n := by unfold ofT; rw [List.mem_filter]; simp
theorem inT_sub {n : Int} {o : List Tb} {x : Tb} (h : x ∈ inT n o) : x ∈ ofT n o := by
  unfold inT at h
  split at h
  · exact List.mem_of_mem_take h
  · exact h
theorem jobIn_mem {n : Int} {o : List Tb} {x : Tb} (h : x ∈ jobIn n o) : x ∈ o := by
  unfold jobIn at h
  rcases List.mem_append.1 h with h | h
  · exact (ofT_mem.1 (inT_sub h)).1
  · exact (ofT_mem.1 (List.mem_filter.1 h).1).1

/-- those of a job, by their numbers -/
theorem isIn_job {l : List Tb} (hm : mayT l = true) {n : Int} {x : Tb} (hx : x ∈ l) : isIn (numsT (jobIn n (ordT l))) x = true ↔ x ∈ jobIn n (ordT l) := by
  unfold isIn numsT
  rw [decide_eq_true_eq, List.mem_map]
  constructor
  · rintro ⟨y, hy, e⟩
    have hyl := ordT_mem.1 (jobIn_mem hy)
    rcases (may_ok hm).2.2 y hyl x hx with h | h
    · rw [← h]; exact hy
    · simp [clash, e] at h
  · exact fun h => ⟨x, h, rfl⟩

/-- with one table in the place of those that are merged, tables may be again -/
theorem merged_may {l : List Tb} (hm : mayT l = true) {n base : Int} (hb : 1 ≤ base) (hn : 0 ≤ n ∧ n ≤ 3) (hf : fullT (ofT n (ordT l)) n base = true) (hno : ∀ x ∈ l, x.1 ≠ 2147483647) {f e : List Int}
    (hE : Ends (l.filter (isIn (numsT (jobIn n (ordT l))))) f e) :
    mayT (l.filter (fun x => !isIn (numsT (jobIn n (ordT l))) x) ++ [(2147483647, n + 1, 0, f, e)]) = true ∧ (l.filter (isIn (numsT (jobIn n (ordT l))))) ≠ [] := by
  obtain ⟨k1, k2, k3⟩ := may_ok hm
  have hmem : ∀ x, x ∈ l.filter (isIn (numsT (jobIn n (ordT l)))) ↔ x ∈ jobIn n (ordT l) := by
    intro x
    rw [List.mem_filter]
    constructor
    · rintro ⟨h1, h2⟩; exact (isIn_job hm h1).1 h2
    · intro h
      have hl := ordT_mem.1 (jobIn_mem h)
      exact ⟨hl, (isIn_job hm hl).2 h⟩
  have hin : inT n (ordT l) ≠ [] := by
    have := full_ne hb hf
    unfold inT
    split
    · cases hq : ofT n (ordT l) with
      | nil => exact absurd hq this
      | cons => simp
    · exact this
  have hne : l.filter (isIn (numsT (jobIn n (ordT l)))) ≠ [] := by
    obtain ⟨x, hx⟩ := List.exists_mem_of_ne_nil _ hin
    exact List.ne_nil_of_mem ((hmem x).2 (by unfold jobIn; simp [hx]))
  rcases hE with ⟨h, _⟩ | ⟨⟨a, ha, rfl⟩, ⟨b, hbb, rfl⟩, hall⟩
  · exact absurd h hne
  refine ⟨?_, hne⟩
  have ha' := (hmem a).1 ha
  have hb' := (hmem b).1 hbb
  have hal := ordT_mem.1 (jobIn_mem ha')
  have hbl := ordT_mem.1 (jobIn_mem hb')
  have hlen : (l.filter (fun x => !isIn (numsT (jobIn n (ordT l))) x)).length + (l.filter (isIn (numsT (jobIn n (ordT l))))).length = l.length := by
    exact filt_len _ l
  have hpos : 0 < (l.filter (isIn (numsT (jobIn n (ordT l))))).length := List.length_pos_iff.2 hne
  have hgood := hm
  simp only [mayT, Bool.and_eq_true] at hgood
  have hpw := ((good_iff l []).1 hgood.2).2.1
  unfold mayT
  rw [Bool.and_eq_true]
  refine ⟨by rw [decide_eq_true_eq, List.length_append, List.length_singleton]; omega, ?_⟩
  refine (good_iff _ []).2 ⟨?_, ?_, fun t _ p hp => by simp at hp⟩
  · intro t ht
    rcases List.mem_append.1 ht with ht | ht
    · exact k2 t (List.mem_filter.1 ht).1
    · have : t = (2147483647, n + 1, 0, a.f, b.l) := by simpa using ht
      rw [this]
      have fa := okT_facts (k2 a hal)
      have fb := okT_facts (k2 b hbl)
      have hle : leL a.f b.l := leL_trans (okT_le (k2 a hal)) (hall a ha).2
      exact okT_mk (by omega) (by omega) (by omega) ⟨fa.2.2.2.1.1, fa.2.2.2.1.2.1, fb.2.2.2.1.2.2⟩ hle
  · refine List.pairwise_append.2 ⟨List.Pairwise.filter _ hpw, List.pairwise_singleton _ _, fun x hx y hy => ?_⟩
    have : y = (2147483647, n + 1, 0, a.f, b.l) := by simpa using hy
    subst this
    obtain ⟨hxl, hxn⟩ := List.mem_filter.1 hx
    have hxj : ¬ x ∈ jobIn n (ordT l) := fun h => by rw [(isIn_job hm hxl).2 h] at hxn; simp at hxn
    have hnum : ¬ (2147483647 : Int) = x.1 := fun h => hno x hxl h.symm
    unfold clash
    simp only [hnum, decide_false, Bool.false_or]
    by_cases hlv : n + 1 = x.2.1
    rotate_left
    · simp [hlv]
    have hp : 0 < n + 1 := by omega
    have hxo : x ∈ ofT (n + 1) (ordT l) := ofT_mem.2 ⟨ordT_mem.2 hxl, hlv.symm⟩
    have hxs : meetT x (spanT (inT n (ordT l))) = false := by
      cases hq : meetT x (spanT (inT n (ordT l))) with
      | false => rfl
      | true =>
        exfalso; apply hxj
        unfold jobIn nextT
        exact List.mem_append_right _ (List.mem_filter.2 ⟨hxo, hq⟩)
    have hxle := okT_le (k2 x hxl)
    have hpart : ∀ z ∈ nextT n (ordT l), meetT z x = false ∧ leL (spanT (inT n (ordT l))).f z.l ∧ leL z.f (spanT (inT n (ordT l))).l := by
      intro z hz
      obtain ⟨hz1, hz2⟩ := List.mem_filter.1 hz
      obtain ⟨hz3, hz4⟩ := ofT_mem.1 hz1
      refine ⟨?_, meet_true hz2⟩
      rcases k3 z (ordT_mem.1 hz3) x hxl with e | e
      · exfalso; apply hxj; rw [← e]; unfold jobIn; exact List.mem_append_right _ hz
      · simp only [clash, Bool.or_eq_false_iff, decide_eq_false_iff_not] at e
        have e2 := e.2
        rw [hz4] at e2
        have hp' : 0 < x.2.1 := by omega
        rw [hlv] at e2
        simpa [hp'] using e2
    have goal : meetT (2147483647, n + 1, 0, a.f, b.l) x = false := by
      cases hq : meetT (2147483647, n + 1, 0, a.f, b.l) x with
      | false => rfl
      | true =>
        exfalso
        obtain ⟨q1, q2⟩ := meet_true hq
        have q1 : leL x.f b.l := q1
        have q2 : leL a.f x.l := q2
        rcases meet_false hxs with c | c
        · unfold jobIn at ha'
          rcases List.mem_append.1 ha' with h | h
          · exact lt_abs (lt_le c (spanT_spec h).1) q2
          · obtain ⟨p1, p2, p3⟩ := hpart a h
            rcases meet_false p1 with d | d
            · have h1 : ltL a.l (spanT (inT n (ordT l))).f = true := lt_le (lt_le d hxle) (le_of_lt c)
              exact lt_abs h1 p2
            · have d' : ltL x.l a.f = true := d
              exact lt_abs d' q2
        · unfold jobIn at hb'
          rcases List.mem_append.1 hb' with h | h
          · exact lt_abs (le_lt (spanT_spec h).2 c) q1
          · obtain ⟨p1, p2, p3⟩ := hpart b h
            rcases meet_false p1 with d | d
            · have d' : ltL b.l x.f = true := d
              exact lt_abs d' q1
            · have h1 : ltL (spanT (inT n (ordT l))).l b.f = true := lt_le (lt_le c hxle) (le_of_lt d)
              exact lt_abs h1 p3
    rw [goal]
    simp

theorem f13 (l : List Tb) (base : Int) (key : List Int) : F13 [⟨.sl TbT, l⟩, ⟨.int .i64, base⟩, ⟨.str, key⟩] = some [⟨.bool, true⟩] := by
  have h53 := s53 (lc := [c53, c55, c54, c56, c57, c58, c59]) rfl
  have h55 := s55 (lc := [c53, c55, c54, c56, c57, c58, c59]) rfl
  have h54 := s54 (lc := [c53, c55, c54, c56, c57, c58, c59]) rfl
  have h56 := s56 (lc := [c53, c55, c54, c56, c57, c58, c59]) rfl
  have h57 := s57 (lc := [c53, c55, c54, c56, c57, c58, c59]) rfl
  have h58 := s58 (lc := [c53, c55, c54, c56, c57, c58, c59]) rfl
  have h59 := s59 (lc := [c53, c55, c54, c56, c57, c58, c59]) rfl
  simp only [F13, Fof, ir13]
  generalize Phi [c53, c55, c54, c56, c57, c58, c59] = Φ at *
  have h55 := h55 ()
  have k53 := h53 l
  by_cases hli : lightT l = true
  rotate_left
  · have hli : lightT l = false := by simpa using hli
    rw [hli] at k53
    simp -implicitDefEqProofs [h55, k53]
  rw [hli] at k53
  have hl80 : l.length ≤ 80 := by simp only [lightT, Bool.and_eq_true, decide_eq_true_eq] at hli; exact hli.1
  have k54 := h54 l (by omega)
  have k56 := h56 l base
  cases hm : mayT l
  · rw [hm] at k54
    simp -implicitDefEqProofs [h55, k53, k54]
  have hl := may_len hm
  rw [hm] at k54 k56
  by_cases c200 : (200 : Int) < key.length
  · simp -implicitDefEqProofs [h55, k53, k54, c200]
  by_cases hb : 1 ≤ base ∧ base ≤ 1048576
  rotate_left
  · rw [if_neg (fun h => hb h.2)] at k56
    simp only [noJob] at k56
    simp -implicitDefEqProofs [h55, k53, k54, k56, c200]
  rw [if_pos ⟨rfl, hb⟩] at k56
  have hpk : ∀ (k : Nat) (n : Int), 0 ≤ n → n + k = 4 → pickD (ordT l) base k n = noJob ∨ ∃ m : Int, 0 ≤ m ∧ m ≤ 3 ∧ fullT (ofT m (ordT l)) m base = true ∧ ∃ d : Bool, pickD (ordT l) base k n = [⟨.sl (.int .i64), numsT (jobIn m (ordT l))⟩, ⟨.int .i64, m + 1⟩, ⟨.bool, d⟩, ⟨.bool, true⟩] := by
    intro k
    induction k with
    | zero => intro n _ _; exact .inl rfl
    | succ k ih =>
      intro n h1 h2
      unfold pickD
      split
      · rename_i hf
        exact .inr ⟨n, h1, by omega, hf, _, rfl⟩
      · exact ih (n + 1) (by omega) (by omega)
  rcases hpk 4 0 (by omega) rfl with hj | ⟨n, n1, n2, hf, d, hj⟩
  · rw [hj] at k56
    simp only [noJob] at k56
    simp -implicitDefEqProofs [h55, k53, k54, k56, c200]
  rw [hj] at k56
  clear hj hpk
  have hul : (numsT (jobIn n (ordT l))).length < 1000000 := by
    have h1 := List.length_filter_le (fun x : Tb => decide (x.2.1 = n)) (ordT l)
    have h2 := List.length_filter_le (fun x : Tb => decide (x.2.1 = n + 1)) (ordT l)
    have h3 : (inT n (ordT l)).length ≤ 64 := by
      unfold inT ofT
      split
      · rw [List.length_take, ordT_len] at *; omega
      · rw [ordT_len] at *; omega
    have h4 : (nextT n (ordT l)).length ≤ 64 := by
      unfold nextT ofT
      refine Nat.le_trans (List.length_filter_le _ _) ?_
      rw [ordT_len] at h2; omega
    simp only [numsT, jobIn, List.length_map, List.length_append]
    omega
  have hmain := fun (f e : List Int) (hno : ∀ x ∈ l, x.1 ≠ 2147483647) => merged_may hm (n := n) (base := base) (f := f) (e := e) hb.1 ⟨n1, n2⟩ hf hno
  have hok := (may_ok hm).2.1
  clear hf
  generalize numsT (jobIn n (ordT l)) = u at *
  simp -implicitDefEqProofs [h55, k53, k54, k56, c200]
  refine iter_meas (s := (([] : List Tb), false, (0 : Int), ([] : List Int), ([] : List Int))) (fun s : List Tb × Bool × Int × List Int × List Int => (l.length - s.2.2.1).toNat) (fun s => ([⟨.bool, true⟩] : List D))
    (fun s => 0 ≤ s.2.2.1 ∧ s.2.2.1 ≤ l.length ∧ s.1 = (l.take s.2.2.1.toNat).filter (fun x => !isIn u x) ∧ s.2.1 = ((l.take s.2.2.1.toNat).filter (isIn u)).any (inKey key) ∧ Ends ((l.take s.2.2.1.toNat).filter (isIn u)) s.2.2.2.1 s.2.2.2.2 ∧ ∀ x ∈ l.take s.2.2.1.toNat, x.1 ≠ 2147483647)
    (by exact ⟨by simp, by simp, by simp, by simp, .inl ⟨by simp, rfl, rfl⟩, by simp⟩) ?_
  rintro ⟨left, was, i, ff, ee⟩ ⟨i1, i2, i3, i4, i5, i6⟩
  simp only at i1 i2 i3 i4 i5 i6 ⊢
  have hll : left.length ≤ 64 := by
    rw [i3]
    refine Nat.le_trans (List.length_filter_le _ _) ?_
    rw [List.length_take]; omega
  have hb1 : left.length + 1 ≤ BIG := by simp only [BIG]; omega
  by_cases hi : i < l.length
  · have htk : l.take (i + 1).toNat = l.take i.toNat ++ [l[i.toNat]'(by omega)] := by rw [show (i + 1).toNat = i.toNat + 1 by omega, List.take_succ_eq_append_getElem (by omega)]
    have g1 := getG (l := l) (d := dflt TbT) i1 (by omega)
    have b1 : 0 ≤ i ∧ i < (l.length : Int) := ⟨i1, hi⟩
    have wi : IntKind.i64.wrap (i + 1) = i + 1 := wi64 _ (by omega) (by omega)
    have hxo := hok _ (List.getElem_mem (show i.toNat < l.length by omega))
    have hjo : ∀ y ∈ (l.take i.toNat).filter (isIn u), okT y = true := fun y hy => hok y (List.mem_of_mem_take (List.mem_filter.1 hy).1)
    generalize hcx : l[i.toNat]'(by omega) = x at *
    by_cases hx : x.1 = 2147483647
    · refine .inr ?_
      simp -implicitDefEqProofs [hi, b1, g1, hcx, hx, h55]
    have k57 := h57 u x.1 hul
    have i6' : ∀ y ∈ l.take (i + 1).toNat, y.1 ≠ 2147483647 := by
      rw [htk]
      intro y hy
      rcases List.mem_append.1 hy with hy | hy
      · exact i6 y hy
      · have : y = x := by simpa using hy
        rw [this]; exact hx
    by_cases hu : x.1 ∈ u
    · have hin : isIn u x = true := by simp [isIn, hu]
      rw [decide_eq_true hu] at k57
      have e1 : (l.take (i + 1).toNat).filter (isIn u) = (l.take i.toNat).filter (isIn u) ++ [x] := by rw [htk, List.filter_append]; simp [hin]
      have e2 : (l.take (i + 1).toNat).filter (fun y => !isIn u y) = (l.take i.toNat).filter (fun y => !isIn u y) := by rw [htk, List.filter_append]; simp [hin]
      have hE := i5.step hxo hjo
      refine .inl ⟨(left, was || inKey key x, i + 1, newF ff x, newL ee x), ?_, ⟨by (try simp only); omega, by (try simp only); omega, ?_, ?_, ?_, i6'⟩, by (try simp only); omega, by first | trivial | rfl⟩
      rotate_left
      · simp only; rw [e2, i3]
      · simp only; rw [e1, i4, List.any_append]; simp
      · simp only; rw [e1]; exact hE
      clear i3 i4 i5 i6 i6' e1 e2 hE htk hjo hmain
      have a0 : ∀ P : Prop, [Decidable P] → P → ∀ {α : Type} (a b : α), (if P then a else b) = a := fun P _ h _ a b => if_pos h
      by_cases c1 : ff = []
      · have n1 : newF ff x = x.2.2.2.1 := if_pos (.inl c1)
        rw [n1]
        subst c1
        by_cases d1 : ltL x.2.2.2.2 ee = true
        · have n2 : newL ee x = ee := if_pos (.inl d1)
          rw [n2]
          cases was
          · unfold inKey
            by_cases q1 : ltL x.2.2.2.1 key = true
            · simp -implicitDefEqProofs [hi, b1, g1, hcx, hx, k57, wi, d1, q1]
            · have q1' : ltL x.2.2.2.1 key = false := by simpa using q1
              by_cases q2 : x.2.2.2.1 = key
              · subst q2
                simp -implicitDefEqProofs [hi, b1, g1, hcx, hx, k57, wi, d1, q1']
              · simp -implicitDefEqProofs [hi, b1, g1, hcx, hx, k57, wi, d1, q1', q2]
          · simp -implicitDefEqProofs [hi, b1, g1, hcx, hx, k57, wi, d1]
        · have d1' : ltL x.2.2.2.2 ee = false := by simpa using d1
          by_cases d2 : x.2.2.2.2 = ee
          · have n2 : newL ee x = ee := if_pos (.inr d2)
            rw [n2]
            cases was
            · unfold inKey
              by_cases q1 : ltL x.2.2.2.1 key = true
              · simp -implicitDefEqProofs [hi, b1, g1, hcx, hx, k57, wi, d1', d2, q1]
              · have q1' : ltL x.2.2.2.1 key = false := by simpa using q1
                by_cases q2 : x.2.2.2.1 = key
                · subst q2
                  simp -implicitDefEqProofs [hi, b1, g1, hcx, hx, k57, wi, d1', d2, q1']
                · simp -implicitDefEqProofs [hi, b1, g1, hcx, hx, k57, wi, d1', d2, q1', q2]
            · simp -implicitDefEqProofs [hi, b1, g1, hcx, hx, k57, wi, d1', d2]
          · have n2 : newL ee x = x.2.2.2.2 := if_neg (fun h => h.elim d1 d2)
            rw [n2]
            cases was
            · unfold inKey
              by_cases q1 : ltL x.2.2.2.1 key = true
              · simp -implicitDefEqProofs [hi, b1, g1, hcx, hx, k57, wi, d1', d2, q1]
              · have q1' : ltL x.2.2.2.1 key = false := by simpa using q1
                by_cases q2 : x.2.2.2.1 = key
                · subst q2
                  simp -implicitDefEqProofs [hi, b1, g1, hcx, hx, k57, wi, d1', d2, q1']
                · simp -implicitDefEqProofs [hi, b1, g1, hcx, hx, k57, wi, d1', d2, q1', q2]
            · simp -implicitDefEqProofs [hi, b1, g1, hcx, hx, k57, wi, d1', d2]
      · by_cases c2 : ltL x.2.2.2.1 ff = true
        · have n1 : newF ff x = x.2.2.2.1 := if_pos (.inr c2)
          rw [n1]
          by_cases d1 : ltL x.2.2.2.2 ee = true
          · have n2 : newL ee x = ee := if_pos (.inl d1)
            rw [n2]
            cases was
            · unfold inKey
              by_cases q1 : ltL x.2.2.2.1 key = true
              · simp -implicitDefEqProofs [hi, b1, g1, hcx, hx, k57, wi, c1, c2, d1, q1]
              · have q1' : ltL x.2.2.2.1 key = false := by simpa using q1
                by_cases q2 : x.2.2.2.1 = key
                · subst q2
                  simp -implicitDefEqProofs [hi, b1, g1, hcx, hx, k57, wi, c1, c2, d1, q1']
                · simp -implicitDefEqProofs [hi, b1, g1, hcx, hx, k57, wi, c1, c2, d1, q1', q2]
            · simp -implicitDefEqProofs [hi, b1, g1, hcx, hx, k57, wi, c1, c2, d1]
          · have d1' : ltL x.2.2.2.2 ee = false := by simpa using d1
            by_cases d2 : x.2.2.2.2 = ee
            · have n2 : newL ee x = ee := if_pos (.inr d2)
              rw [n2]
              cases was
              · unfold inKey
                by_cases q1 : ltL x.2.2.2.1 key = true
                · simp -implicitDefEqProofs [hi, b1, g1, hcx, hx, k57, wi, c1, c2, d1', d2, q1]
                · have q1' : ltL x.2.2.2.1 key = false := by simpa using q1
                  by_cases q2 : x.2.2.2.1 = key
                  · subst q2
                    simp -implicitDefEqProofs [hi, b1, g1, hcx, hx, k57, wi, c1, c2, d1', d2, q1']
                  · simp -implicitDefEqProofs [hi, b1, g1, hcx, hx, k57, wi, c1, c2, d1', d2, q1', q2]
              · simp -implicitDefEqProofs [hi, b1, g1, hcx, hx, k57, wi, c1, c2, d1', d2]
            · have n2 : newL ee x = x.2.2.2.2 := if_neg (fun h => h.elim d1 d2)
              rw [n2]
              cases was
              · unfold inKey
                by_cases q1 : ltL x.2.2.2.1 key = true
                · simp -implicitDefEqProofs [hi, b1, g1, hcx, hx, k57, wi, c1, c2, d1', d2, q1]
                · have q1' : ltL x.2.2.2.1 key = false := by simpa using q1
                  by_cases q2 : x.2.2.2.1 = key
                  · subst q2
                    simp -implicitDefEqProofs [hi, b1, g1, hcx, hx, k57, wi, c1, c2, d1', d2, q1']
                  · simp -implicitDefEqProofs [hi, b1, g1, hcx, hx, k57, wi, c1, c2, d1', d2, q1', q2]
              · simp -implicitDefEqProofs [hi, b1, g1, hcx, hx, k57, wi, c1, c2, d1', d2]
        · have c2' : ltL x.2.2.2.1 ff = false := by simpa using c2
          have n1 : newF ff x = ff := if_neg (fun h => h.elim c1 c2)
          rw [n1]
          by_cases d1 : ltL x.2.2.2.2 ee = true
          · have n2 : newL ee x = ee := if_pos (.inl d1)
            rw [n2]
            cases was
            · unfold inKey
              by_cases q1 : ltL x.2.2.2.1 key = true
              · simp -implicitDefEqProofs [hi, b1, g1, hcx, hx, k57, wi, c1, c2', d1, q1]
              · have q1' : ltL x.2.2.2.1 key = false := by simpa using q1
                by_cases q2 : x.2.2.2.1 = key
                · subst q2
                  simp -implicitDefEqProofs [hi, b1, g1, hcx, hx, k57, wi, c1, c2', d1, q1']
                · simp -implicitDefEqProofs [hi, b1, g1, hcx, hx, k57, wi, c1, c2', d1, q1', q2]
            · simp -implicitDefEqProofs [hi, b1, g1, hcx, hx, k57, wi, c1, c2', d1]
          · have d1' : ltL x.2.2.2.2 ee = false := by simpa using d1
            by_cases d2 : x.2.2.2.2 = ee
            · have n2 : newL ee x = ee := if_pos (.inr d2)
              rw [n2]
              cases was
              · unfold inKey
                by_cases q1 : ltL x.2.2.2.1 key = true
                · simp -implicitDefEqProofs [hi, b1, g1, hcx, hx, k57, wi, c1, c2', d1', d2, q1]
                · have q1' : ltL x.2.2.2.1 key = false := by simpa using q1
                  by_cases q2 : x.2.2.2.1 = key
                  · subst q2
                    simp -implicitDefEqProofs [hi, b1, g1, hcx, hx, k57, wi, c1, c2', d1', d2, q1']
                  · simp -implicitDefEqProofs [hi, b1, g1, hcx, hx, k57, wi, c1, c2', d1', d2, q1', q2]
              · simp -implicitDefEqProofs [hi, b1, g1, hcx, hx, k57, wi, c1, c2', d1', d2]
            · have n2 : newL ee x = x.2.2.2.2 := if_neg (fun h => h.elim d1 d2)
              rw [n2]
              cases was
              · unfold inKey
                by_cases q1 : ltL x.2.2.2.1 key = true
                · simp -implicitDefEqProofs [hi, b1, g1, hcx, hx, k57, wi, c1, c2', d1', d2, q1]
                · have q1' : ltL x.2.2.2.1 key = false := by simpa using q1
                  by_cases q2 : x.2.2.2.1 = key
                  · subst q2
                    simp -implicitDefEqProofs [hi, b1, g1, hcx, hx, k57, wi, c1, c2', d1', d2, q1']
                  · simp -implicitDefEqProofs [hi, b1, g1, hcx, hx, k57, wi, c1, c2', d1', d2, q1', q2]
              · simp -implicitDefEqProofs [hi, b1, g1, hcx, hx, k57, wi, c1, c2', d1', d2]
    · have hin : isIn u x = false := by simp [isIn, hu]
      rw [decide_eq_false hu] at k57
      have e1 : (l.take (i + 1).toNat).filter (isIn u) = (l.take i.toNat).filter (isIn u) := by rw [htk, List.filter_append]; simp [hin]
      have e2 : (l.take (i + 1).toNat).filter (fun y => !isIn u y) = (l.take i.toNat).filter (fun y => !isIn u y) ++ [x] := by rw [htk, List.filter_append]; simp [hin]
      refine .inl ⟨(left ++ [x], was, i + 1, ff, ee), ?_, ⟨by (try simp only); omega, by (try simp only); omega, ?_, ?_, ?_, i6'⟩, by (try simp only); omega, by first | trivial | rfl⟩
      rotate_left
      · simp only; rw [e2, i3]
      · simp only; rw [e1, i4]
      · simp only; rw [e1]; exact i5
      clear i3 i4 i5 i6 i6' e1 e2 htk hjo hmain
      simp -implicitDefEqProofs [hi, b1, g1, hcx, hx, k57, wi, hb1]
  · refine .inr ?_
    rw [List.take_of_length_le (by omega)] at i3 i4 i5 i6
    obtain ⟨m1, m2⟩ := hmain ff ee i6 i5
    rw [← i3] at m1
    have k58 := h58 (left ++ [(2147483647, n + 1, 0, ff, ee)])
    rw [m1] at k58
    simp only [if_true] at k58
    cases was with
    | false =>
      clear i3 i4 i5 i6 m1 m2 hmain
      simp -implicitDefEqProofs [hi, hb1, k58, h55]
    | true =>
      have k59 := h59 (left ++ [(2147483647, n + 1, 0, ff, ee)]) key
      rw [m1] at k59
      simp only [if_true] at k59
      have hmem : (2147483647 : Int) ∈ numsT ((ordT (left ++ [(2147483647, n + 1, 0, ff, ee)])).filter (hasK key)) := by
        unfold numsT
        refine List.mem_map.2 ⟨(2147483647, n + 1, 0, ff, ee), List.mem_filter.2 ⟨ordT_mem.2 (by simp), ?_⟩, rfl⟩
        obtain ⟨x, hx1, hx2⟩ := List.any_eq_true.1 i4.symm
        rcases i5 with ⟨e, _⟩ | ⟨_, _, hall⟩
        · rw [e] at hx1; simp at hx1
        · obtain ⟨a1, a2⟩ := hall x hx1
          unfold inKey at hx2
          simp only [Bool.and_eq_true, Bool.or_eq_true, decide_eq_true_eq] at hx2
          have q1 : leL ff key := by
            rcases hx2.1 with h | h
            · exact leL_trans a1 (le_of_lt h)
            · rw [← h]; exact a1
          have q2 : leL key ee := by
            rcases hx2.2 with h | h
            · exact leL_trans (le_of_lt h) a2
            · rw [h]; exact a2
          unfold hasK
          simp only
          have q2' : ltL ee key = false := q2
          rw [q2']
          by_cases e : ff = key
          · simp [e]
          · rw [ltL_total _ _ q1 (Ne.symm e)]; rfl
      have hnl : (numsT ((ordT (left ++ [(2147483647, n + 1, 0, ff, ee)])).filter (hasK key))).length < 1000000 := by
        unfold numsT
        rw [List.length_map]
        refine Nat.lt_of_le_of_lt (List.length_filter_le _ _) ?_
        rw [ordT_len, List.length_append]; simp; omega
      have k57 := h57 _ (2147483647 : Int) hnl
      rw [decide_eq_true hmem] at k57
      clear i3 i4 i5 i6 m1 m2 hmain hmem hnl
      generalize numsT ((ordT (left ++ [(2147483647, n + 1, 0, ff, ee)])).filter (hasK key)) = w at *
      simp -implicitDefEqProofs [hi, hb1, k58, k59, k57, h55]
theorem s13 {lc : List Ct} (hl0 : look (lc.map fun c => (c.sig.id, c)) 13 = some c13) : ∀ (l : List Tb) (base : Int) (key : List Int), Does1 (Phi lc) 13 [⟨.sl TbT, l⟩, ⟨.int .i64, base⟩, ⟨.str, key⟩] [⟨.bool, true⟩] :=
  fun l base key => by
    have eFc : c13.F = F13 := rfl
    have eFh := f13 l base key
    rw [← eFc] at eFh
    exact Does1.of hl0 eFh rfl
end Go.Proofs.Ytdjknicjnaiomaa.Sx
