/-
  The reference's reader answers the same; what is read was put so, what was put is read; what the laws EditGets and EditReads answer.
-/
import Derived.Test.YtdjknicjnaiomaaE3
set_option linter.unusedVariables false
set_option linter.unusedSimpArgs false
set_option maxHeartbeats 8000000
/- Edits read back by the reference. -/
namespace Go.Proofs.Ytdjknicjnaiomaa.Sx
attribute [local simp ↓] den_start deb_op deb_ret deb_jump deb_itev deb_itel deb_loop deb_fail deb_nilcv
attribute [local simp] nilE_some opE_some debP_nil debP_cons pushL_nil pushL_cons retE_some iteE_some evB_nil evB_v evB_l lkE_cons consE_some d_int d_bool d_str d_nil o_add o_sub o_mul o_and o_or o_xor o_andNot o_quo o_rem o_shl o_shr o_eql o_neq o_lss o_leq o_gtr o_geq o_seql o_sneq o_slss o_sleq o_sgtr o_sgeq o_beql o_bneq o_scat o_not o_neg o_com o_conv o_s2b o_b2s o_len o_slen o_inb o_idx o_sidx o_sub3 o_sub2 o_ssub3 o_ssub2 o_app o_apps o_mk mkE_some consD_some mkD_zero mkD_int mkD_str mkD_sl o_imin o_imax o_smin o_smax o_eqs eqsE_some eqC_nil andE_some eqC_int eqC_bool eqC_str j1 outE_some outE_none outE_ite agE_1 loopE_1 agE_2 loopE_2 agE_3 loopE_3 agE_4 loopE_4 agE_5 loopE_5 agE_6 loopE_6 agE_7 loopE_7 agE_8 loopE_8 agE_9 loopE_9 List.cons_append List.nil_append List.append_nil split List.take_succ_cons List.take_zero List.drop_succ_cons List.drop_zero

def numV (b : List Int) : Int := if gvN b = 0 ∨ 2147483647 < gvV b then 0 else gvV b
def numN (b : List Int) : Nat := if gvN b = 0 ∨ 2147483647 < gvV b then 0 else gvN b

theorem f95 (b : List Int) (hb : ∀ c ∈ b, 0 ≤ c ∧ c < 256) (hl : b.length < 10000000000) : F95 [⟨.sl (.int .u8), b⟩] = some [⟨.int .i64, numV b⟩, ⟨.int .i64, numN b⟩] := by
  have h92 := s92 (lc := [c92]) rfl
  simp only [F95, Fof, ir95]
  generalize Phi [c92] = Φ at *
  have k := h92 b hb (by omega)
  have hr := gv_range hb
  unfold numV numN
  by_cases h1 : gvN b = 0
  · simp -implicitDefEqProofs [k, h1]
  by_cases h2 : 2147483647 < gvV b
  · simp -implicitDefEqProofs [k, h1, h2]
  have w : IntKind.i64.wrap (gvV b) = gvV b := wi64 _ (by omega) (by omega)
  simp -implicitDefEqProofs [k, h1, h2, w]
theorem s95 {lc : List Ct} (hl0 : look (lc.map fun c => (c.sig.id, c)) 95 = some c95) : ∀ (b : List Int) (hb : ∀ c ∈ b, 0 ≤ c ∧ c < 256) (hl : b.length < 10000000000), Does1 (Phi lc) 95 [⟨.sl (.int .u8), b⟩] [⟨.int .i64, numV b⟩, ⟨.int .i64, numN b⟩] :=
  fun b hb hl => by
    have eFc : c95.F = F95 := rfl
    have eFh := f95 b hb hl
    rw [← eFc] at eFh
    exact Does1.of hl0 eFh rfl

theorem numVN {R : List Int} (hb : ∀ c ∈ R, 0 ≤ c ∧ c < 256) : (numT R = none ∧ numV R = 0 ∧ numN R = 0) ∨
    (∃ v g, numT R = some (v, R.drop g) ∧ numV R = v ∧ numN R = g ∧ 0 ≤ v ∧ v ≤ 2147483647 ∧ ¬ g = 0 ∧ g ≤ R.length) := by
  rcases numT_cases hb with ⟨t, hz⟩ | ⟨t, hz, hv⟩ | ⟨v, g, t, ev, eg, v0, v1, g0, g1⟩
  · exact .inl ⟨t, by simp [numV, hz], by simp [numN, hz]⟩
  · exact .inl ⟨t, by simp [numV, hv], by simp [numN, hv]⟩
  · have e : ¬ (gvN R = 0 ∨ 2147483647 < gvV R) := by omega
    exact .inr ⟨v, g, t, by rw [numV, if_neg e, ev], by rw [numN, if_neg e, eg], v0, v1, g0, g1⟩

def edD (e : Ed) : List D := [⟨.int .i64, e.1⟩, ⟨.int .i64, e.2.1⟩, ⟨.int .i64, e.2.2.1⟩, ⟨.int .i64, e.2.2.2.1⟩, ⟨.int .i64, e.2.2.2.2.1.1⟩, ⟨.int .i64, e.2.2.2.2.1.2.1⟩, ⟨.int .i64, e.2.2.2.2.1.2.2⟩, ⟨.int .i64, e.2.2.2.2.2.1⟩, ⟨.int .i64, e.2.2.2.2.2.2.1⟩, ⟨.int .i64, e.2.2.2.2.2.2.2.1⟩, ⟨.str, e.2.2.2.2.2.2.2.2.1⟩, ⟨.str, e.2.2.2.2.2.2.2.2.2⟩]
abbrev zEd : Ed := (0, 0, 0, 0, (0, 0, 0), 0, 0, 0, [], [])
def resR (m : Nat) : Option (Ed × List Int) → List D
  | some (e, r) => edD e ++ [⟨.int .i64, (m : Int) - r.length⟩]
  | none => edD zEd ++ [⟨.int .i64, 0⟩]
/-- what is left to do behind the numbers -/
def behind (k : Int) (ns r1 : List Int) : Option (Ed × List Int) :=
  if k = 4 then (match textT r1 with
      | none => none
      | some (f, r2) => match textT r2 with
        | none => none
        | some (l, r3) => some (edOf k ns f l, r3))
    else some (edOf k ns [] [], r1)
def more (k : Int) (o : Option (List Int × List Int)) (l : List Int) : Option (Ed × List Int) := match o with
  | some (ns, r) => behind k (l ++ ns) r
  | none => none

theorem nums_cnt (k : Int) (hk : 1 ≤ k ∧ k ≤ 9) : ((numsL k 0 0 0 0 0 0 0 0 0).map IntKind.u64.wrap).length = cntN k := by
  have : k = 1 ∨ k = 2 ∨ k = 3 ∨ k = 4 ∨ k = 5 ∨ k = 6 ∨ k = 7 ∨ k = 8 ∨ k = 9 := by omega
  rcases this with rfl | rfl | rfl | rfl | rfl | rfl | rfl | rfl | rfl <;> simp [numsL, partsL, numOf, cntN]
theorem cntN_le (k : Int) (hk : 1 ≤ k ∧ k ≤ 9) : cntN k ≤ 6 ∧ partsL k ≠ [] := by
  have : k = 1 ∨ k = 2 ∨ k = 3 ∨ k = 4 ∨ k = 5 ∨ k = 6 ∨ k = 7 ∨ k = 8 ∨ k = 9 := by omega
  rcases this with rfl | rfl | rfl | rfl | rfl | rfl | rfl | rfl | rfl <;> decide

theorem len1 {l : List Int} (h : l.length = 1) : ∃ a, l = [a] := by
  match l, h with | [a], _ => exact ⟨a, rfl⟩
theorem len2 {l : List Int} (h : l.length = 2) : ∃ a b, l = [a, b] := by
  match l, h with | [a, b], _ => exact ⟨a, b, rfl⟩
theorem len3 {l : List Int} (h : l.length = 3) : ∃ a b c, l = [a, b, c] := by
  match l, h with | [a, b, c], _ => exact ⟨a, b, c, rfl⟩
theorem len6 {l : List Int} (h : l.length = 6) : ∃ a b c d e f, l = [a, b, c, d, e, f] := by
  match l, h with | [a, b, c, d, e, f], _ => exact ⟨a, b, c, d, e, f, rfl⟩

theorem f96 (b : List Int) (hb : ∀ c ∈ b, 0 ≤ c ∧ c < 256) (hl : b.length < 10000000000) : F96 [⟨.sl (.int .u8), b⟩] = some (resR b.length (rawT b)) := by
  have h80 := s80 (lc := [c80, c127, c95]) rfl
  have h127 := s127 (lc := [c80, c127, c95]) rfl
  have h95 := s95 (lc := [c80, c127, c95]) rfl
  simp only [F96, Fof, ir96]
  generalize Phi [c80, c127, c95] = Φ at *
  cases b with
  | nil => simp -implicitDefEqProofs [rawT, resR, edD]
  | cons c R =>
  have hc := hb c (by simp)
  have L0 : ¬ ((R.length : Int) + 1 = 0) := by omega
  have L1 : (0 : Int) < (R.length : Int) + 1 := by omega
  have wc : IntKind.i64.wrap c = c := wi64 _ (by omega) (by omega)
  have k80 := h80 c
  by_cases hk : 1 ≤ c ∧ c ≤ 9
  rotate_left
  · have e : partsL c = [] := by
      unfold partsL
      by_cases h1 : c < 1
      · rw [if_pos h1]
      · rw [if_neg h1, if_pos (by omega)]
    rw [e] at k80
    simp -implicitDefEqProofs [wc, L0, L1, k80, rawT, hk, resR, edD]
  have hne := (cntN_le c hk).2
  have hcn := (cntN_le c hk).1
  have k127 := h127 c 0 0 0 0 0 0 0 0 0 [] []
  have hlen := nums_cnt c hk
  have m0 : mkD (Ty.int IntKind.i64) 0 [] = some ⟨.sl (.int .i64), []⟩ := rfl
  have m1 : ∀ x : Int, mkD (Ty.int IntKind.i64) 1 [⟨.int .i64, x⟩] = some ⟨.sl (.int .i64), [x]⟩ := fun _ => rfl
  generalize (numsL c 0 0 0 0 0 0 0 0 0).map IntKind.u64.wrap = NS at *
  simp -implicitDefEqProofs [wc, L0, L1, k80, hne, m0]
  have hrw : rawT (c :: R) = more c (numTs (cntN c) ((c :: R).drop 1)) [] := by
    rw [show (c :: R).drop 1 = R from rfl]
    simp only [rawT, if_pos hk, rawK, more, behind]
    cases numTs (cntN c) R with
    | none => rfl
    | some z =>
      obtain ⟨ns, r⟩ := z
      simp only [List.nil_append]
      split
      · cases textT r with
        | none => rfl
        | some y =>
          obtain ⟨f, r2⟩ := y
          simp only
          cases textT r2 with
          | none => rfl
          | some x => rfl
      · rfl
  have hlb : R.length + 1 = (c :: R).length := rfl
  have hB1 : 1 ≤ (c :: R).length := by simp
  generalize hBd : c :: R = b at *
  refine (iter_meas (fun s : List Int × Int × Int => (cntN c - s.2.2).toNat) (fun s => resR b.length (more c (numTs (cntN c - s.2.2.toNat) (b.drop s.2.1.toNat)) s.1))
    (fun s => 1 ≤ s.2.1 ∧ s.2.1 ≤ b.length ∧ 0 ≤ s.2.2 ∧ s.2.2 ≤ cntN c ∧ (s.1.length : Int) = s.2.2) ?_ ?_).trans (by rw [hrw, hlb]; simp)
  · exact ⟨by exact (by omega : (1 : Int) ≤ 1), by exact (by omega : (1 : Int) ≤ b.length), by exact (by omega : (0 : Int) ≤ 0), by exact (by omega : (0 : Int) ≤ cntN c), by simp⟩
  rintro ⟨l, t, i⟩ ⟨i1, i2, i3, i4, i5⟩
  simp only at i1 i2 i3 i4 i5 ⊢
  have hlen' : (NS.length : Int) = cntN c := by omega
  have bt : 0 ≤ t ∧ t ≤ b.length := by omega
  have hbt : ∀ d ∈ b.drop t.toNat, 0 ≤ d ∧ d < 256 := fun d hd => hb d (List.mem_of_mem_drop hd)
  have ltl : (b.drop t.toNat).length = b.length - t.toNat := List.length_drop
  by_cases hi : i < cntN c
  · have wi : IntKind.i64.wrap (i + 1) = i + 1 := wi64 _ (by omega) (by omega)
    have k95 := h95 (b.drop t.toNat) hbt (by omega)
    have hbig : l.length + 1 ≤ BIG := by simp only [BIG]; omega
    rw [show cntN c - i.toNat = (cntN c - (i + 1).toNat) + 1 by omega]
    simp only [numTs]
    rcases numVN hbt with ⟨tt, e1, e2⟩ | ⟨v, g, tt, e1, e2, v0, v1, g0, g1⟩
    · rw [e1, e2] at k95
      refine .inr ?_
      rw [tt]
      simp -implicitDefEqProofs [k127, hlen, hi, bt, k95, resR, more, edD]
    · rw [e1, e2] at k95
      have wt : IntKind.i64.wrap (t + g) = t + g := wi64 _ (by omega) (by omega)
      refine .inl ⟨(l ++ [v], t + g, i + 1), ?_, ⟨by (try simp only); omega, by (try simp only); omega, by (try simp only); omega, by (try simp only); omega, by simp; omega⟩, by (try simp only); omega, ?_⟩
      · simp -implicitDefEqProofs [k127, hlen, hi, bt, k95, g0, wt, wi, m1, hbig]
      · rw [tt]
        simp only [List.drop_drop]
        rw [show t.toNat + g = (t + (g : Int)).toNat by omega]
        generalize numTs (cntN c - (i + 1).toNat) (b.drop (t + (g : Int)).toNat) = o
        cases o with
        | none => rfl
        | some z => obtain ⟨ns, r⟩ := z; simp [more]
  · have hic : i = cntN c := by omega
    refine .inr ?_
    rw [show cntN c - i.toNat = 0 by omega]
    simp only [numTs, more, List.append_nil]
    have hll : l.length = cntN c := by omega
    have hlb : (b.drop t.toNat).length = b.length - t.toNat := List.length_drop
    have hrl : (b.length : Int) - ((b.drop t.toNat).length : Int) = t := by rw [hlb]; omega
    have hrl2 : (b.length : Int) - ((b.length - t.toNat : Nat) : Int) = t := by omega
    have W1 : IntKind.i64.wrap 1 = 1 := rfl
    have W2 : IntKind.i64.wrap 2 = 2 := rfl
    have W3 : IntKind.i64.wrap 3 = 3 := rfl
    have W4 : IntKind.i64.wrap 4 = 4 := rfl
    have W5 : IntKind.i64.wrap 5 = 5 := rfl
    clear hrw hBd hlb k127
    have : c = 1 ∨ c = 2 ∨ c = 3 ∨ c = 4 ∨ c = 5 ∨ c = 6 ∨ c = 7 ∨ c = 8 ∨ c = 9 := by omega
    rcases this with rfl | rfl | rfl | rfl | rfl | rfl | rfl | rfl | rfl
    · obtain ⟨y1, rfl⟩ := len1 (l := l) hll
      have k127 := h127 1 0 0 0 0 0 0 0 0 0 [] []
      rw [show (numsL 1 0 0 0 0 0 0 0 0 0).map IntKind.u64.wrap = [0] from rfl] at k127
      rw [show partsL 1 = [78] from rfl] at *
      have wk : IntKind.i64.wrap 1 = 1 := rfl
      have hcn1 : cntN 1 = 1 := rfl
      have hi2 : ¬ i < 1 := by omega
      simp -implicitDefEqProofs [k127, hi2]
      refine (iter_again (s' := ((1, y1, 0, 0, 0, 0, 0, 0, 0, 0, [], []) : Int × Int × Int × Int × Int × Int × Int × Int × Int × Int × List Int × List Int)) ?_).trans ?_
      · simp -implicitDefEqProofs [wk, W1, W2, W3, W4, W5]
        rfl
      refine iter_out ?_
      simp -implicitDefEqProofs []
      refine iter_out ?_
      simp [behind, edOf, resR, edD, hrl2]
    · obtain ⟨y1, y2, rfl⟩ := len2 (l := l) hll
      have k127 := h127 2 0 0 0 0 0 0 0 0 0 [] []
      rw [show (numsL 2 0 0 0 0 0 0 0 0 0).map IntKind.u64.wrap = [0, 0] from rfl] at k127
      rw [show partsL 2 = [78, 73] from rfl] at *
      have wk : IntKind.i64.wrap 2 = 2 := rfl
      have hcn1 : cntN 2 = 2 := rfl
      have hi2 : ¬ i < 2 := by omega
      simp -implicitDefEqProofs [k127, hi2]
      refine (iter_again (s' := ((1, y1, 0, 0, 0, 0, 0, 0, 0, 0, [], []) : Int × Int × Int × Int × Int × Int × Int × Int × Int × Int × List Int × List Int)) ?_).trans ?_
      · simp -implicitDefEqProofs [wk, W1, W2, W3, W4, W5]
        rfl
      refine (iter_again (s' := ((2, y1, y2, 0, 0, 0, 0, 0, 0, 0, [], []) : Int × Int × Int × Int × Int × Int × Int × Int × Int × Int × List Int × List Int)) ?_).trans ?_
      · simp -implicitDefEqProofs [wk, W1, W2, W3, W4, W5]
        rfl
      refine iter_out ?_
      simp -implicitDefEqProofs []
      refine iter_out ?_
      simp [behind, edOf, resR, edD, hrl2]
    · obtain ⟨y1, rfl⟩ := len1 (l := l) hll
      have k127 := h127 3 0 0 0 0 0 0 0 0 0 [] []
      rw [show (numsL 3 0 0 0 0 0 0 0 0 0).map IntKind.u64.wrap = [0] from rfl] at k127
      rw [show partsL 3 = [73] from rfl] at *
      have wk : IntKind.i64.wrap 3 = 3 := rfl
      have hcn1 : cntN 3 = 1 := rfl
      have hi2 : ¬ i < 1 := by omega
      simp -implicitDefEqProofs [k127, hi2]
      refine (iter_again (s' := ((1, 0, y1, 0, 0, 0, 0, 0, 0, 0, [], []) : Int × Int × Int × Int × Int × Int × Int × Int × Int × Int × List Int × List Int)) ?_).trans ?_
      · simp -implicitDefEqProofs [wk, W1, W2, W3, W4, W5]
        rfl
      refine iter_out ?_
      simp -implicitDefEqProofs []
      refine iter_out ?_
      simp [behind, edOf, resR, edD, hrl2]
    · obtain ⟨y1, y2, y3, rfl⟩ := len3 (l := l) hll
      have k127 := h127 4 0 0 0 0 0 0 0 0 0 [] []
      rw [show (numsL 4 0 0 0 0 0 0 0 0 0).map IntKind.u64.wrap = [0, 0, 0] from rfl] at k127
      rw [show partsL 4 = [66] from rfl] at *
      have wk : IntKind.i64.wrap 4 = 4 := rfl
      have hcn1 : cntN 4 = 3 := rfl
      have hi2 : ¬ i < 3 := by omega
      simp -implicitDefEqProofs [k127, hi2]
      refine (iter_again (s' := ((1, 0, 0, 0, 0, 0, 0, y1, y2, y3, [], []) : Int × Int × Int × Int × Int × Int × Int × Int × Int × Int × List Int × List Int)) ?_).trans ?_
      · simp -implicitDefEqProofs [wk, W1, W2, W3, W4, W5]
        rfl
      refine iter_out ?_
      simp -implicitDefEqProofs []
      have k95 := h95 (b.drop t.toNat) hbt (by omega)
      rcases numVN hbt with ⟨tt, e1, e2⟩ | ⟨v, g, tt, e1, e2, v0, v1, g0, g1⟩
      · rw [e1, e2] at k95
        refine iter_out ?_
        simp -implicitDefEqProofs [bt, k95, behind, textT, tt, resR, edD]
      rw [e1, e2] at k95
      have a1 : IntKind.i64.wrap ((b.length : Int) - t) = b.length - t := wi64 _ (by omega) (by omega)
      have a2 : IntKind.i64.wrap ((b.length : Int) - t - g) = b.length - t - g := wi64 _ (by omega) (by omega)
      have a3 : IntKind.i64.wrap (t + g) = t + g := wi64 _ (by omega) (by omega)
      have hR2l : ((b.drop t.toNat).drop g).length = b.length - t.toNat - g := by rw [List.length_drop, ltl]
      have hR2 : (b.drop t.toNat).drop g = b.drop (t + (g : Int)).toNat := by rw [List.drop_drop]; congr 1; omega
      rw [hR2] at tt hR2l
      by_cases s1 : (b.length : Int) - t - g < v
      · refine iter_out ?_
        have s1' : ((b.drop (t + (g : Int)).toNat).length : Int) < v := by omega
        simp only [behind, textT, tt, if_pos s1', if_true]
        simp -implicitDefEqProofs [bt, k95, g0, a1, a2, s1, resR, edD]
      have s1' : ¬ ((b.drop (t + (g : Int)).toNat).length : Int) < v := by omega
      have a4 : IntKind.i64.wrap (t + g + v) = t + g + v := wi64 _ (by omega) (by omega)
      have a5 : 0 ≤ t + (g : Int) ∧ t + (g : Int) ≤ t + g + v ∧ t + (g : Int) + v ≤ b.length := by omega
      have hT1 : (b.take (t + (g : Int) + v).toNat).drop (t + (g : Int)).toNat = (b.drop (t + (g : Int)).toNat).take v.toNat := by
        rw [List.drop_take]; congr 1; omega
      have hR3 : (b.drop (t + (g : Int)).toNat).drop v.toNat = b.drop (t + (g : Int) + v).toNat := by rw [List.drop_drop]; congr 1; omega
      refine (iter_again (s' := ((t + (g : Int) + v, 1, (b.drop (t + (g : Int)).toNat).take v.toNat, []) : Int × Int × List Int × List Int)) ?_).trans ?_
      · simp -implicitDefEqProofs [bt, k95, g0, a1, a2, a3, a4, a5, s1, hT1, W1]
      have tx : textT (b.drop t.toNat) = some ((b.drop (t + (g : Int)).toNat).take v.toNat, b.drop (t + (g : Int) + v).toNat) := by
        simp only [textT, tt, if_neg s1', hR3]
      generalize (b.drop (t + (g : Int)).toNat).take v.toNat = T1 at *
      have bt2 : 0 ≤ t + (g : Int) + v ∧ t + (g : Int) + v ≤ b.length := by omega
      simp only [behind, tx, if_true]
      generalize t + (g : Int) + v = u at *
      have hbu : ∀ d ∈ b.drop u.toNat, 0 ≤ d ∧ d < 256 := fun d hd => hb d (List.mem_of_mem_drop hd)
      have ltu : (b.drop u.toNat).length = b.length - u.toNat := List.length_drop
      have k95 := h95 (b.drop u.toNat) hbu (by omega)
      rcases numVN hbu with ⟨tt, e1, e2⟩ | ⟨v, g, tt, e1, e2, v0, v1, g0, g1⟩
      · rw [e1, e2] at k95
        refine iter_out ?_
        simp -implicitDefEqProofs [bt2, k95, textT, tt, resR, edD]
      rw [e1, e2] at k95
      have a1 : IntKind.i64.wrap ((b.length : Int) - u) = b.length - u := wi64 _ (by omega) (by omega)
      have a2 : IntKind.i64.wrap ((b.length : Int) - u - g) = b.length - u - g := wi64 _ (by omega) (by omega)
      have a3 : IntKind.i64.wrap (u + g) = u + g := wi64 _ (by omega) (by omega)
      have hR2l : ((b.drop u.toNat).drop g).length = b.length - u.toNat - g := by rw [List.length_drop, ltu]
      have hR2 : (b.drop u.toNat).drop g = b.drop (u + (g : Int)).toNat := by rw [List.drop_drop]; congr 1; omega
      rw [hR2] at tt hR2l
      by_cases s1 : (b.length : Int) - u - g < v
      · refine iter_out ?_
        have s1' : ((b.drop (u + (g : Int)).toNat).length : Int) < v := by omega
        simp only [textT, tt, if_pos s1']
        simp -implicitDefEqProofs [bt2, k95, g0, a1, a2, s1, resR, edD]
      have s1' : ¬ ((b.drop (u + (g : Int)).toNat).length : Int) < v := by omega
      have a4 : IntKind.i64.wrap (u + g + v) = u + g + v := wi64 _ (by omega) (by omega)
      have a5 : 0 ≤ u + (g : Int) ∧ u + (g : Int) ≤ u + g + v ∧ u + (g : Int) + v ≤ b.length := by omega
      have hT1 : (b.take (u + (g : Int) + v).toNat).drop (u + (g : Int)).toNat = (b.drop (u + (g : Int)).toNat).take v.toNat := by
        rw [List.drop_take]; congr 1; omega
      have hR3 : (b.drop (u + (g : Int)).toNat).drop v.toNat = b.drop (u + (g : Int) + v).toNat := by rw [List.drop_drop]; congr 1; omega
      refine (iter_again (s' := ((u + (g : Int) + v, 2, T1, (b.drop (u + (g : Int)).toNat).take v.toNat) : Int × Int × List Int × List Int)) ?_).trans ?_
      · simp -implicitDefEqProofs [bt2, k95, g0, a1, a2, a3, a4, a5, s1, hT1, W2]
      have tx : textT (b.drop u.toNat) = some ((b.drop (u + (g : Int)).toNat).take v.toNat, b.drop (u + (g : Int) + v).toNat) := by
        simp only [textT, tt, if_neg s1', hR3]
      refine iter_out ?_
      simp only [tx]
      generalize (b.drop (u + (g : Int)).toNat).take v.toNat = T2 at *
      have hrl3 : (b.length : Int) - ((b.length - (u + (g : Int) + v).toNat : Nat) : Int) = u + g + v := by omega
      simp -implicitDefEqProofs [edOf, resR, edD, hrl3]
    · obtain ⟨y1, rfl⟩ := len1 (l := l) hll
      have k127 := h127 5 0 0 0 0 0 0 0 0 0 [] []
      rw [show (numsL 5 0 0 0 0 0 0 0 0 0).map IntKind.u64.wrap = [0] from rfl] at k127
      rw [show partsL 5 = [78] from rfl] at *
      have wk : IntKind.i64.wrap 5 = 5 := rfl
      have hcn1 : cntN 5 = 1 := rfl
      have hi2 : ¬ i < 1 := by omega
      simp -implicitDefEqProofs [k127, hi2]
      refine (iter_again (s' := ((1, y1, 0, 0, 0, 0, 0, 0, 0, 0, [], []) : Int × Int × Int × Int × Int × Int × Int × Int × Int × Int × List Int × List Int)) ?_).trans ?_
      · simp -implicitDefEqProofs [wk, W1, W2, W3, W4, W5]
        rfl
      refine iter_out ?_
      simp -implicitDefEqProofs []
      refine iter_out ?_
      simp [behind, edOf, resR, edD, hrl2]
    · obtain ⟨y1, y2, y3, rfl⟩ := len3 (l := l) hll
      have k127 := h127 6 0 0 0 0 0 0 0 0 0 [] []
      rw [show (numsL 6 0 0 0 0 0 0 0 0 0).map IntKind.u64.wrap = [0, 0, 0] from rfl] at k127
      rw [show partsL 6 = [78, 73, 84] from rfl] at *
      have wk : IntKind.i64.wrap 6 = 6 := rfl
      have hcn1 : cntN 6 = 3 := rfl
      have hi2 : ¬ i < 3 := by omega
      simp -implicitDefEqProofs [k127, hi2]
      refine (iter_again (s' := ((1, y1, 0, 0, 0, 0, 0, 0, 0, 0, [], []) : Int × Int × Int × Int × Int × Int × Int × Int × Int × Int × List Int × List Int)) ?_).trans ?_
      · simp -implicitDefEqProofs [wk, W1, W2, W3, W4, W5]
        rfl
      refine (iter_again (s' := ((2, y1, y2, 0, 0, 0, 0, 0, 0, 0, [], []) : Int × Int × Int × Int × Int × Int × Int × Int × Int × Int × List Int × List Int)) ?_).trans ?_
      · simp -implicitDefEqProofs [wk, W1, W2, W3, W4, W5]
        rfl
      refine (iter_again (s' := ((3, y1, y2, y3, 0, 0, 0, 0, 0, 0, [], []) : Int × Int × Int × Int × Int × Int × Int × Int × Int × Int × List Int × List Int)) ?_).trans ?_
      · simp -implicitDefEqProofs [wk, W1, W2, W3, W4, W5]
        rfl
      refine iter_out ?_
      simp -implicitDefEqProofs []
      refine iter_out ?_
      simp [behind, edOf, resR, edD, hrl2]
    · obtain ⟨y1, rfl⟩ := len1 (l := l) hll
      have k127 := h127 7 0 0 0 0 0 0 0 0 0 [] []
      rw [show (numsL 7 0 0 0 0 0 0 0 0 0).map IntKind.u64.wrap = [0] from rfl] at k127
      rw [show partsL 7 = [73] from rfl] at *
      have wk : IntKind.i64.wrap 7 = 7 := rfl
      have hcn1 : cntN 7 = 1 := rfl
      have hi2 : ¬ i < 1 := by omega
      simp -implicitDefEqProofs [k127, hi2]
      refine (iter_again (s' := ((1, 0, y1, 0, 0, 0, 0, 0, 0, 0, [], []) : Int × Int × Int × Int × Int × Int × Int × Int × Int × Int × List Int × List Int)) ?_).trans ?_
      · simp -implicitDefEqProofs [wk, W1, W2, W3, W4, W5]
        rfl
      refine iter_out ?_
      simp -implicitDefEqProofs []
      refine iter_out ?_
      simp [behind, edOf, resR, edD, hrl2]
    · obtain ⟨y1, y2, y3, y4, y5, y6, rfl⟩ := len6 (l := l) hll
      have k127 := h127 8 0 0 0 0 0 0 0 0 0 [] []
      rw [show (numsL 8 0 0 0 0 0 0 0 0 0).map IntKind.u64.wrap = [0, 0, 0, 0, 0, 0] from rfl] at k127
      rw [show partsL 8 = [78, 73, 84, 72] from rfl] at *
      have wk : IntKind.i64.wrap 8 = 8 := rfl
      have hcn1 : cntN 8 = 6 := rfl
      have hi2 : ¬ i < 6 := by omega
      simp -implicitDefEqProofs [k127, hi2]
      refine (iter_again (s' := ((1, y1, 0, 0, 0, 0, 0, 0, 0, 0, [], []) : Int × Int × Int × Int × Int × Int × Int × Int × Int × Int × List Int × List Int)) ?_).trans ?_
      · simp -implicitDefEqProofs [wk, W1, W2, W3, W4, W5]
        rfl
      refine (iter_again (s' := ((2, y1, y2, 0, 0, 0, 0, 0, 0, 0, [], []) : Int × Int × Int × Int × Int × Int × Int × Int × Int × Int × List Int × List Int)) ?_).trans ?_
      · simp -implicitDefEqProofs [wk, W1, W2, W3, W4, W5]
        rfl
      refine (iter_again (s' := ((3, y1, y2, y3, 0, 0, 0, 0, 0, 0, [], []) : Int × Int × Int × Int × Int × Int × Int × Int × Int × Int × List Int × List Int)) ?_).trans ?_
      · simp -implicitDefEqProofs [wk, W1, W2, W3, W4, W5]
        rfl
      refine (iter_again (s' := ((4, y1, y2, y3, y4, y5, y6, 0, 0, 0, [], []) : Int × Int × Int × Int × Int × Int × Int × Int × Int × Int × List Int × List Int)) ?_).trans ?_
      · simp -implicitDefEqProofs [wk, W1, W2, W3, W4, W5]
        rfl
      refine iter_out ?_
      simp -implicitDefEqProofs []
      refine iter_out ?_
      simp [behind, edOf, resR, edD, hrl2]
    · obtain ⟨y1, rfl⟩ := len1 (l := l) hll
      have k127 := h127 9 0 0 0 0 0 0 0 0 0 [] []
      rw [show (numsL 9 0 0 0 0 0 0 0 0 0).map IntKind.u64.wrap = [0] from rfl] at k127
      rw [show partsL 9 = [73] from rfl] at *
      have wk : IntKind.i64.wrap 9 = 9 := rfl
      have hcn1 : cntN 9 = 1 := rfl
      have hi2 : ¬ i < 1 := by omega
      simp -implicitDefEqProofs [k127, hi2]
      refine (iter_again (s' := ((1, 0, y1, 0, 0, 0, 0, 0, 0, 0, [], []) : Int × Int × Int × Int × Int × Int × Int × Int × Int × Int × List Int × List Int)) ?_).trans ?_
      · simp -implicitDefEqProofs [wk, W1, W2, W3, W4, W5]
        rfl
      refine iter_out ?_
      simp -implicitDefEqProofs []
      refine iter_out ?_
      simp [behind, edOf, resR, edD, hrl2]
theorem s96 {lc : List Ct} (hl0 : look (lc.map fun c => (c.sig.id, c)) 96 = some c96) : ∀ (b : List Int) (hb : ∀ c ∈ b, 0 ≤ c ∧ c < 256) (hl : b.length < 10000000000), Does1 (Phi lc) 96 [⟨.sl (.int .u8), b⟩] (resR b.length (rawT b)) :=
  fun b hb hl => by
    have eFc : c96.F = F96 := rfl
    have eFh := f96 b hb hl
    rw [← eFc] at eFh
    exact Does1.of hl0 eFh (by unfold resR; split <;> rfl)
end Go.Proofs.Ytdjknicjnaiomaa.Sx

set_option maxHeartbeats 4000000
/- The reference reads the same edits; what is read was put so, and what was put is read. -/
namespace Go.Proofs.Ytdjknicjnaiomaa.Sx
attribute [local simp ↓] den_start deb_op deb_ret deb_jump deb_itev deb_itel deb_loop deb_fail deb_nilcv
attribute [local simp] nilE_some opE_some debP_nil debP_cons pushL_nil pushL_cons retE_some iteE_some evB_nil evB_v evB_l lkE_cons consE_some d_int d_bool d_str d_nil o_add o_sub o_mul o_and o_or o_xor o_andNot o_quo o_rem o_shl o_shr o_eql o_neq o_lss o_leq o_gtr o_geq o_seql o_sneq o_slss o_sleq o_sgtr o_sgeq o_beql o_bneq o_scat o_not o_neg o_com o_conv o_s2b o_b2s o_len o_slen o_inb o_idx o_sidx o_sub3 o_sub2 o_ssub3 o_ssub2 o_app o_apps o_mk mkE_some consD_some mkD_zero mkD_int mkD_str mkD_sl o_imin o_imax o_smin o_smax o_eqs eqsE_some eqC_nil andE_some eqC_int eqC_bool eqC_str j1 outE_some outE_none outE_ite agE_1 loopE_1 agE_2 loopE_2 agE_3 loopE_3 agE_4 loopE_4 agE_5 loopE_5 agE_6 loopE_6 agE_7 loopE_7 agE_8 loopE_8 agE_9 loopE_9 List.cons_append List.nil_append List.append_nil split List.take_succ_cons List.take_zero List.drop_succ_cons List.drop_zero

theorem numT_suf {R r : List Int} {v : Int} (h : numT R = some (v, r)) : ∃ k, r = R.drop k := by
  unfold numT at h
  split at h
  · cases h
  · simp only [Option.some.injEq, Prod.mk.injEq] at h
    exact ⟨_, h.2.symm⟩
theorem numTs_suf : ∀ (n : Nat) (R r ns : List Int), numTs n R = some (ns, r) → (∃ k, r = R.drop k) ∧ ns.length = n
  | 0, R, r, ns, h => by
    simp only [numTs, Option.some.injEq, Prod.mk.injEq] at h
    exact ⟨⟨0, h.2.symm⟩, by rw [← h.1]; rfl⟩
  | n + 1, R, r, ns, h => by
    simp only [numTs] at h
    split at h
    · rename_i v r1 h1
      split at h
      · rename_i vs r2 h2
        simp only [Option.some.injEq, Prod.mk.injEq] at h
        obtain ⟨rfl, rfl⟩ := h
        obtain ⟨k1, rfl⟩ := numT_suf h1
        obtain ⟨⟨k2, rfl⟩, hl⟩ := numTs_suf n _ _ _ h2
        exact ⟨⟨k1 + k2, List.drop_drop⟩, by simp [hl]⟩
      · cases h
    · cases h
theorem textT_suf {R r s : List Int} (h : textT R = some (s, r)) : ∃ k, r = R.drop k := by
  unfold textT at h
  split at h
  · rename_i n r1 h1
    split at h
    · cases h
    · simp only [Option.some.injEq, Prod.mk.injEq] at h
      obtain ⟨_, rfl⟩ := h
      obtain ⟨k1, rfl⟩ := numT_suf h1
      exact ⟨_, List.drop_drop⟩
  · cases h
theorem rawK_suf {k : Int} {R r : List Int} {e : Ed} (h : rawK k R = some (e, r)) : ∃ j, r = R.drop j := by
  unfold rawK at h
  split at h
  · cases h
  · rename_i ns r1 h1
    obtain ⟨⟨j1, rfl⟩, _⟩ := numTs_suf _ _ _ _ h1
    split at h
    · split at h
      · cases h
      · rename_i f r2 h2
        obtain ⟨j2, rfl⟩ := textT_suf h2
        split at h
        · cases h
        · rename_i l r3 h3
          obtain ⟨j3, rfl⟩ := textT_suf h3
          simp only [Option.some.injEq, Prod.mk.injEq] at h
          rw [← h.2]
          exact ⟨_, by rw [List.drop_drop, List.drop_drop]⟩
    · simp only [Option.some.injEq, Prod.mk.injEq] at h
      exact ⟨_, h.2.symm⟩
theorem rawT_suf {b r : List Int} {e : Ed} (h : rawT b = some (e, r)) : r = b.drop (b.length - r.length) ∧ r.length < b.length := by
  unfold rawT at h
  split at h
  · cases h
  · rename_i k R
    split at h
    · obtain ⟨j, rfl⟩ := rawK_suf h
      rw [List.length_drop, List.length_cons]
      constructor
      · by_cases hj : j ≤ R.length
        · rw [show R.length + 1 - (R.length - j) = j + 1 by omega]; rfl
        · rw [List.drop_eq_nil_of_le (by omega), List.drop_eq_nil_of_le (by simp; omega)]
      · omega
    · cases h

theorem editsT_len : ∀ (n : Nat) (b r : List Int) (l : List Ed), editsT n b = some (l, r) → l.length = n ∧ ∀ e ∈ l, okE e = true
  | 0, b, r, l, h => by
    simp only [editsT, Option.some.injEq, Prod.mk.injEq] at h
    rw [← h.1]; exact ⟨rfl, fun e he => by cases he⟩
  | n + 1, b, r, l, h => by
    simp only [editsT] at h
    split at h
    · rename_i e r1 h1
      split at h
      · rename_i es r2 h2
        simp only [Option.some.injEq, Prod.mk.injEq] at h
        obtain ⟨rfl, _⟩ := h
        obtain ⟨k1, k2⟩ := editsT_len n _ _ _ h2
        refine ⟨by simp [k1], fun x hx => ?_⟩
        rcases List.mem_cons.1 hx with rfl | hx
        · unfold editT at h1
          split at h1
          · split at h1
            · rename_i hok
              simp only [Option.some.injEq, Prod.mk.injEq] at h1
              rw [← h1.1]; exact hok
            · cases h1
          · cases h1
        · exact k2 x hx
      · cases h
    · cases h

theorem getT_pick {b r : List Int} {n : Int} (ht : numT b = some (n, r)) : (200 < n → getT b = none) ∧
    ∀ o, editsT n.toNat r = o → getT b = (match o with | some (l, []) => if 1 ≤ n ∧ n ≤ 200 then some l else none | _ => none) := by
  have h2 : ∀ o, editsT n.toNat r = o → getT b = (match o with | some (l, []) => if 1 ≤ n ∧ n ≤ 200 then some l else none | _ => none) := by
    intro o ho
    unfold getT
    rw [ht]
    simp only [ho]
    cases o with
    | none => rfl
    | some z => obtain ⟨l, r'⟩ := z; cases r' <;> rfl
  refine ⟨fun h => ?_, h2⟩
  rw [h2 _ rfl]
  split
  · rw [if_neg (by omega)]
  · rfl
def fin46 (o : Option (List Ed × List Int)) (l : List Ed) : List D := match o with
  | some (xs, []) => [⟨.sl EdT, l ++ xs⟩]
  | _ => [⟨.sl EdT, ([] : List Ed)⟩]
theorem f46 (b : List Int) (hb : ∀ c ∈ b, 0 ≤ c ∧ c < 256) (hl : b.length < 10000000000) : F46 [⟨.sl (.int .u8), b⟩] = some [⟨.sl EdT, (getT b).getD []⟩] := by
  have h95 := s95 (lc := [c95, c96, c38]) rfl
  have h96 := s96 (lc := [c95, c96, c38]) rfl
  have h38 := s38 (lc := [c95, c96, c38]) rfl
  simp only [F46, Fof, ir46]
  generalize Phi [c95, c96, c38] = Φ at *
  have k95 := h95 b hb hl
  have m0 : mkD EdT 0 [] = some ⟨.sl EdT, []⟩ := rfl
  have hmk : ∀ (a0 a1 a2 a3 a4 a5 a6 a7 a8 a9 : Int) (a10 a11 : List Int), mkD EdT 1 [⟨.int .i64, a0⟩, ⟨.int .i64, a1⟩, ⟨.int .i64, a2⟩, ⟨.int .i64, a3⟩, ⟨.int .i64, a4⟩, ⟨.int .i64, a5⟩, ⟨.int .i64, a6⟩, ⟨.int .i64, a7⟩, ⟨.int .i64, a8⟩, ⟨.int .i64, a9⟩, ⟨.str, a10⟩, ⟨.str, a11⟩] = some ⟨.sl EdT, [(a0, a1, a2, a3, (a4, a5, a6), a7, a8, a9, a10, a11)]⟩ := fun _ _ _ _ _ _ _ _ _ _ _ _ => rfl
  rcases numVN hb with ⟨tt, e1, e2⟩ | ⟨n, g, tt, e1, e2, v0, v1, g0, g1⟩
  · rw [e1, e2] at k95
    have e : getT b = none := by unfold getT; rw [tt]
    rw [e]
    simp -implicitDefEqProofs [k95]
  rw [e1, e2] at k95
  obtain ⟨q1, q2⟩ := getT_pick tt
  by_cases h200 : 200 < n
  · rw [q1 h200]
    simp -implicitDefEqProofs [k95, g0, h200]
  have hfin : ([⟨.sl EdT, (getT b).getD []⟩] : List D) = fin46 (editsT n.toNat (b.drop g)) [] := by
    cases ho : editsT n.toNat (b.drop g) with
    | none => rw [q2 _ ho]; rfl
    | some z =>
      obtain ⟨l, r⟩ := z
      have hlen := (editsT_len _ _ _ _ ho).1
      rw [q2 _ ho]
      cases r with
      | cons => rfl
      | nil =>
        simp only [fin46, List.nil_append]
        split
        · rfl
        · have hx : l = [] := List.eq_nil_of_length_eq_zero (by omega)
          rw [hx]; rfl
  rw [hfin]
  simp -implicitDefEqProofs [k95, g0, h200, m0]
  refine (iter_meas (fun s : Int × List Ed × Int => (n - s.2.2).toNat) (fun s => fin46 (editsT (n - s.2.2).toNat (b.drop s.1.toNat)) s.2.1)
    (fun s => 0 ≤ s.1 ∧ s.1 ≤ b.length ∧ 0 ≤ s.2.2 ∧ s.2.2 ≤ n ∧ (s.2.1.length : Int) ≤ s.2.2) ?_ ?_).trans (by simp)
  · exact ⟨by exact (by omega : (0 : Int) ≤ g), by exact (by omega : (g : Int) ≤ b.length), by exact (by omega : (0 : Int) ≤ 0), by exact (by omega : (0 : Int) ≤ n), by simp⟩
  rintro ⟨t, l, i⟩ ⟨i1, i2, i3, i4, i5⟩
  simp only at i1 i2 i3 i4 i5 ⊢
  have bt : 0 ≤ t ∧ t ≤ b.length := ⟨i1, i2⟩
  have ltl : (b.drop t.toNat).length = b.length - t.toNat := List.length_drop
  by_cases hi : i < n
  · have wi : IntKind.i64.wrap (i + 1) = i + 1 := wi64 _ (by omega) (by omega)
    have hbt : ∀ d ∈ b.drop t.toNat, 0 ≤ d ∧ d < 256 := fun d hd => hb d (List.mem_of_mem_drop hd)
    have k96 := h96 (b.drop t.toNat) hbt (by omega)
    have hbig : l.length + 1 ≤ BIG := by simp only [BIG]; omega
    rw [show (n - i).toNat = (n - (i + 1)).toNat + 1 by omega]
    simp only [editsT, editT]
    cases hr : rawT (b.drop t.toNat) with
    | none =>
      rw [hr] at k96
      simp only [resR, edD, List.cons_append, List.nil_append] at k96
      refine .inr ?_
      simp -implicitDefEqProofs [hi, bt, k96, fin46]
    | some z =>
      obtain ⟨e, r⟩ := z
      rw [hr] at k96
      obtain ⟨s1, s2⟩ := rawT_suf hr
      have hk : ∃ k : Nat, ((b.drop t.toNat).length : Int) - r.length = k ∧ k = (b.drop t.toNat).length - r.length ∧ 0 < k := ⟨(b.drop t.toNat).length - r.length, by omega, rfl, by omega⟩
      obtain ⟨k, hk1, hk2, hk3⟩ := hk
      simp only [resR, edD, List.cons_append, List.nil_append] at k96
      rw [hk1] at k96
      rw [← hk2, List.drop_drop] at s1
      have wt : IntKind.i64.wrap (t + k) = t + k := wi64 _ (by omega) (by omega)
      have hk0 : ¬ k = 0 := by omega
      have k38 : Does1 Φ 38 [⟨.int .i64, e.1⟩, ⟨.int .i64, e.2.1⟩, ⟨.int .i64, e.2.2.1⟩, ⟨.int .i64, e.2.2.2.1⟩, ⟨.int .i64, e.2.2.2.2.1.1⟩, ⟨.int .i64, e.2.2.2.2.1.2.1⟩, ⟨.int .i64, e.2.2.2.2.1.2.2⟩, ⟨.int .i64, e.2.2.2.2.2.1⟩, ⟨.int .i64, e.2.2.2.2.2.2.1⟩, ⟨.int .i64, e.2.2.2.2.2.2.2.1⟩, ⟨.str, e.f⟩, ⟨.str, e.l⟩] [⟨.bool, okE e⟩] := h38 _ _ _ _ _ _ _ _ _ _ _ _
      simp only
      cases ho : okE e
      · rw [ho] at k38
        refine .inr ?_
        simp -implicitDefEqProofs [hi, bt, k96, hk0, k38, fin46]
      · rw [ho] at k38
        refine .inl ⟨(t + k, l ++ [e], i + 1), ?_, ⟨by (try simp only); omega, by (try simp only); omega, by (try simp only); omega, by (try simp only); omega, by simp; omega⟩, by (try simp only); omega, ?_⟩
        · simp -implicitDefEqProofs [hi, bt, k96, hk0, k38, hmk, hbig, wt, wi]
        · simp only [if_true]
          rw [s1, show t.toNat + k = (t + (k : Int)).toNat by omega]
          generalize editsT (n - (i + 1)).toNat (b.drop (t + (k : Int)).toNat) = o
          cases o with
          | none => rfl
          | some z =>
            obtain ⟨xs, r'⟩ := z
            cases r' <;> simp [fin46]
  · refine .inr ?_
    rw [show (n - i).toNat = 0 by omega]
    simp only [editsT]
    by_cases e1 : t = b.length
    · rw [List.drop_eq_nil_of_le (by omega)]
      simp -implicitDefEqProofs [hi, e1, fin46]
    · cases hD : b.drop t.toNat with
      | nil =>
        rw [hD] at ltl
        simp only [List.length_nil] at ltl
        omega
      | cons d r => simp -implicitDefEqProofs [hi, e1, fin46]
theorem s46 {lc : List Ct} (hl0 : look (lc.map fun c => (c.sig.id, c)) 46 = some c46) : ∀ (b : List Int) (hb : ∀ c ∈ b, 0 ≤ c ∧ c < 256) (hl : b.length < 10000000000), Does1 (Phi lc) 46 [⟨.sl (.int .u8), b⟩] [⟨.sl EdT, (getT b).getD []⟩] :=
  fun b hb hl => by
    have eFc : c46.F = F46 := rfl
    have eFh := f46 b hb hl
    rw [← eFc] at eFh
    exact Does1.of hl0 eFh rfl
end Go.Proofs.Ytdjknicjnaiomaa.Sx

set_option maxHeartbeats 4000000
/- What is read of edits was put so, and what was put is read; the laws EditGets and EditReads. -/
namespace Go.Proofs.Ytdjknicjnaiomaa.Sx
attribute [local simp ↓] den_start deb_op deb_ret deb_jump deb_itev deb_itel deb_loop deb_fail deb_nilcv
attribute [local simp] nilE_some opE_some debP_nil debP_cons pushL_nil pushL_cons retE_some iteE_some evB_nil evB_v evB_l lkE_cons consE_some d_int d_bool d_str d_nil o_add o_sub o_mul o_and o_or o_xor o_andNot o_quo o_rem o_shl o_shr o_eql o_neq o_lss o_leq o_gtr o_geq o_seql o_sneq o_slss o_sleq o_sgtr o_sgeq o_beql o_bneq o_scat o_not o_neg o_com o_conv o_s2b o_b2s o_len o_slen o_inb o_idx o_sidx o_sub3 o_sub2 o_ssub3 o_ssub2 o_app o_apps o_mk mkE_some consD_some mkD_zero mkD_int mkD_str mkD_sl o_imin o_imax o_smin o_smax o_eqs eqsE_some eqC_nil andE_some eqC_int eqC_bool eqC_str j1 outE_some outE_none outE_ite agE_1 loopE_1 agE_2 loopE_2 agE_3 loopE_3 agE_4 loopE_4 agE_5 loopE_5 agE_6 loopE_6 agE_7 loopE_7 agE_8 loopE_8 agE_9 loopE_9 List.cons_append List.nil_append List.append_nil split List.take_succ_cons List.take_zero List.drop_succ_cons List.drop_zero

theorem gvx_inv {b : List Int} (hb : ∀ c ∈ b, 0 ≤ c ∧ c < 256) (h : gvN b ≠ 0) : b.take (gvN b) = one (gvV b).toNat := by
  cases hg : getv b with
  | none => exact absurd (gv_none hg).2 h
  | some y =>
    obtain ⟨v, n⟩ := y
    obtain ⟨h1, h2⟩ := gv_some hg
    obtain ⟨k1, k2, k3, _⟩ := getv_inv hb hg
    rw [h1, h2, Int.toNat_natCast]
    exact k2
theorem putL_one (v : Int) : putL [v] = one v.toNat := by simp [putL]
theorem numT_inv {R r : List Int} {v : Int} (hb : ∀ c ∈ R, 0 ≤ c ∧ c < 256) (h : numT R = some (v, r)) : R = putL [v] ++ r ∧ ∀ c ∈ r, 0 ≤ c ∧ c < 256 := by
  unfold numT at h
  split at h
  · cases h
  · rename_i hc
    simp only [Option.some.injEq, Prod.mk.injEq] at h
    obtain ⟨rfl, rfl⟩ := h
    refine ⟨?_, fun c hc => hb c (List.mem_of_mem_drop hc)⟩
    rw [putL_one, ← gvx_inv hb (fun e => hc (.inl e)), List.take_append_drop]
theorem numTs_inv : ∀ (n : Nat) (R r ns : List Int), (∀ c ∈ R, 0 ≤ c ∧ c < 256) → numTs n R = some (ns, r) → R = putL ns ++ r ∧ ∀ c ∈ r, 0 ≤ c ∧ c < 256
  | 0, R, r, ns, hb, h => by
    simp only [numTs, Option.some.injEq, Prod.mk.injEq] at h
    obtain ⟨rfl, rfl⟩ := h
    exact ⟨by simp [putL], hb⟩
  | n + 1, R, r, ns, hb, h => by
    simp only [numTs] at h
    split at h
    · rename_i v r1 h1
      split at h
      · rename_i vs r2 h2
        simp only [Option.some.injEq, Prod.mk.injEq] at h
        obtain ⟨rfl, rfl⟩ := h
        obtain ⟨e1, hb1⟩ := numT_inv hb h1
        obtain ⟨e2, hb2⟩ := numTs_inv n _ _ _ hb1 h2
        exact ⟨by rw [e1, e2, putL_one, putL_cons, List.append_assoc], hb2⟩
      · cases h
    · cases h
theorem textT_inv {R r s : List Int} (hb : ∀ c ∈ R, 0 ≤ c ∧ c < 256) (h : textT R = some (s, r)) : R = textL s ++ r ∧ ∀ c ∈ r, 0 ≤ c ∧ c < 256 := by
  unfold textT at h
  split at h
  · rename_i n r1 h1
    split at h
    · cases h
    · rename_i hc
      simp only [Option.some.injEq, Prod.mk.injEq] at h
      obtain ⟨rfl, rfl⟩ := h
      obtain ⟨e1, hb1⟩ := numT_inv hb h1
      have hn : 0 ≤ n := by
        rcases numT_cases hb with ⟨t, _⟩ | ⟨t, _⟩ | ⟨v, g, t, _, _, v0, _⟩
        · rw [t] at h1; cases h1
        · rw [t] at h1; cases h1
        · rw [t] at h1
          simp only [Option.some.injEq, Prod.mk.injEq] at h1
          omega
      refine ⟨?_, fun c hc => hb1 c (List.mem_of_mem_drop hc)⟩
      have hl : ((r1.take n.toNat).length : Int) = n := by rw [List.length_take]; omega
      rw [textL, hl, List.append_assoc, List.take_append_drop, ← e1]
  · cases h
theorem enc_edOf (k : Int) (hk : 1 ≤ k ∧ k ≤ 9) (ns f l : List Int) (hl : ns.length = cntN k) : encE (edOf k ns f l) = k :: (putL ns ++ if k = 4 then textL f ++ textL l else []) := by
  have : k = 1 ∨ k = 2 ∨ k = 3 ∨ k = 4 ∨ k = 5 ∨ k = 6 ∨ k = 7 ∨ k = 8 ∨ k = 9 := by omega
  rcases this with rfl | rfl | rfl | rfl | rfl | rfl | rfl | rfl | rfl
  · obtain ⟨a, rfl⟩ := len1 hl; simp [encE, encC, edOf, numsL, partsL, numOf]
  · obtain ⟨a, b, rfl⟩ := len2 hl; simp [encE, encC, edOf, numsL, partsL, numOf]
  · obtain ⟨a, rfl⟩ := len1 hl; simp [encE, encC, edOf, numsL, partsL, numOf]
  · obtain ⟨a, b, c, rfl⟩ := len3 hl; simp [encE, encC, edOf, numsL, partsL, numOf]
  · obtain ⟨a, rfl⟩ := len1 hl; simp [encE, encC, edOf, numsL, partsL, numOf]
  · obtain ⟨a, b, c, rfl⟩ := len3 hl; simp [encE, encC, edOf, numsL, partsL, numOf]
  · obtain ⟨a, rfl⟩ := len1 hl; simp [encE, encC, edOf, numsL, partsL, numOf]
  · obtain ⟨a, b, c, d, e, f, rfl⟩ := len6 hl; simp [encE, encC, edOf, numsL, partsL, numOf]
  · obtain ⟨a, rfl⟩ := len1 hl; simp [encE, encC, edOf, numsL, partsL, numOf]
theorem rawT_inv {b r : List Int} {e : Ed} (hb : ∀ c ∈ b, 0 ≤ c ∧ c < 256) (h : rawT b = some (e, r)) : b = encE e ++ r ∧ ∀ c ∈ r, 0 ≤ c ∧ c < 256 := by
  unfold rawT at h
  split at h
  · cases h
  · rename_i k R
    have hR : ∀ c ∈ R, 0 ≤ c ∧ c < 256 := fun c hc => hb c (by simp [hc])
    split at h
    · rename_i hk
      unfold rawK at h
      split at h
      · cases h
      · rename_i ns r1 h1
        obtain ⟨e1, hb1⟩ := numTs_inv _ _ _ _ hR h1
        have hl := (numTs_suf _ _ _ _ h1).2
        split at h
        · rename_i h4
          split at h
          · cases h
          · rename_i f r2 h2
            obtain ⟨e2, hb2⟩ := textT_inv hb1 h2
            split at h
            · cases h
            · rename_i l r3 h3
              obtain ⟨e3, hb3⟩ := textT_inv hb2 h3
              simp only [Option.some.injEq, Prod.mk.injEq] at h
              obtain ⟨rfl, rfl⟩ := h
              refine ⟨?_, hb3⟩
              rw [enc_edOf k hk _ _ _ hl, if_pos h4, e1, e2, e3]
              simp
        · rename_i h4
          simp only [Option.some.injEq, Prod.mk.injEq] at h
          obtain ⟨rfl, rfl⟩ := h
          refine ⟨?_, hb1⟩
          rw [enc_edOf k hk _ _ _ hl, if_neg h4, e1]
          simp
    · cases h
theorem editsT_inv : ∀ (n : Nat) (b r : List Int) (l : List Ed), (∀ c ∈ b, 0 ≤ c ∧ c < 256) → editsT n b = some (l, r) → b = encEs l ++ r
  | 0, b, r, l, hb, h => by
    simp only [editsT, Option.some.injEq, Prod.mk.injEq] at h
    obtain ⟨rfl, rfl⟩ := h
    simp [encEs]
  | n + 1, b, r, l, hb, h => by
    simp only [editsT] at h
    split at h
    · rename_i e r1 h1
      split at h
      · rename_i es r2 h2
        simp only [Option.some.injEq, Prod.mk.injEq] at h
        obtain ⟨rfl, rfl⟩ := h
        unfold editT at h1
        split at h1
        · rename_i e' r' h3
          split at h1
          · simp only [Option.some.injEq, Prod.mk.injEq] at h1
            obtain ⟨rfl, rfl⟩ := h1
            obtain ⟨k1, k2⟩ := rawT_inv hb h3
            have k3 := editsT_inv n _ _ _ k2 h2
            rw [encEs, List.append_assoc, ← k3, ← k1]
          · cases h1
        · cases h1
      · cases h
    · cases h
theorem getT_inv {b : List Int} (hb : ∀ c ∈ b, 0 ≤ c ∧ c < 256) {l : List Ed} (h : getT b = some l) : b = putE l ∧ mayE l = true := by
  rcases numT_cases hb with ⟨t, _⟩ | ⟨t, _⟩ | ⟨n, g, t, _, _, v0, v1, _⟩
  · unfold getT at h; rw [t] at h; cases h
  · unfold getT at h; rw [t] at h; cases h
  · obtain ⟨_, q⟩ := getT_pick t
    obtain ⟨e1, hb1⟩ := numT_inv hb t
    cases ho : editsT n.toNat (b.drop g) with
    | none => rw [q _ ho] at h; cases h
    | some z =>
      obtain ⟨xs, r⟩ := z
      rw [q _ ho] at h
      cases r with
      | cons => cases h
      | nil =>
        simp only at h
        split at h
        · rename_i hn
          simp only [Option.some.injEq] at h
          subst h
          obtain ⟨k1, k2⟩ := editsT_len _ _ _ _ ho
          have k3 := editsT_inv _ _ _ _ hb1 ho
          rw [List.append_nil] at k3
          rw [k3] at e1
          have hl : (xs.length : Int) = n := by omega
          refine ⟨by rw [putE, hl]; exact e1, ?_⟩
          simp only [mayE, Bool.and_eq_true, decide_eq_true_eq, List.all_eq_true]
          exact ⟨by omega, k2⟩
        · cases h

theorem gvx_one (v : Nat) (r : List Int) (h : v < 18446744073709551616) : gvV (one v ++ r) = v ∧ gvN (one v ++ r) = (one v).length := gv_some (getv_one v r h)
theorem numT_enc (v : Int) (h : 0 ≤ v ∧ v ≤ 2147483647) (r : List Int) : numT (putL [v] ++ r) = some (v, r) := by
  obtain ⟨v1, n1⟩ := gvx_one v.toNat r (by omega)
  have p := one_pos v.toNat
  rw [putL_one]
  unfold numT
  rw [v1, n1, if_neg (by omega), List.drop_left]
  congr 2
  omega
theorem numTs_enc : ∀ (ns r : List Int), (∀ u ∈ ns, 0 ≤ u ∧ u ≤ 2147483647) → numTs ns.length (putL ns ++ r) = some (ns, r)
  | [], r, _ => by simp [numTs, putL]
  | v :: ns, r, h => by
    have h1 := numT_enc v (h v (by simp)) (putL ns ++ r)
    have h2 := numTs_enc ns r (fun u hu => h u (by simp [hu]))
    rw [putL_cons, List.append_assoc, ← putL_one]
    simp only [List.length_cons, numTs, h1, h2]
theorem textT_enc (s r : List Int) (h : s.length ≤ 1000) : textT (textL s ++ r) = some (s, r) := by
  have h1 := numT_enc (s.length : Int) (by omega) (s ++ r)
  rw [textL, List.append_assoc]
  unfold textT
  rw [h1]
  simp only
  rw [if_neg (by rw [List.length_append]; omega), Int.toNat_natCast, List.take_left, List.drop_left]
theorem edOk_zero {k x1 x2 x3 x4 x5 x6 x7 x8 x9 : Int} {x10 x11 : List Int} (h : edOk k x1 x2 x3 x4 x5 x6 x7 x8 x9 x10 x11 = true) :
    (¬ (k = 1 ∨ k = 2 ∨ k = 5 ∨ k = 6 ∨ k = 8) → x1 = 0) ∧ (¬ (k = 2 ∨ k = 3 ∨ k = 6 ∨ k = 7 ∨ k = 8 ∨ k = 9) → x2 = 0) ∧ (¬ (k = 6 ∨ k = 8) → x3 = 0) ∧
    (¬ k = 8 → x4 = 0 ∧ x5 = 0 ∧ x6 = 0) ∧ (¬ k = 4 → x7 = 0 ∧ x8 = 0 ∧ x9 = 0 ∧ x10 = [] ∧ x11 = []) := by
  unfold edOk at h
  simp only [Bool.and_eq_true] at h
  obtain ⟨⟨⟨⟨⟨h1, h2⟩, h3⟩, h4⟩, h5⟩, h6⟩ := h
  refine ⟨fun e => ?_, fun e => ?_, fun e => ?_, fun e => ?_, fun e => ?_⟩
  · rw [if_neg e] at h1; simp only [decide_eq_true_eq] at h1; exact h1.2
  · rw [if_neg e] at h2; simpa using h2
  · rw [if_neg e] at h3; simpa using h3
  · rw [if_neg e] at h5; simpa using h5
  · rw [if_neg e] at h6; simpa using h6
theorem rawT_enc (e : Ed) (ho : okE e = true) (r : List Int) : rawT (encE e ++ r) = some (e, r) := by
  obtain ⟨k, x1, x2, x3, ⟨x4, x5, x6⟩, x7, x8, x9, x10, x11⟩ := e
  have ho : edOk k x1 x2 x3 x4 x5 x6 x7 x8 x9 x10 x11 = true := ho
  have hr := edOk_rng ho
  obtain ⟨n1, n2⟩ := nums_rng hr
  obtain ⟨z1, z2, z3, z4, z5⟩ := edOk_zero ho
  have hk := hr.k1
  have hcnt : (numsL k x1 x2 x3 x4 x5 x6 x7 x8 x9).length = cntN k := by
    have : k = 1 ∨ k = 2 ∨ k = 3 ∨ k = 4 ∨ k = 5 ∨ k = 6 ∨ k = 7 ∨ k = 8 ∨ k = 9 := by omega
    rcases this with rfl | rfl | rfl | rfl | rfl | rfl | rfl | rfl | rfl <;> rfl
  have hed : edOf k (numsL k x1 x2 x3 x4 x5 x6 x7 x8 x9) x10 x11 = (k, x1, x2, x3, (x4, x5, x6), x7, x8, x9, x10, x11) := by
    clear n1 n2 hr ho hcnt
    have : k = 1 ∨ k = 2 ∨ k = 3 ∨ k = 4 ∨ k = 5 ∨ k = 6 ∨ k = 7 ∨ k = 8 ∨ k = 9 := by omega
    rcases this with rfl | rfl | rfl | rfl | rfl | rfl | rfl | rfl | rfl <;> simp at z1 z2 z3 z4 z5 <;> simp [edOf, numsL, partsL, numOf, z1, z2, z3, z4, z5]
  have henc : encE (k, x1, x2, x3, (x4, x5, x6), x7, x8, x9, x10, x11) = k :: (putL (numsL k x1 x2 x3 x4 x5 x6 x7 x8 x9) ++ if k = 4 then textL x10 ++ textL x11 else []) := rfl
  rw [henc, List.cons_append]
  unfold rawT
  simp only
  rw [if_pos hk]
  unfold rawK
  rw [← hcnt, List.append_assoc, numTs_enc _ _ n1]
  simp only
  by_cases h4 : k = 4
  · rw [if_pos h4, if_pos h4, List.append_assoc, textT_enc _ _ (by have := hr.l10; omega)]
    simp only
    rw [textT_enc _ _ (by have := hr.l11; omega)]
    simp only
    rw [hed]
  · obtain ⟨_, _, _, rfl, rfl⟩ := z5 h4
    rw [if_neg h4, if_neg h4, hed]
    rfl
theorem editsT_enc : ∀ (l : List Ed) (r : List Int), (∀ e ∈ l, okE e = true) → editsT l.length (encEs l ++ r) = some (l, r)
  | [], r, _ => by simp [editsT, encEs]
  | e :: l, r, h => by
    have h1 := rawT_enc e (h e (by simp)) (encEs l ++ r)
    have h2 := editsT_enc l r (fun x hx => h x (by simp [hx]))
    simp only [List.length_cons, encEs, List.append_assoc, editsT, editT, h1, h2, h e (by simp), if_true]
theorem getT_enc {l : List Ed} (h : mayE l = true) : getT (putE l) = some l := by
  simp only [mayE, Bool.and_eq_true, decide_eq_true_eq, List.all_eq_true] at h
  have h1 := numT_enc (l.length : Int) (by omega) (encEs l)
  have h2 := editsT_enc l [] h.2
  rw [List.append_nil] at h2
  have h3 : editsT ((l.length : Int)).toNat (encEs l) = some (l, []) := by rw [Int.toNat_natCast]; exact h2
  rw [putE, (getT_pick h1).2 _ h3]
  simp only
  rw [if_pos (by omega)]

theorem putL_byte (l : List Int) : ∀ c ∈ putL l, 0 ≤ c ∧ c < 256 := by
  intro c hc
  simp only [putL, List.mem_flatten, List.mem_map] at hc
  obtain ⟨x, ⟨u, _, rfl⟩, hc⟩ := hc
  have := one_byte _ c hc
  omega
theorem putE_byte {l : List Ed} (ho : ∀ e ∈ l, okE e = true) (hs : ∀ e ∈ l, (∀ c ∈ e.f, 0 ≤ c ∧ c < 256) ∧ (∀ c ∈ e.l, 0 ≤ c ∧ c < 256)) : ∀ c ∈ putE l, 0 ≤ c ∧ c < 256 := by
  have key : ∀ (l : List Ed), (∀ e ∈ l, okE e = true) → (∀ e ∈ l, (∀ c ∈ e.f, 0 ≤ c ∧ c < 256) ∧ (∀ c ∈ e.l, 0 ≤ c ∧ c < 256)) → ∀ c ∈ encEs l, 0 ≤ c ∧ c < 256 := by
    intro l
    induction l with
    | nil => intro _ _ c hc; cases hc
    | cons e l ih =>
      intro ho hs c hc
      simp only [encEs, List.mem_append] at hc
      rcases hc with hc | hc
      · have hr := edOk_rng (ho e (by simp))
        obtain ⟨s1, s2⟩ := hs e (by simp)
        simp only [encE, encC, List.mem_cons, List.mem_append] at hc
        rcases hc with rfl | hc | hc
        · have := hr.k1; omega
        · exact putL_byte _ c hc
        · split at hc
          · simp only [textL, List.mem_append] at hc
            rcases hc with (hc | hc) | (hc | hc)
            · exact putL_byte _ c hc
            · exact s1 c hc
            · exact putL_byte _ c hc
            · exact s2 c hc
          · cases hc
      · exact ih (fun x hx => ho x (by simp [hx])) (fun x hx => hs x (by simp [hx])) c hc
  intro c hc
  rcases List.mem_append.1 hc with hc | hc
  · exact putL_byte _ c hc
  · exact key l ho hs c hc

theorem f9 (b : List Int) (hb : ∀ c ∈ b, 0 ≤ c ∧ c < 256) : F9 [⟨.sl (.int .u8), b⟩] = some [⟨.bool, true⟩] := by
  have h36 := s36 (lc := [c36, c45, c46, c41]) rfl
  have h45 := s45 (lc := [c36, c45, c46, c41]) rfl
  have h46 := s46 (lc := [c36, c45, c46, c41]) rfl
  have h41 := s41 (lc := [c36, c45, c46, c41]) rfl
  simp only [F9, Fof, ir9]
  generalize Phi [c36, c45, c46, c41] = Φ at *
  have h36 := h36 ()
  by_cases c1 : (3000 : Int) < b.length
  · simp -implicitDefEqProofs [h36, c1]
  have k45 := h45 b hb (by omega)
  have k46 := h46 b hb (by omega)
  have hmk : mkD (Ty.int IntKind.u8) 0 [] = some ⟨.sl (.int .u8), []⟩ := rfl
  have hbig : b.length ≤ BIG := by simp only [BIG]; omega
  cases hg : getT b with
  | none =>
    have k41 := h41 [] [] (by decide)
    rw [hg] at k45 k46
    simp only [resG, Option.getD_none] at k45 k46
    rw [decide_eq_true rfl] at k41
    simp -implicitDefEqProofs [h36, c1, hmk, hbig, k45, k46, k41]
  | some l =>
    have hm := (getT_inv hb hg).2
    simp only [mayE, Bool.and_eq_true, decide_eq_true_eq] at hm
    have k41 := h41 l l (by omega)
    rw [hg] at k45 k46
    simp only [resG, Option.getD_some] at k45 k46
    rw [decide_eq_true rfl] at k41
    have hp : 0 < l.length := by omega
    have hne : ¬ l.length = 0 := by omega
    have hne' : ¬ l = [] := fun e => hne (by rw [e]; rfl)
    simp -implicitDefEqProofs [h36, c1, hmk, hbig, k45, k46, k41, hp, hne, hne']
theorem s9 {lc : List Ct} (hl0 : look (lc.map fun c => (c.sig.id, c)) 9 = some c9) : ∀ (b : List Int) (hb : ∀ c ∈ b, 0 ≤ c ∧ c < 256), Does1 (Phi lc) 9 [⟨.sl (.int .u8), b⟩] [⟨.bool, true⟩] :=
  fun b hb => by
    have eFc : c9.F = F9 := rfl
    have eFh := f9 b hb
    rw [← eFc] at eFh
    exact Does1.of hl0 eFh rfl
theorem f10 (l : List Ed) (b : List Int) (hs : ∀ e ∈ l, (∀ c ∈ e.f, 0 ≤ c ∧ c < 256) ∧ (∀ c ∈ e.l, 0 ≤ c ∧ c < 256)) (hb : ∀ c ∈ b, 0 ≤ c ∧ c < 256) : F10 [⟨.sl EdT, l⟩, ⟨.sl (.int .u8), b⟩] = some [⟨.bool, true⟩] := by
  have h35 := s35 (lc := [c35, c36, c39, c45, c40, c41, c21]) rfl
  have h36 := s36 (lc := [c35, c36, c39, c45, c40, c41, c21]) rfl
  have h39 := s39 (lc := [c35, c36, c39, c45, c40, c41, c21]) rfl
  have h45 := s45 (lc := [c35, c36, c39, c45, c40, c41, c21]) rfl
  have h40 := s40 (lc := [c35, c36, c39, c45, c40, c41, c21]) rfl
  have h41 := s41 (lc := [c35, c36, c39, c45, c40, c41, c21]) rfl
  have h21 := s21 (lc := [c35, c36, c39, c45, c40, c41, c21]) rfl
  simp only [F10, Fof, ir10]
  generalize Phi [c35, c36, c39, c45, c40, c41, c21] = Φ at *
  have h36 := h36 ()
  have k35 := h35 l
  by_cases hl : lightE l = true
  rotate_left
  · have hl : lightE l = false := by simpa using hl
    rw [hl] at k35
    simp -implicitDefEqProofs [h36, k35]
  rw [hl] at k35
  by_cases c1 : (3000 : Int) < b.length
  · simp -implicitDefEqProofs [h36, k35, c1]
  have k39 := h39 l
  simp only [lightE, Bool.and_eq_true, decide_eq_true_eq] at hl
  have hlen := hl.1
  cases hm : mayE l
  · rw [hm] at k39
    simp only [resE, Bool.false_eq_true, if_false] at k39
    simp -implicitDefEqProofs [h36, k35, c1, k39]
  rw [hm] at k39
  simp only [resE, if_true] at k39
  have hall : ∀ e ∈ l, okE e = true := by
    have := hm
    simp only [mayE, Bool.and_eq_true, List.all_eq_true] at this
    exact this.2
  have e1 := encEs_len l hall
  have hp := putL_len [(l.length : Int)] (by simp; omega)
  simp only [List.length_cons, List.length_nil] at hp
  have hX : (putE l).length < 1000000 := by rw [putE, List.length_append]; omega
  have hXb := putE_byte hall hs
  have hget := getT_enc hm
  have hinv := fun z => getT_inv (b := b) hb (l := z)
  generalize hPE : putE l = X at *
  have k45 := h45 X hXb (by omega)
  rw [hget] at k45
  simp only [resG] at k45
  have k45' := h45 b hb (by omega)
  have k40 := h40 l l (by omega)
  have k41 := h41 l l (by omega)
  rw [decide_eq_true rfl] at k40 k41
  have k21 := h21 b X (by omega)
  cases hz : getT b with
  | none =>
    rw [hz] at k45'
    simp only [resG] at k45'
    simp -implicitDefEqProofs [h36, k35, c1, k39, k45, k45', k40, k41]
  | some z =>
    obtain ⟨z1, z2⟩ := hinv z hz
    simp only [mayE, Bool.and_eq_true, decide_eq_true_eq] at z2
    rw [hz] at k45'
    simp only [resG] at k45'
    have k41' := h41 z l (by omega)
    by_cases he : z = l
    · subst he
      have hXX : b = X := by rw [z1, hPE]
      rw [decide_eq_true rfl] at k41'
      rw [decide_eq_true hXX] at k21
      simp -implicitDefEqProofs [h36, k35, c1, k39, k45, k45', k40, k41, k21]
    · rw [decide_eq_false he] at k41'
      simp -implicitDefEqProofs [h36, k35, c1, k39, k45, k45', k40, k41, k41']
theorem s10 {lc : List Ct} (hl0 : look (lc.map fun c => (c.sig.id, c)) 10 = some c10) : ∀ (l : List Ed) (b : List Int) (hs : ∀ e ∈ l, (∀ c ∈ e.f, 0 ≤ c ∧ c < 256) ∧ (∀ c ∈ e.l, 0 ≤ c ∧ c < 256)) (hb : ∀ c ∈ b, 0 ≤ c ∧ c < 256), Does1 (Phi lc) 10 [⟨.sl EdT, l⟩, ⟨.sl (.int .u8), b⟩] [⟨.bool, true⟩] :=
  fun l b hs hb => by
    have eFc : c10.F = F10 := rfl
    have eFh := f10 l b hs hb
    rw [← eFc] at eFh
    exact Does1.of hl0 eFh rfl
theorem wf_str {x : List Int} (h : Wf .str x) : ∀ c ∈ x, 0 ≤ c ∧ c < 256 := fun c hc => by have := h.2 c hc; omega
theorem wf_eds {l : List Ed} (h : Wf (.sl EdT) l) : ∀ e ∈ l, (∀ c ∈ e.f, 0 ≤ c ∧ c < 256) ∧ (∀ c ∈ e.l, 0 ≤ c ∧ c < 256) :=
  fun e he => ⟨wf_str (h.2 e he).2.2.2.2.2.2.2.2.1, wf_str (h.2 e he).2.2.2.2.2.2.2.2.2⟩
end Go.Proofs.Ytdjknicjnaiomaa.Sx
