/-
  The laws, of the functions' texts, within the bounds that each statement names.
-/
import Derived.Test.YtolcekkcenedjaaGreatT3
set_option linter.unusedVariables false
set_option linter.unusedSimpArgs false
namespace Go.Proofs.YtolcekkcenedjaaGreat.Sx
end Go.Proofs.YtolcekkcenedjaaGreat.Sx

set_option maxHeartbeats 8000000
namespace Go.Proofs.YtolcekkcenedjaaGreat.Sx
attribute [local simp] mkp_tbl d_np_tbl o_pod_tbl mk_mark mk_it

theorem frBs_len2 : ∀ (ps : List (List It)), goodP ps → (putFs (frBs ps)).length ≤ 200 * ps.flatten.length + 20 * ps.length
  | [], _ => by simp [frBs, putFs]
  | p :: ps, h => by
    have h1 := blk_len (h p (by simp)).2.1 (h p (by simp)).2.2.1
    have h0 := (h p (by simp)).2.1
    have h2 : (putF (frB p)).length ≤ (blkPut p).length + 10 := putF_le (f := frB p) (by show (blkPut p).length < _; omega)
    have h4 := frBs_len2 ps (fun q hq => h q (by simp [hq]))
    simp only [frBs, List.map_cons, putFs, List.length_append, List.length_cons, List.flatten_cons] at h4 ⊢
    omega
theorem tab_len {ps : List (List It)} (h : goodP ps) (hl : ps.length ≤ 10000) (hn : ps.flatten.length ≤ 16384) : (tabPut ps).length ≤ 202 * ps.flatten.length + 94 * ps.length + 60 := by
  have h1 := frBs_len2 ps h
  have hix := idx_len ps 0 (goodP_fr h) (by omega)
  have hfr := tab_fr (ps := ps) (goodP_fr h) hl (by omega)
  have hft : ∀ f ∈ tailF ps ps.flatten, okF f = true := fun f hf => hfr f (List.mem_append_right _ hf)
  have f1 := hft (2, idxG 0 ps) (by simp [tailF])
  have f2 := hft (3, sieveOf (keysOf ps.flatten)) (by simp [tailF])
  have f3 := hft (4, one ps.flatten.length) (by simp [tailF])
  simp only [okF, decide_eq_true_eq] at f1 f2 f3
  have l1 : (putF (2, idxG 0 ps)).length ≤ (idxG 0 ps).length + 10 := putF_le (by show (idxG 0 ps).length < _; omega)
  have l2 : (putF (3, sieveOf (keysOf ps.flatten))).length ≤ (sieveOf (keysOf ps.flatten)).length + 10 := putF_le (by show (sieveOf (keysOf ps.flatten)).length < _; omega)
  have l3 : (putF (4, one ps.flatten.length)).length ≤ (one ps.flatten.length).length + 10 := putF_le (by show (one ps.flatten.length).length < _; omega)
  have l4 := one_len5 (n := ps.flatten.length) (by omega)
  have l5 := sieve_len (keysOf ps.flatten)
  have l6 : (keysOf ps.flatten).length = ps.flatten.length := by simp only [keysOf, List.length_map]
  rw [l6] at l5
  rw [tab_split, List.length_append]
  simp only [tailF, putFs, List.length_append, List.length_nil] at l1 l2 l3 ⊢
  unfold sieveN at l5
  omega
theorem idx_bytes' {ps : List (List It)} (h : goodP ps) (hl : ps.length ≤ 10000) (hn : ps.flatten.length ≤ 16384) : ∀ c ∈ tabPut ps, 0 ≤ c ∧ c < 256 := by
  have hfr := tab_fr (ps := ps) (goodP_fr h) hl (by omega)
  refine putFs_byte (fun f hf => ⟨hfr f hf, ?_⟩)
  rcases List.mem_append.1 hf with hf | hf
  · obtain ⟨p, hp, rfl⟩ := List.mem_map.1 hf
    exact blk_bytes (h p hp).2.2.2.2
  · exact tail_bytes h f hf
theorem made_is {l : List It} {size : Int} (hs : srt none l = true) (hm : sumsOk l) (hb : bytesOk l) (h1 : 1 ≤ l.length) (h2 : l.length ≤ 10000) : TabIs (parted size l) where
  good := parted_good hs hm hb
  srt := by rw [parted_flat]; exact hs
  ne := parted_ne (by intro e; rw [e] at h1; simp at h1)
  len := by have := parted_count size l; omega
  items := by rw [parted_flat]; omega
theorem made_open {ps : List (List It)} (h : TabIs ps) : openT (tabPut ps) = some ps :=
  openT_put (fun p hp => ⟨(h.good p hp).1, (h.good p hp).2.1, (h.good p hp).2.2.2.1⟩) h.srt h.ne h.len h.items
theorem made_bytes {l : List It} {size : Int} (hs : srt none l = true) (hm : sumsOk l) (hb : bytesOk l) (h2 : l.length ≤ 10000) : ∀ c ∈ tabPut (parted size l), 0 ≤ c ∧ c < 256 :=
  idx_bytes' (parted_good hs hm hb) (by have := parted_count size l; omega) (by rw [parted_flat]; omega)

theorem light_len {l : List It} (h : lightL l = true) : l.length ≤ 100 ∧ ∀ x ∈ l, x.1.length ≤ 200 ∧ x.2.2.2.1.length ≤ 200 := by
  simp only [lightL, Bool.and_eq_true, decide_eq_true_eq, List.all_eq_true] at h
  exact h
end Go.Proofs.YtolcekkcenedjaaGreat.Sx

namespace Go.Proofs.YtolcekkcenedjaaGreat.Sx
def sig1032 : Sig := { id := 1032, ins := [(false, Ty.int .i64)], outs := [(false, [(Ty.bool, none)])] }
def ir1032 : IR := .op (.icmp .geq) [.v 0, .l (.int .i64 1)] (.ite (.v 1) (.op (.icmp .leq) [.v 0, .l (.int .i64 2147483647)] (.ret [.v 2])) (.ret [.l (.bool false)]))
def sig1017 : Sig := { id := 1017, ins := [(false, Ty.int .i64), (false, Ty.int .i64), (false, ItT.sl)], outs := [(false, [((Ty.int .u8).sl, some 5)]), (false, [(Ty.int .i64, none)])] }
def ir1017 : IR := .op (.call 1032) [.v 0] (.op .not [.v 3] (.ite (.v 4) (.ret [.l (.nil (Ty.int .u8)), .l (.int .i64 1)]) (.op (.call 1032) [.v 1] (.op .not [.v 5] (.ite (.v 6) (.ret [.l (.nil (Ty.int .u8)), .l (.int .i64 1)]) (.op .len [.v 2] (.op (.icmp .gtr) [.v 7, .l (.int .i64 16384)] (.ite (.v 8) (.ret [.l (.nil (Ty.int .u8)), .l (.int .i64 1)]) (.op (.call 75) [.v 2] (.op .not [.v 9] (.ite (.v 10) (.ret [.l (.nil (Ty.int .u8)), .l (.int .i64 1)]) (.op .len [.v 2] (.loop [.l (.int .i64 0)] [Ty.int .i64] (.op (.icmp .lss) [.v 12, .v 11] (.ite (.v 13) (.op .inb [.v 2, .v 12] (.op (.idx ItT) [.v 2, .v 12] (.ite (.v 15) (.op (.icmp .geq) [.v 12, .l (.int .i64 0)] (.ite (.v 10) (.ret [.l (.nil (Ty.int .u8)), .l (.int .i64 1)]) (.ite (.v 22) (.ret [.l (.nil (Ty.int .u8)), .l (.int .i64 1)]) (.op (.conv .u64) [.v 0] (.op (.conv .u64) [.v 1] (.op .len [.v 2] (.op (.conv .u64) [.v 25] (.op (.mk (Ty.int .u64) 3) [.v 23, .v 24, .v 26] (.op (.call 66) [.v 27] (.op (.mk ((Ty.int .i64).pair (Ty.int .u8).sl) 1) [.l (.int .i64 5), .v 28] (.op (.call 1035) [.v 29] (.op .len [.v 2] (.op (.icmp .eql) [.v 32, .l (.int .i64 0)] (.ite (.v 33) (.ret [.v 30, .l (.int .i64 0)]) (.op (.call 1005) [.v 2, .l (.int .i64 512)] (.op .app [.v 30, .v 34] (.ret [.v 36, .v 35]))))))))))))))))) (.op (.ibin .add .i64) [.v 12, .l (.int .i64 1)] (.jump 0 [.v 22]))))) (.ite (.v 10) (.ret [.l (.nil (Ty.int .u8)), .l (.int .i64 1)]) (.op (.conv .u64) [.v 0] (.op (.conv .u64) [.v 1] (.op .len [.v 2] (.op (.conv .u64) [.v 16] (.op (.mk (Ty.int .u64) 3) [.v 14, .v 15, .v 17] (.op (.call 66) [.v 18] (.op (.mk ((Ty.int .i64).pair (Ty.int .u8).sl) 1) [.l (.int .i64 5), .v 19] (.op (.call 1035) [.v 20] (.op .len [.v 2] (.op (.icmp .eql) [.v 23, .l (.int .i64 0)] (.ite (.v 24) (.ret [.v 21, .l (.int .i64 0)]) (.op (.call 1005) [.v 2, .l (.int .i64 512)] (.op .app [.v 21, .v 25] (.ret [.v 27, .v 26]))))))))))))))))))))))))))))))
def sig1037 : Sig := { id := 1037, ins := [(false, (Ty.int .u8).sl)], outs := [(false, [(ItT.sl, some 44)]), (false, [(Ty.int .i64, none)])] }
def ir1037 : IR := .op .len [.v 0] (.op (.icmp .eql) [.v 1, .l (.int .i64 0)] (.ite (.v 2) (.ret [.l (.nil ItT), .l (.int .i64 0)]) (.op (.call 1008) [.v 0] (.op (.icmp .neq) [.v 4, .l (.int .i64 0)] (.ite (.v 5) (.ret [.l (.nil ItT), .v 4]) (.op (.call 1009) [.v 3] (.ret [.v 6, .l (.int .i64 0)])))))))
def sig1018 : Sig := { id := 1018, ins := [(false, (Ty.int .u8).sl)], outs := [(false, [(Ty.int .i64, none)]), (false, [(Ty.int .i64, none)]), (false, [(ItT.sl, some 44)]), (false, [(Ty.int .i64, none)])] }
def ir1018 : IR := .op (.call 1036) [.v 0] (.op (.icmp .neq) [.v 4, .l (.int .i64 0)] (.ite (.v 5) (.ret [.l (.int .i64 0), .l (.int .i64 0), .l (.nil ItT), .l (.int .i64 2)]) (.op (.icmp .neq) [.v 1, .l (.int .i64 5)] (.ite (.v 6) (.ret [.l (.int .i64 0), .l (.int .i64 0), .l (.nil ItT), .l (.int .i64 2)]) (.op (.call 129) [.v 2, .l (.int .i64 3)] (.op (.icmp .neq) [.v 9, .l (.int .i64 0)] (.ite (.v 10) (.ret [.l (.int .i64 0), .l (.int .i64 0), .l (.nil ItT), .l (.int .i64 2)]) (.op .inb [.v 7, .l (.int .i64 0)] (.op (.idx (Ty.int .u64)) [.v 7, .l (.int .i64 0)] (.op (.icmp .gtr) [.v 11, .l (.int .u64 2147483647)] (.ite (.v 12) (.ret [.l (.int .i64 0), .l (.int .i64 0), .l (.nil ItT), .l (.int .i64 2)]) (.op .inb [.v 7, .l (.int .i64 1)] (.op (.idx (Ty.int .u64)) [.v 7, .l (.int .i64 1)] (.op (.icmp .gtr) [.v 13, .l (.int .u64 2147483647)] (.ite (.v 14) (.ret [.l (.int .i64 0), .l (.int .i64 0), .l (.nil ItT), .l (.int .i64 2)]) (.op .sub [.v 0, .v 3] (.op (.call 1037) [.v 15] (.op (.icmp .neq) [.v 17, .l (.int .i64 0)] (.ite (.v 18) (.ret [.l (.int .i64 0), .l (.int .i64 0), .l (.nil ItT), .l (.int .i64 2)]) (.op .inb [.v 7, .l (.int .i64 0)] (.op (.idx (Ty.int .u64)) [.v 7, .l (.int .i64 0)] (.op (.conv .i64) [.v 19] (.op .inb [.v 7, .l (.int .i64 1)] (.op (.idx (Ty.int .u64)) [.v 7, .l (.int .i64 1)] (.op (.conv .i64) [.v 21] (.op (.call 1017) [.v 20, .v 22, .v 16] (.op (.icmp .neq) [.v 24, .l (.int .i64 0)] (.ite (.v 25) (.ret [.l (.int .i64 0), .l (.int .i64 0), .l (.nil ItT), .l (.int .i64 2)]) (.op (.call 67) [.v 23, .v 0] (.op .not [.v 26] (.ite (.v 27) (.ret [.l (.int .i64 0), .l (.int .i64 0), .l (.nil ItT), .l (.int .i64 2)]) (.op .inb [.v 7, .l (.int .i64 0)] (.op (.idx (Ty.int .u64)) [.v 7, .l (.int .i64 0)] (.op (.conv .i64) [.v 28] (.op .inb [.v 7, .l (.int .i64 1)] (.op (.idx (Ty.int .u64)) [.v 7, .l (.int .i64 1)] (.op (.conv .i64) [.v 30] (.ret [.v 29, .v 31, .v 16, .l (.int .i64 0)]))))))))))))))))))))))))))))))))))))))
def sig1016 : Sig := { id := 1016, ins := [], outs := [(false, [(Ty.bool, none)])] }
def ir1016 : IR := .op (.call 1017) [.l (.int .i64 7), .l (.int .i64 3), .l (.nil ItT)] (.op (.call 1018) [.v 0] (.op (.icmp .eql) [.v 1, .l (.int .i64 0)] (.ite (.v 6) (.op (.icmp .eql) [.v 5, .l (.int .i64 0)] (.ite (.v 7) (.op (.icmp .eql) [.v 2, .l (.int .i64 7)] (.ite (.v 8) (.op (.icmp .eql) [.v 3, .l (.int .i64 3)] (.ite (.v 9) (.op .len [.v 4] (.op (.icmp .eql) [.v 10, .l (.int .i64 0)] (.ite (.v 11) (.op .len [.v 0] (.op (.icmp .eql) [.v 12, .l (.int .i64 9)] (.ret [.v 13]))) (.ret [.l (.bool false)])))) (.ret [.l (.bool false)]))) (.ret [.l (.bool false)]))) (.ret [.l (.bool false)]))) (.ret [.l (.bool false)]))))
def sig1015 : Sig := { id := 1015, ins := [(true, (Ty.int .i64).pair ((Ty.int .i64).pair ItT.sl))], outs := [(false, [(Ty.bool, none)])] }
def ir1015 : IR := .loop [.l (.int .i64 0)] [Ty.int .i64] (.op .len [.v 2] (.op (.icmp .lss) [.v 3, .v 4] (.ite (.v 5) (.op .inb [.v 2, .v 3] (.op (.idx ItT) [.v 2, .v 3] (.ite (.v 7) (.ret [.l (.bool false)]) (.op (.ibin .add .i64) [.v 3, .l (.int .i64 1)] (.jump 0 [.v 14]))))) (.op (.icmp .geq) [.v 0, .l (.int .i64 1)] (.ite (.v 6) (.op (.icmp .leq) [.v 0, .l (.int .i64 2147483647)] (.ite (.v 7) (.op (.icmp .geq) [.v 1, .l (.int .i64 1)] (.ite (.v 8) (.op (.icmp .leq) [.v 1, .l (.int .i64 2147483647)] (.ite (.v 9) (.op .len [.v 2] (.op (.icmp .leq) [.v 10, .l (.int .i64 16384)] (.ite (.v 11) (.op (.call 77) [.v 2] (.ret [.v 12])) (.ret [.l (.bool false)])))) (.ret [.l (.bool false)]))) (.ret [.l (.bool false)]))) (.ret [.l (.bool false)]))) (.ret [.l (.bool false)]))))))
noncomputable def F1032 : List D → Option (List D) := Fof [] ir1032
noncomputable def c1032 : Ct := ⟨sig1032, F1032⟩
noncomputable def F1017 : List D → Option (List D) := Fof [c1032, c75, c66, c1035, c1005] ir1017
noncomputable def c1017 : Ct := ⟨sig1017, F1017⟩
noncomputable def F1037 : List D → Option (List D) := Fof [c1008, c1009] ir1037
noncomputable def c1037 : Ct := ⟨sig1037, F1037⟩
noncomputable def F1018 : List D → Option (List D) := Fof [c1036, c129, c1037, c1017, c67] ir1018
noncomputable def c1018 : Ct := ⟨sig1018, F1018⟩
noncomputable def F1016 : List D → Option (List D) := Fof [c1017, c1018] ir1016
noncomputable def c1016 : Ct := ⟨sig1016, F1016⟩
noncomputable def F1015 : List D → Option (List D) := Fof [c77] ir1015
noncomputable def c1015 : Ct := ⟨sig1015, F1015⟩
end Go.Proofs.YtolcekkcenedjaaGreat.Sx

set_option maxHeartbeats 8000000
namespace Go.Proofs.YtolcekkcenedjaaGreat.Sx
attribute [local simp] mkp_tbl d_np_tbl o_pod_tbl mk_mark mk_it

theorem any_loop {R : Type} {e : Ty} (p : List e.den) (q : e.den → Bool) (a b : R) (st : Int → Option (LS Int R))
    (h : ∀ j : Int, 0 ≤ j → j < p.length → st j = some (if q (p[j.toNat]?.getD (dflt e)) = true then .out a else .again (j + 1))) (h' : st p.length = some (.out b)) :
    iter st 0 = some (if p.any q = true then a else b) := by
  refine (iter_meas (fun s : Int => (p.length - s).toNat) (fun s => if (p.drop s.toNat).any q = true then a else b) (fun s => 0 ≤ s ∧ s ≤ p.length) (by exact ⟨by omega, by omega⟩) ?_).trans (by simp)
  rintro j ⟨j1, j2⟩
  by_cases hj : j < p.length
  · rw [dropI j1 hj, h j j1 hj, getG j1 hj, List.any_cons]
    cases hc : q (p[j.toNat]'(by omega))
    · exact .inl ⟨j + 1, by simp, ⟨by omega, by omega⟩, by omega, by simp⟩
    · exact .inr (by simp)
  · have e : j = p.length := by omega
    subst e
    rw [h', List.drop_eq_nil_of_le (by omega)]
    exact .inr (by simp)

def cntS (n : Int) : Bool := decide (1 ≤ n ∧ n ≤ 2147483647)
def deadI (l : List It) : Bool := l.any fun x => x.2.1
def maySn (i t : Int) (l : List It) : Bool := cntS i && cntS t && decide (l.length ≤ 16384) && srt none l && !deadI l
def snapPut (i t : Int) (l : List It) : List Int := putF (5, putL [i, t, (l.length : Int)]) ++ (if l.length = 0 then [] else tabPut (parted 512 l))
def resPt (i t : Int) (l : List It) : List D := if maySn i t l = true then [⟨.sl (.int .u8), snapPut i t l⟩, ⟨.int .i64, 0⟩] else [⟨.sl (.int .u8), []⟩, ⟨.int .i64, 1⟩]
def snapItems (b : List Int) : Option (List It) := if b.length = 0 then some [] else (openT b).map List.flatten
def resIt (o : Option (List It)) : List D := match o with
  | some l => [⟨.sl ItT, l⟩, ⟨.int .i64, 0⟩]
  | none => [⟨.sl ItT, []⟩, ⟨.int .i64, 2⟩]
def snapIf (b : List Int) (u v : Int) : Option (List It) → Option (Int × Int × List It)
  | none => none
  | some l => if maySn u v l = true ∧ snapPut u v l = b then some (u, v, l) else none
def snapGet (b : List Int) : Option (Int × Int × List It) := match firstF b with
  | none => none
  | some (k, y, n) => if k = 5 then (match allL 3 y with
    | some [u, v, w] => if u ≤ 2147483647 ∧ v ≤ 2147483647 then snapIf b u v (snapItems (b.drop n)) else none
    | _ => none) else none
def resSn (o : Option (Int × Int × List It)) : List D := match o with
  | some (u, v, l) => [⟨.int .i64, u⟩, ⟨.int .i64, v⟩, ⟨.sl ItT, l⟩, ⟨.int .i64, 0⟩]
  | none => [⟨.int .i64, 0⟩, ⟨.int .i64, 0⟩, ⟨.sl ItT, []⟩, ⟨.int .i64, 2⟩]

theorem f1032 (n : Int) : F1032 [⟨.int .i64, n⟩] = some [⟨.bool, cntS n⟩] := by
  simp only [F1032, Fof, ir1032]
  unfold cntS
  by_cases c1 : 1 ≤ n <;> by_cases c2 : n ≤ 2147483647 <;> simp -implicitDefEqProofs [c1, c2]
theorem s1032 {lc : List Ct} (hl0 : look (lc.map fun c => (c.sig.id, c)) 1032 = some c1032) : ∀ (n : Int), Does1 (Phi lc) 1032 [⟨.int .i64, n⟩] [⟨.bool, cntS n⟩] :=
  fun n => by
    have eFc : c1032.F = F1032 := rfl
    have eFh := f1032 n
    rw [← eFc] at eFh
    exact Does1.of hl0 eFh rfl
theorem cntS_r {n : Int} (h : cntS n = true) : 1 ≤ n ∧ n ≤ 2147483647 := by simpa [cntS] using h
theorem mk_u3 (a b c : Int) : mkD (.int .u64) 3 [⟨.int .u64, a⟩, ⟨.int .u64, b⟩, ⟨.int .u64, c⟩] = some ⟨.sl (.int .u64), [a, b, c]⟩ := rfl
theorem snap_body {i t : Int} {n : Nat} (hi : cntS i = true) (ht : cntS t = true) (hn : n ≤ 16384) : (∀ u ∈ [i, t, (n : Int)], 0 ≤ u ∧ u < 18446744073709551616) ∧ (putL [i, t, (n : Int)]).length ≤ 30 ∧ ∀ c ∈ putL [i, t, (n : Int)], 0 ≤ c ∧ c < 256 := by
  have h1 := cntS_r hi; have h2 := cntS_r ht
  have h3 : ∀ u ∈ [i, t, (n : Int)], 0 ≤ u ∧ u < 18446744073709551616 := by
    intro u hu
    simp only [List.mem_cons, List.not_mem_nil, or_false] at hu
    rcases hu with rfl | rfl | rfl <;> omega
  refine ⟨h3, putL_len _ h3, ?_⟩
  intro c hc
  simp only [putL, List.mem_flatten, List.mem_map] at hc
  obtain ⟨x, ⟨u, _, rfl⟩, hc⟩ := hc
  have := one_byte _ c hc; omega
theorem f1017 (i t : Int) (l : List It) (hl : l.length ≤ 10000) (hm : sumsOk l) (hb : bytesOk l) : F1017 [⟨.int .i64, i⟩, ⟨.int .i64, t⟩, ⟨.sl ItT, l⟩] = some (resPt i t l) := by
  have h1032 := s1032 (lc := [c1032, c75, c66, c1035, c1005]) rfl
  have h75 := s75 (lc := [c1032, c75, c66, c1035, c1005]) rfl
  have h66 := s66 (lc := [c1032, c75, c66, c1035, c1005]) rfl
  have h1035 := s1035 (lc := [c1032, c75, c66, c1035, c1005]) rfl
  have h1005 := s1005 (lc := [c1032, c75, c66, c1035, c1005]) rfl
  simp only [F1017, Fof, ir1017]
  generalize Phi [c1032, c75, c66, c1035, c1005] = Φ at *
  have k1 := h1032 i
  have k2 := h1032 t
  have k3 := h75 l (by omega)
  have c3 : ¬ 16384 < (l.length : Int) := by omega
  unfold resPt maySn
  cases hi : cntS i <;> rw [hi] at k1
  · simp -implicitDefEqProofs [k1]
  cases ht : cntS t <;> rw [ht] at k2
  · simp -implicitDefEqProofs [k1, k2]
  cases hs : srt none l <;> rw [hs] at k3
  · simp -implicitDefEqProofs [k1, k2, k3, c3]
  obtain ⟨s1, s2, s3⟩ := snap_body (n := l.length) hi ht (by omega)
  have r1 := cntS_r hi; have r2 := cntS_r ht
  have w1 : IntKind.u64.wrap i = i := wu64 _ (by omega) (by omega)
  have w2 : IntKind.u64.wrap t = t := wu64 _ (by omega) (by omega)
  have w3 : IntKind.u64.wrap (l.length : Int) = l.length := wu64 _ (by omega) (by omega)
  have k4 := h66 _ s1 (by simp)
  have k5 : Does1 Φ 1035 [⟨.sl FrT, [(5, putL [i, t, (l.length : Int)])]⟩] [⟨.sl (.int .u8), putF (5, putL [i, t, (l.length : Int)])⟩, ⟨.int .i64, 0⟩] := by
    have hok : okF (5, putL [i, t, (l.length : Int)]) = true := by
      unfold okF
      exact decide_eq_true ⟨by show (1 : Int) ≤ 5; omega, by show (5 : Int) ≤ 250; omega, by show (putL [i, t, (l.length : Int)]).length ≤ 1048576; omega⟩
    have := h1035 [(5, putL [i, t, (l.length : Int)])] (by simp) (by intro f hf; simp only [List.mem_singleton] at hf; subst hf; show (putL [i, t, (l.length : Int)]).length < _; omega) (by intro f hf; simp only [List.mem_singleton] at hf; subst hf; exact s3)
    rw [resFr_one _ (by intro f hf; simp only [List.mem_singleton] at hf; subst hf; exact hok)] at this
    simp only [putFs, List.append_nil] at this
    exact this
  have hmk : mkD FrT 1 [⟨.int .i64, 5⟩, ⟨.sl (.int .u8), putL [i, t, (l.length : Int)]⟩] = some ⟨.sl FrT, [(5, putL [i, t, (l.length : Int)])]⟩ := rfl
  have hmu := mk_u3 i t (l.length : Int)
  have hle : decide (l.length ≤ 16384) = true := decide_eq_true (by omega)
  have hpl : (putF (5, putL [i, t, (l.length : Int)])).length ≤ 100 := by
    have : (putF (5, putL [i, t, (l.length : Int)])).length ≤ (putL [i, t, (l.length : Int)]).length + 10 := putF_le (by show (putL [i, t, (l.length : Int)]).length < _; omega)
    omega
  have k6 := h1005 l 512 hl hm hb
  have htl : 1 ≤ l.length → (tabPut (parted 512 l)).length ≤ 10000000 := by
    intro h1
    have hi := made_is (size := 512) hs hm hb h1 hl
    have h2 := tab_len hi.good hi.len hi.items
    have h3 := hi.len
    have h4 := hi.items
    omega
  have hsn : snapPut i t l = putF (5, putL [i, t, (l.length : Int)]) ++ (if l.length = 0 then [] else tabPut (parted 512 l)) := rfl
  rw [hle, hsn]
  unfold resMk mayMake at k6
  rw [hs] at k6
  have hd1 : decide (1 ≤ (512 : Int) ∧ (512 : Int) ≤ 65536) = true := by decide
  rw [hd1] at k6
  generalize putF (5, putL [i, t, (l.length : Int)]) = pf at *
  generalize putL [i, t, (l.length : Int)] = pb at *
  generalize tabPut (parted 512 l) = tb at *
  simp -implicitDefEqProofs [k1, k2, k3, c3]
  refine (any_loop (e := ItT) l (fun x : It => x.2.1) [⟨.sl (.int .u8), []⟩, ⟨.int .i64, 1⟩] [⟨.sl (.int .u8), pf ++ (if l.length = 0 then [] else tb)⟩, ⟨.int .i64, 0⟩] _ ?_ ?_).trans ?_
  · intro j j0 j1
    have b1 : 0 ≤ j ∧ j < (l.length : Int) := ⟨j0, j1⟩
    have g1 := getG (l := l) (d := dflt ItT) j0 j1
    have wj : IntKind.i64.wrap (j + 1) = j + 1 := wi64 _ (by omega) (by omega)
    rw [g1]
    generalize hcx : l[j.toNat]'(by omega) = x at *
    obtain ⟨a1, a2, a3⟩ := x
    cases a2
    · simp -implicitDefEqProofs [b1, j1, g1, hcx, wj]
    · simp -implicitDefEqProofs [b1, j1, j0, g1, hcx]
  · by_cases hz : l.length = 0
    · have hz' : (l.length : Int) = 0 := by omega
      rw [hz'] at w3 k4 hmu
      simp -implicitDefEqProofs [w1, w2, w3, hmu, k4, hmk, k5, hz]
    · have hz' : ¬ (l.length : Int) = 0 := by omega
      have hd2 : decide (1 ≤ l.length ∧ l.length ≤ 16384) = true := decide_eq_true (by omega)
      rw [hd2] at k6
      simp only [Bool.and_self, if_true] at k6
      have hB : pf.length + tb.length ≤ BIG := by have := htl (by omega); simp only [BIG]; omega
      simp -implicitDefEqProofs [w1, w2, w3, hmu, k4, hmk, k5, hz, hz', k6, hB]
  · unfold deadI
    cases l.any (fun x : It => x.2.1) <;> simp
theorem s1017 {lc : List Ct} (hl0 : look (lc.map fun c => (c.sig.id, c)) 1017 = some c1017) : ∀ (i t : Int) (l : List It) (hl : l.length ≤ 10000) (hm : sumsOk l) (hb : bytesOk l), Does1 (Phi lc) 1017 [⟨.int .i64, i⟩, ⟨.int .i64, t⟩, ⟨.sl ItT, l⟩] (resPt i t l) :=
  fun i t l hl hm hb => by
    have eFc : c1017.F = F1017 := rfl
    have eFh := f1017 i t l hl hm hb
    rw [← eFc] at eFh
    exact Does1.of hl0 eFh (by unfold resPt; split <;> rfl)
theorem f1037 (b : List Int) (hb : ∀ c ∈ b, 0 ≤ c ∧ c < 256) (hl : b.length ≤ 60000) : F1037 [⟨.sl (.int .u8), b⟩] = some (resIt (snapItems b)) := by
  have h1008 := s1008 (lc := [c1008, c1009]) rfl
  have h1009 := s1009 (lc := [c1008, c1009]) rfl
  simp only [F1037, Fof, ir1037]
  generalize Phi [c1008, c1009] = Φ at *
  unfold snapItems
  by_cases hz : b.length = 0
  · have hz' : (b.length : Int) = 0 := by omega
    simp -implicitDefEqProofs [hz, hz', resIt]
  have hz' : ¬ (b.length : Int) = 0 := by omega
  have k1 := h1008 b hb hl
  rw [if_neg hz]
  cases ho : openT b with
  | none =>
    rw [ho] at k1
    simp only [resO] at k1
    simp -implicitDefEqProofs [hz, hz', k1, resIt]
  | some ps =>
    rw [ho] at k1
    simp only [resO] at k1
    obtain ⟨o1, o2, o3, o4, o5, o6⟩ := openT_inv hb ho
    have hgood : goodP ps := by
      have ho' := ho
      unfold openT at ho'
      split at ho'
      · cases ho'
      rename_i qs hq
      split at ho'
      · simp only [Option.some.injEq] at ho'; subst ho'
        have key : ∀ (l : List Fr) (ps : List (List It)), (∀ f ∈ l, ∀ c ∈ f.2, 0 ≤ c ∧ c < 256) → partsB l = some ps → goodP ps := by
          intro l
          induction l with
          | nil => intro ps _ h; simp only [partsB, Option.some.injEq] at h; subst h; intro p hp; cases hp
          | cons f l ih =>
            intro ps hf h
            rw [partsB] at h
            split at h
            · split at h
              · cases h
              rename_i p hp
              split at h
              · cases h
              rename_i qs hq
              simp only [Option.some.injEq] at h; subst h
              have hg := blkGet_good (hf f (by simp)) hp
              intro q hq2
              rcases List.mem_cons.1 hq2 with rfl | hq2
              · exact ⟨hg.2.1, hg.2.2.1, hg.2.2.2.1, hg.2.2.2.2.1, hg.2.2.2.2.2⟩
              · exact ih qs (fun g hg => hf g (by simp [hg])) hq q hq2
            · simp only [Option.some.injEq] at h; subst h; intro p hp; cases hp
        exact key _ _ (fun f hf => (scan_bytes hb f hf).1) hq
      · cases ho'
    have hle : ps.length ≤ 10000 := by
      have hge : ps.length ≤ (scanF b).length := by
        have ho' := ho
        unfold openT at ho'
        split at ho'
        · cases ho'
        rename_i qs hq
        split at ho'
        · simp only [Option.some.injEq] at ho'; subst ho'
          obtain ⟨⟨m, e, _⟩, _⟩ := partsB_inv _ _ (fun f hf => (scan_bytes hb f hf).1) hq
          rw [e]; simp only [List.length_append, frBs, List.length_map]; omega
        · cases ho'
      have := (scan_len hb).1
      omega
    have hg : TabGood (some (tblOf ps)) := .inr ⟨ps, rfl, ⟨hgood, o2, o5, hle, o4⟩⟩
    have k2 := h1009 _ hg
    rw [items_tbl hgood] at k2
    simp only [Option.map_some, resIt]
    generalize ps.flatten = fl at *
    simp -implicitDefEqProofs [hz, hz', k1, k2]
theorem s1037 {lc : List Ct} (hl0 : look (lc.map fun c => (c.sig.id, c)) 1037 = some c1037) : ∀ (b : List Int) (hb : ∀ c ∈ b, 0 ≤ c ∧ c < 256) (hl : b.length ≤ 60000), Does1 (Phi lc) 1037 [⟨.sl (.int .u8), b⟩] (resIt (snapItems b)) :=
  fun b hb hl => by
    have eFc : c1037.F = F1037 := rfl
    have eFh := f1037 b hb hl
    rw [← eFc] at eFh
    exact Does1.of hl0 eFh (by unfold resIt; split <;> rfl)
end Go.Proofs.YtolcekkcenedjaaGreat.Sx

set_option maxHeartbeats 8000000
namespace Go.Proofs.YtolcekkcenedjaaGreat.Sx
attribute [local simp] mkp_tbl d_np_tbl o_pod_tbl mk_mark mk_it

theorem enc_ge3 : ∀ (l : List It) (last : List Int), 3 * l.length ≤ (encL last l).length
  | [], _ => by simp
  | x :: l, last => by
    have h0 := one_pos (alike last x.1 : Int).toNat
    have h1 := one_pos ((x.1.length : Int) - alike last x.1).toNat
    have h2 := enc_ge3 l x.1
    have h3 : 1 ≤ (if x.2.1 = true then [(1 : Int)] else 0 :: putC x.2.2.1 x.2.2.2.1 x.2.2.2.2.1 x.2.2.2.2.2.1 x.2.2.2.2.2.2.1 x.2.2.2.2.2.2.2).length := by
      split <;> simp
    simp only [encL, encI, putL, List.map_cons, List.map_nil, List.flatten_cons, List.flatten_nil, List.length_append, List.length_cons, List.length_nil] at h0 h1 h2 h3 ⊢
    omega
theorem blk_ge3 (p : List It) : 3 * p.length ≤ (blkPut p).length := by
  have := enc_ge3 p []
  simp only [blkPut, List.length_append]; omega
theorem openT_good {b : List Int} (hb : ∀ c ∈ b, 0 ≤ c ∧ c < 256) (hl : b.length ≤ 60000) {ps : List (List It)} (h : openT b = some ps) : TabIs ps ∧ 3 * ps.flatten.length ≤ b.length ∧ tabPut ps = b := by
  obtain ⟨o1, o2, o3, o4, o5, o6⟩ := openT_inv hb h
  have ho' := h
  unfold openT at ho'
  split at ho'
  · cases ho'
  rename_i qs hq
  split at ho'
  rotate_left
  · cases ho'
  simp only [Option.some.injEq] at ho'; subst ho'
  have key : ∀ (l : List Fr) (ps : List (List It)), (∀ f ∈ l, ∀ c ∈ f.2, 0 ≤ c ∧ c < 256) → partsB l = some ps → goodP ps ∧ 3 * ps.flatten.length ≤ (putFs l).length := by
    intro l
    induction l with
    | nil => intro ps _ h; simp only [partsB, Option.some.injEq] at h; subst h; exact ⟨(by intro p hp; cases hp), by simp⟩
    | cons f l ih =>
      intro ps hf h
      rw [partsB] at h
      split at h
      · split at h
        · cases h
        rename_i p hp
        split at h
        · cases h
        rename_i qs hq
        simp only [Option.some.injEq] at h; subst h
        have hg := blkGet_good (hf f (by simp)) hp
        have hi := ih qs (fun g hg => hf g (by simp [hg])) hq
        refine ⟨?_, ?_⟩
        · intro q hq2
          rcases List.mem_cons.1 hq2 with rfl | hq2
          · exact ⟨hg.2.1, hg.2.2.1, hg.2.2.2.1, hg.2.2.2.2.1, hg.2.2.2.2.2⟩
          · exact hi.1 q hq2
        · have h1 := blk_ge3 p
          rw [← hg.1] at h1
          have h2 := putF_len f
          have h3 := hi.2
          simp only [List.flatten_cons, List.length_append, putFs]
          omega
      · simp only [Option.some.injEq] at h; subst h; exact ⟨(by intro p hp; cases hp), by simp⟩
  obtain ⟨g1, g2⟩ := key _ _ (fun f hf => (scan_bytes hb f hf).1) hq
  have hsl := scan_len hb
  have hle : qs.length ≤ 10000 := by
    obtain ⟨⟨m, e, _⟩, _⟩ := partsB_inv _ _ (fun f hf => (scan_bytes hb f hf).1) hq
    have : qs.length ≤ (scanF b).length := by rw [e]; simp only [List.length_append, frBs, List.length_map]; omega
    omega
  exact ⟨⟨g1, o2, o5, hle, o4⟩, by omega, o1⟩
theorem snapItems_good {b : List Int} (hb : ∀ c ∈ b, 0 ≤ c ∧ c < 256) (hl : b.length ≤ 60000) {l : List It} (h : snapItems b = some l) : sumsOk l ∧ bytesOk l ∧ 3 * l.length ≤ b.length := by
  unfold snapItems at h
  split at h
  · simp only [Option.some.injEq] at h; subst h
    exact ⟨(by intro x hx; cases hx), (by intro x hx; cases hx), by simp⟩
  · cases ho : openT b with
    | none => rw [ho] at h; cases h
    | some ps =>
      rw [ho] at h
      simp only [Option.map_some, Option.some.injEq] at h; subst h
      obtain ⟨i1, i2, i3⟩ := openT_good hb hl ho
      have := goodP_flat i1.good
      exact ⟨this.2.1, this.1, i2⟩

theorem f1018 (b : List Int) (hb : ∀ c ∈ b, 0 ≤ c ∧ c < 256) (hl : b.length ≤ 29900) : F1018 [⟨.sl (.int .u8), b⟩] = some (resSn (snapGet b)) := by
  have h1036 := s1036 (lc := [c1036, c129, c1037, c1017, c67]) rfl
  have h129 := s129 (lc := [c1036, c129, c1037, c1017, c67]) rfl
  have h1037 := s1037 (lc := [c1036, c129, c1037, c1017, c67]) rfl
  have h1017 := s1017 (lc := [c1036, c129, c1037, c1017, c67]) rfl
  have h67 := s67 (lc := [c1036, c129, c1037, c1017, c67]) rfl
  simp only [F1018, Fof, ir1018]
  generalize Phi [c1036, c129, c1037, c1017, c67] = Φ at *
  have k1 := h1036 b hb (by omega)
  unfold snapGet
  cases hf : firstF b with
  | none =>
    rw [hf] at k1
    simp only [resF1] at k1
    have he := errF_pos b
    have he' : ¬ errF b = 0 := by omega
    simp -implicitDefEqProofs [k1, he', resSn]
  | some x =>
  obtain ⟨k, y, n⟩ := x
  rw [hf] at k1
  simp only [resF1] at k1
  obtain ⟨i1, i2, i3, i4⟩ := firstF_inv hb hf
  by_cases hk : k = 5
  rotate_left
  · simp only [if_neg hk]
    simp -implicitDefEqProofs [k1, hk, resSn]
  subst hk
  simp only [if_true]
  have hyb : ∀ c ∈ y, 0 ≤ c ∧ c < 256 := fun c hc => hb c (by rw [i1]; exact List.mem_append_left _ (by simp [putF, hc]))
  have hyl : y.length ≤ b.length := by
    have := putF_len (5, y)
    simp only at this; omega
  have k2 := h129 y 3 hyb (by omega) (by omega) (by omega)
  rw [show (3 : Int).toNat = 3 from rfl] at k2
  generalize (allA 3 y : Int) = aa at *
  cases ha : allL 3 y with
  | none =>
    rw [ha] at k2
    simp only [resA] at k2
    simp -implicitDefEqProofs [k1, k2, resSn]
  | some u3 =>
  rw [ha] at k2
  simp only [resA, List.nil_append] at k2
  obtain ⟨u, v, w, rfl⟩ := three (allL_len 3 _ _ ha)
  have hrg := allL_range 3 _ _ hyb ha
  have hu := hrg u (by simp)
  have hv := hrg v (by simp)
  simp only
  by_cases hc1 : 2147483647 < u
  · rw [if_neg (by omega)]
    simp -implicitDefEqProofs [k1, k2, hc1, resSn]
  by_cases hc2 : 2147483647 < v
  · rw [if_neg (by omega)]
    simp -implicitDefEqProofs [k1, k2, hc1, hc2, resSn]
  rw [if_pos (by omega)]
  have hbd : ∀ c ∈ b.drop n, 0 ≤ c ∧ c < 256 := fun c hc => hb c (List.mem_of_mem_drop hc)
  have hdl : (b.drop n).length ≤ 29900 := by rw [List.length_drop]; omega
  have k3 := h1037 (b.drop n) hbd (by omega)
  have hin : (n : Int) ≤ b.length := by omega
  have wu : IntKind.i64.wrap u = u := wi64 _ (by omega) (by omega)
  have wv : IntKind.i64.wrap v = v := wi64 _ (by omega) (by omega)
  cases hit : snapItems (b.drop n) with
  | none =>
    rw [hit] at k3
    simp only [resIt] at k3
    simp -implicitDefEqProofs [k1, k2, hc1, hc2, i4, k3, snapIf, resSn]
  | some l =>
    rw [hit] at k3
    simp only [resIt] at k3
    obtain ⟨l1, l2, l3⟩ := snapItems_good hbd (by omega) hit
    have k4 := h1017 u v l (by omega) l1 l2
    unfold resPt at k4
    simp only [snapIf]
    cases hms : maySn u v l
    · rw [if_neg (by simp [hms])] at k4
      simp -implicitDefEqProofs [k1, k2, hc1, hc2, i4, k3, wu, wv, k4, resSn]
    · rw [if_pos hms] at k4
      have k5 := h67 (snapPut u v l) b
      by_cases hp : snapPut u v l = b
      · rw [decide_eq_true hp] at k5
        rw [if_pos ⟨rfl, hp⟩]
        generalize snapPut u v l = sp at *
        simp -implicitDefEqProofs [k1, k2, hc1, hc2, i4, k3, wu, wv, k4, k5, resSn]
      · rw [decide_eq_false hp] at k5
        rw [if_neg (fun h => hp h.2)]
        generalize snapPut u v l = sp at *
        simp -implicitDefEqProofs [k1, k2, hc1, hc2, i4, k3, wu, wv, k4, k5, resSn]
theorem s1018 {lc : List Ct} (hl0 : look (lc.map fun c => (c.sig.id, c)) 1018 = some c1018) : ∀ (b : List Int) (hb : ∀ c ∈ b, 0 ≤ c ∧ c < 256) (hl : b.length ≤ 29900), Does1 (Phi lc) 1018 [⟨.sl (.int .u8), b⟩] (resSn (snapGet b)) :=
  fun b hb hl => by
    have eFc : c1018.F = F1018 := rfl
    have eFh := f1018 b hb hl
    rw [← eFc] at eFh
    exact Does1.of hl0 eFh (by unfold resSn; split <;> rfl)

theorem putL730 : putL [7, 3, 0] = [7, 3, 0] := by simp [putL, one_small]
theorem get730 : allL 3 [7, 3, 0] = some [7, 3, 0] := by
  have h := all3 7 3 0 [] (by omega) (by omega) (by omega)
  rw [List.append_nil, putL730] at h
  exact h.1
theorem mayAwake : maySn 7 3 [] = true := by decide
theorem f1016  : F1016 [] = some [⟨.bool, true⟩] := by
  have h1017 := s1017 (lc := [c1017, c1018]) rfl
  have h1018 := s1018 (lc := [c1017, c1018]) rfl
  simp only [F1016, Fof, ir1016]
  generalize Phi [c1017, c1018] = Φ at *
  have k1 := h1017 7 3 [] (by simp) (by intro x hx; cases hx) (by intro x hx; cases hx)
  unfold resPt at k1
  rw [if_pos mayAwake] at k1
  have e : snapPut 7 3 [] = putF (5, [7, 3, 0]) := by
    unfold snapPut
    rw [if_pos (by rfl), List.append_nil]
    have : putL [7, 3, ((([] : List It).length : Nat) : Int)] = [7, 3, 0] := putL730
    rw [this]
  have hok : okF (5, [7, 3, 0]) = true := by decide
  have hb : ∀ c ∈ putF (5, [7, 3, 0]), 0 ≤ c ∧ c < 256 := putF_byte hok (by intro c hc; simp only [List.mem_cons, List.not_mem_nil, or_false] at hc; omega)
  have hlen : (putF (5, [7, 3, 0])).length = 9 := by rw [putF_len, one_small (by simp)]; rfl
  have k2 := h1018 (putF (5, [7, 3, 0])) hb (by omega)
  have hg : snapGet (putF (5, [7, 3, 0])) = some (7, 3, []) := by
    have hf := firstF_put hok []
    rw [List.append_nil] at hf
    unfold snapGet
    rw [hf]
    simp only [if_true, get730]
    rw [if_pos (by omega)]
    have : snapItems ((putF (5, [7, 3, 0])).drop (putF (5, [7, 3, 0])).length) = some [] := by
      rw [List.drop_length]; rfl
    rw [this]
    simp only [snapIf]
    rw [if_pos ⟨mayAwake, e⟩]
  rw [hg] at k2
  simp only [resSn] at k2
  rw [e] at k1
  have hlen' : ((putF (5, [7, 3, 0])).length : Int) = 9 := by omega
  generalize putF (5, [7, 3, 0]) = bb at *
  simp -implicitDefEqProofs [k1, k2, hlen, hlen']
theorem s1016 {lc : List Ct} (hl0 : look (lc.map fun c => (c.sig.id, c)) 1016 = some c1016) : ∀ _u : Unit, Does1 (Phi lc) 1016 [] [⟨.bool, true⟩] :=
  fun _ => Does1.of hl0 f1016 rfl
theorem f1015 (i t : Int) (l : List It) (hl : l.length < 1000000) (hb : ∀ x ∈ l, x.2.2.2.1.length < 1000000000) : F1015 [⟨.int .i64, i⟩, ⟨.int .i64, t⟩, ⟨.sl ItT, l⟩] = some [⟨.bool, maySn i t l⟩] := by
  have h77 := s77 (lc := [c77]) rfl
  simp only [F1015, Fof, ir1015]
  generalize Phi [c77] = Φ at *
  have k1 := h77 l hl hb
  simp -implicitDefEqProofs
  refine (any_loop (e := ItT) l (fun x : It => x.2.1) [⟨.bool, false⟩] [⟨.bool, cntS i && cntS t && decide (l.length ≤ 16384) && srt none l⟩] _ ?_ ?_).trans ?_
  · intro j j0 j1
    have b1 : 0 ≤ j ∧ j < (l.length : Int) := ⟨j0, j1⟩
    have g1 := getG (l := l) (d := dflt ItT) j0 j1
    have wj : IntKind.i64.wrap (j + 1) = j + 1 := wi64 _ (by omega) (by omega)
    rw [g1]
    generalize hcx : l[j.toNat]'(by omega) = x at *
    obtain ⟨a1, a2, a3⟩ := x
    cases a2
    · simp -implicitDefEqProofs [b1, j1, g1, hcx, wj]
    · simp -implicitDefEqProofs [b1, j1, j0, g1, hcx]
  · unfold cntS
    by_cases c1 : 1 ≤ i <;> by_cases c2 : i ≤ 2147483647 <;> by_cases c3 : 1 ≤ t <;> by_cases c4 : t ≤ 2147483647 <;> by_cases c5 : (l.length : Int) ≤ 16384 <;>
      (have c5' := c5; first | (have c6 : l.length ≤ 16384 := by omega) | (have c6 : ¬ l.length ≤ 16384 := by omega)) <;> simp -implicitDefEqProofs [c1, c2, c3, c4, c5, c6, k1]
  · unfold maySn deadI
    cases l.any (fun x : It => x.2.1) <;> simp
theorem s1015 {lc : List Ct} (hl0 : look (lc.map fun c => (c.sig.id, c)) 1015 = some c1015) : ∀ (i t : Int) (l : List It) (hl : l.length < 1000000) (hb : ∀ x ∈ l, x.2.2.2.1.length < 1000000000), Does1 (Phi lc) 1015 [⟨.int .i64, i⟩, ⟨.int .i64, t⟩, ⟨.sl ItT, l⟩] [⟨.bool, maySn i t l⟩] :=
  fun i t l hl hb => by
    have eFc : c1015.F = F1015 := rfl
    have eFh := f1015 i t l hl hb
    rw [← eFc] at eFh
    exact Does1.of hl0 eFh rfl
end Go.Proofs.YtolcekkcenedjaaGreat.Sx

namespace Go.Proofs.YtolcekkcenedjaaGreat.Sx
def sig2004 : Sig := { id := 2004, ins := [(false, (Ty.int .u8).sl)], outs := [(false, [(ItT.sl, some 44)])] }
def ir2004 : IR := .op (.call 1019) [.v 0] (.op (.mk ItT.sl 0) [] (.loop [.v 4, .l (.int .i64 0)] [ItT.sl.sl, Ty.int .i64] (.op .len [.v 1] (.op (.icmp .lss) [.v 6, .v 7] (.ite (.v 8) (.op .inb [.v 1, .v 6] (.op (.idx ((Ty.int .i64).pair (Ty.int .u8).sl)) [.v 1, .v 6] (.op (.icmp .eql) [.v 9, .l (.int .i64 1)] (.ite (.v 11) (.op .inb [.v 1, .v 6] (.op (.idx ((Ty.int .i64).pair (Ty.int .u8).sl)) [.v 1, .v 6] (.op (.call 48) [.v 13] (.op .len [.v 14] (.op (.icmp .eql) [.v 15, .l (.int .i64 0)] (.ite (.v 16) (.ret [.l (.nil ItT)]) (.op (.mk ItT.sl 1) [.v 14] (.op .app [.v 5, .v 17] (.op (.ibin .add .i64) [.v 6, .l (.int .i64 1)] (.jump 0 [.v 18, .v 19])))))))))) (.op (.call 1022) [.v 5] (.op .len [.v 12] (.op (.icmp .lss) [.v 13, .l (.int .i64 1)] (.ite (.v 14) (.ret [.l (.nil ItT)]) (.op .len [.v 12] (.op (.icmp .gtr) [.v 15, .l (.int .i64 16384)] (.ite (.v 16) (.ret [.l (.nil ItT)]) (.op (.call 77) [.v 12] (.op .not [.v 17] (.ite (.v 18) (.ret [.l (.nil ItT)]) (.op (.call 1006) [.v 5] (.op (.call 21) [.v 19, .v 0] (.op .not [.v 20] (.ite (.v 21) (.ret [.l (.nil ItT)]) (.ret [.v 12]))))))))))))))))))) (.op (.call 1022) [.v 5] (.op .len [.v 9] (.op (.icmp .lss) [.v 10, .l (.int .i64 1)] (.ite (.v 11) (.ret [.l (.nil ItT)]) (.op .len [.v 9] (.op (.icmp .gtr) [.v 12, .l (.int .i64 16384)] (.ite (.v 13) (.ret [.l (.nil ItT)]) (.op (.call 77) [.v 9] (.op .not [.v 14] (.ite (.v 15) (.ret [.l (.nil ItT)]) (.op (.call 1006) [.v 5] (.op (.call 21) [.v 16, .v 0] (.op .not [.v 17] (.ite (.v 18) (.ret [.l (.nil ItT)]) (.ret [.v 9]))))))))))))))))))))
noncomputable def F2004 : List D → Option (List D) := Fof [c1019, c48, c1022, c77, c1006, c21] ir2004
noncomputable def c2004 : Ct := ⟨sig2004, F2004⟩
end Go.Proofs.YtolcekkcenedjaaGreat.Sx

set_option maxHeartbeats 8000000
namespace Go.Proofs.YtolcekkcenedjaaGreat.Sx
attribute [local simp] mkp_tbl d_np_tbl o_pod_tbl mk_mark mk_it

def refTab (b : List Int) : List It := ((openT b).map List.flatten).getD []
def finR (b : List Int) (all : List (List It)) : Option (List (List It)) → List D
  | some ps => [⟨.sl ItT, if tabOk (all ++ ps) b = true then (all ++ ps).flatten else []⟩]
  | none => [⟨.sl ItT, []⟩]
theorem refTab_fin (b : List Int) : ([⟨.sl ItT, refTab b⟩] : List D) = finR b [] (partsB (scanF b)) := by
  unfold refTab openT finR
  cases partsB (scanF b) with
  | none => rfl
  | some ps =>
    simp only [List.nil_append]
    split <;> rfl
theorem finR_step (b : List Int) (all : List (List It)) (p : List It) (o : Option (List (List It))) : finR b (all ++ [p]) o = finR b all (match o with | none => none | some ps => some (p :: ps)) := by
  cases o with
  | none => rfl
  | some ps => simp [finR]

theorem f2004 (b : List Int) (hb : ∀ c ∈ b, 0 ≤ c ∧ c < 256) (hl : b.length ≤ 60000) : F2004 [⟨.sl (.int .u8), b⟩] = some [⟨.sl ItT, refTab b⟩] := by
  have h1019 := s1019 (lc := [c1019, c48, c1022, c77, c1006, c21]) rfl
  have h48 := s48 (lc := [c1019, c48, c1022, c77, c1006, c21]) rfl
  have h1022 := s1022 (lc := [c1019, c48, c1022, c77, c1006, c21]) rfl
  have h77 := s77 (lc := [c1019, c48, c1022, c77, c1006, c21]) rfl
  have h1006 := s1006 (lc := [c1019, c48, c1022, c77, c1006, c21]) rfl
  have h21 := s21 (lc := [c1019, c48, c1022, c77, c1006, c21]) rfl
  simp only [F2004, Fof, ir2004]
  generalize Phi [c1019, c48, c1022, c77, c1006, c21] = Φ at *
  have k0 := h1019 b hb (by omega)
  simp only [resS, List.nil_append, Nat.zero_add] at k0
  rw [refTab_fin]
  have hfb := scan_bytes hb
  have hf6 := scan_len hb
  generalize scanF b = fs at *
  generalize placesF 0 fs = pl at *
  simp -implicitDefEqProofs [k0]
  refine (iter_meas (fun s : List (List It) × Int => (fs.length - s.2).toNat) (fun s => finR b s.1 (partsB (fs.drop s.2.toNat))) (fun s => 0 ≤ s.2 ∧ s.2 ≤ fs.length ∧ s.1.length = s.2.toNat ∧ goodP s.1 ∧ s.1.flatten.length ≤ (putFs (fs.take s.2.toNat)).length) (by exact ⟨by simp, by simp, by simp, (by intro p hp; cases hp), by simp⟩) ?_).trans (by simp)
  rintro ⟨all, i⟩ ⟨h1, h2, h5, h6, h7⟩
  simp only at h1 h2 h5 h6 h7 ⊢
  have hfl := flat_len all h6
  have hff := goodP_flat h6
  have h8 := putFs_take fs i.toNat
  have k22 := h1022 all (by omega) (by omega)
  have k77 := h77 all.flatten (by omega) (fun x hx => by have := hff.2.2 x hx; omega)
  by_cases hi : i < fs.length
  · have b1 : 0 ≤ i ∧ i < (fs.length : Int) := ⟨h1, hi⟩
    have g1 := getG (l := fs) (d := dflt FrT) h1 (by omega)
    have hxm := hfb _ (List.getElem_mem (l := fs) (n := i.toNat) (by omega))
    have wi : IntKind.i64.wrap (i + 1) = i + 1 := wi64 _ (by omega) (by omega)
    rw [dropI h1 hi]
    generalize hcx : fs[i.toNat]'(by omega) = x at *
    obtain ⟨k, y⟩ := x
    simp only at hxm
    by_cases hk : k = 1
    · subst hk
      have hyl : y.length ≤ 1048576 := by have := hxm.2; simp only [okF, decide_eq_true_eq] at this; omega
      have k48 := h48 y hxm.1 (by omega)
      rw [refGet_eq hxm.1] at k48
      cases hg : blkGet y with
      | none =>
        rw [hg] at k48
        simp only [Option.getD_none] at k48
        refine .inr ?_
        simp only [partsB, if_true, hg, finR]
        generalize all.flatten = fl at *
        simp -implicitDefEqProofs [hi, b1, g1, hcx, k48]
      | some p =>
        rw [hg] at k48
        simp only [Option.getD_some] at k48
        obtain ⟨p0, p1, p2, p3, p4, p5⟩ := blkGet_good hxm.1 hg
        have hstep := finR_step b all p (partsB (fs.drop (i + 1).toNat))
        have hB1 : all.length + 1 ≤ BIG := by simp only [BIG]; omega
        have hp0 : ¬ p.length = 0 := by omega
        have hp0' : ¬ (p.length : Int) = 0 := by omega
        have hpn : ¬ p = [] := by intro e; rw [e] at p1; simp at p1
        refine .inl ⟨(all ++ [p], i + 1), ?_, ⟨by (try simp only); omega, by (try simp only); omega, by simp; omega, ?_, ?_⟩, by (try simp only); omega, ?_⟩
        · generalize all.flatten = fl at *
          simp -implicitDefEqProofs [hi, b1, g1, hcx, k48, wi, hB1, hp0, hp0', hpn]
        · intro q hq
          rcases List.mem_append.1 hq with hq | hq
          · exact h6 q hq
          · simp only [List.mem_singleton] at hq
            subst hq
            exact ⟨p1, p2, p3, p4, p5⟩
        · have e : fs.take (i + 1).toNat = fs.take i.toNat ++ [(1, y)] := by
            rw [show (i + 1).toNat = i.toNat + 1 by omega, List.take_add_one, List.getElem?_eq_getElem (by omega), hcx]; rfl
          have hge := blk_ge p
          rw [← p0] at hge
          have hpf : (putF (1, y)).length = (one y.length).length + 1 + y.length + 4 := putF_len (1, y)
          simp only [e, putFs_app, putFs, List.length_append, List.append_nil, List.flatten_append, List.flatten_cons, List.flatten_nil]
          omega
        · simp only [partsB, if_true, hg]
          rw [hstep]
          cases partsB (fs.drop (i + 1).toNat) <;> rfl
    · refine .inr ?_
      have hpb : partsB ((k, y) :: fs.drop (i + 1).toNat) = some [] := by simp only [partsB, if_neg hk]
      rw [hpb]
      simp only [finR, List.append_nil]
      generalize hfe : all.flatten = l at *
      by_cases c2 : (l.length : Int) < 1
      · have ht : tabOk all b = false := by
          simp only [tabOk, hfe]
          rw [decide_eq_false (by omega)]; rfl
        have c2' : l.length = 0 := by omega
        rw [ht]
        simp -implicitDefEqProofs [hi, b1, g1, hcx, hk, k22, c2, c2']
      by_cases c3 : 16384 < (l.length : Int)
      · have ht : tabOk all b = false := by
          simp only [tabOk, hfe]
          rw [decide_eq_false (by omega)]; rfl
        rw [ht]
        simp -implicitDefEqProofs [hi, b1, g1, hcx, hk, k22, c2, c3]
      cases hs : srt none l with
      | false =>
        rw [hs] at k77
        have ht : tabOk all b = false := by
          simp only [tabOk, hfe, hs, Bool.and_false, Bool.false_and]
        rw [ht]
        simp -implicitDefEqProofs [hi, b1, g1, hcx, hk, k22, c2, c3, k77]
      | true =>
        rw [hs] at k77
        have k6 := h1006 all h6 (by omega) (by rw [hfe]; omega)
        have htl := tab_len h6 (by omega) (by rw [hfe]; omega)
        rw [hfe] at htl
        have k21 := h21 (tabPut all) b (by omega)
        have ht : tabOk all b = decide (tabPut all = b) := by
          simp only [tabOk, hfe, hs, Bool.and_true]
          rw [decide_eq_true (by omega), Bool.true_and]
        rw [ht]
        generalize tabPut all = tb at *
        by_cases c4 : tb = b
        · rw [decide_eq_true c4] at k21 ⊢
          simp -implicitDefEqProofs [hi, b1, g1, hcx, hk, k22, c2, c3, k77, k6, k21]
        · rw [decide_eq_false c4] at k21 ⊢
          simp -implicitDefEqProofs [hi, b1, g1, hcx, hk, k22, c2, c3, k77, k6, k21]
  · refine .inr ?_
    rw [List.drop_eq_nil_of_le (by omega)]
    simp only [partsB, finR, List.append_nil]
    generalize hfe : all.flatten = l at *
    by_cases c2 : (l.length : Int) < 1
    · have ht : tabOk all b = false := by
        simp only [tabOk, hfe]
        rw [decide_eq_false (by omega)]; rfl
      have c2' : l.length = 0 := by omega
      rw [ht]
      simp -implicitDefEqProofs [hi, k22, c2, c2']
    by_cases c3 : 16384 < (l.length : Int)
    · have ht : tabOk all b = false := by
        simp only [tabOk, hfe]
        rw [decide_eq_false (by omega)]; rfl
      rw [ht]
      simp -implicitDefEqProofs [hi, k22, c2, c3]
    cases hs : srt none l with
    | false =>
      rw [hs] at k77
      have ht : tabOk all b = false := by
        simp only [tabOk, hfe, hs, Bool.and_false, Bool.false_and]
      rw [ht]
      simp -implicitDefEqProofs [hi, k22, c2, c3, k77]
    | true =>
      rw [hs] at k77
      have k6 := h1006 all h6 (by omega) (by rw [hfe]; omega)
      have htl := tab_len h6 (by omega) (by rw [hfe]; omega)
      rw [hfe] at htl
      have k21 := h21 (tabPut all) b (by omega)
      have ht : tabOk all b = decide (tabPut all = b) := by
        simp only [tabOk, hfe, hs, Bool.and_true]
        rw [decide_eq_true (by omega), Bool.true_and]
      rw [ht]
      generalize tabPut all = tb at *
      by_cases c4 : tb = b
      · rw [decide_eq_true c4] at k21 ⊢
        simp -implicitDefEqProofs [hi, k22, c2, c3, k77, k6, k21]
      · rw [decide_eq_false c4] at k21 ⊢
        simp -implicitDefEqProofs [hi, k22, c2, c3, k77, k6, k21]
theorem s2004 {lc : List Ct} (hl0 : look (lc.map fun c => (c.sig.id, c)) 2004 = some c2004) : ∀ (b : List Int) (hb : ∀ c ∈ b, 0 ≤ c ∧ c < 256) (hl : b.length ≤ 60000), Does1 (Phi lc) 2004 [⟨.sl (.int .u8), b⟩] [⟨.sl ItT, refTab b⟩] :=
  fun b hb hl => by
    have eFc : c2004.F = F2004 := rfl
    have eFh := f2004 b hb hl
    rw [← eFc] at eFh
    exact Does1.of hl0 eFh rfl

abbrev PtT : Ty := .pair (.int .i64) (.pair (.int .i64) (.pair (.int .i64) (.int .u32)))
abbrev Pt : Type := Int × Int × Int × Int
end Go.Proofs.YtolcekkcenedjaaGreat.Sx

namespace Go.Proofs.YtolcekkcenedjaaGreat.Sx
def sig2008 : Sig := { id := 2008, ins := [(false, PtT.sl), (false, PtT.sl)], outs := [(false, [(Ty.bool, none)])] }
def ir2008 : IR := .op .len [.v 0] (.op .len [.v 1] (.op (.icmp .neq) [.v 2, .v 3] (.ite (.v 4) (.ret [.l (.bool false)]) (.loop [.l (.int .i64 0)] [Ty.int .i64] (.op .len [.v 0] (.op (.icmp .lss) [.v 5, .v 6] (.ite (.v 7) (.op .inb [.v 0, .v 5] (.op (.idx PtT) [.v 0, .v 5] (.op .inb [.v 1, .v 5] (.op (.idx PtT) [.v 1, .v 5] (.op (.eqs true 4) [.v 8, .v 9, .v 10, .v 11, .v 12, .v 13, .v 14, .v 15] (.ite (.v 16) (.ret [.l (.bool false)]) (.op (.ibin .add .i64) [.v 5, .l (.int .i64 1)] (.jump 0 [.v 17])))))))) (.ret [.l (.bool true)]))))))))
def sig2009 : Sig := { id := 2009, ins := [(false, ItT.sl)], outs := [(false, [(PtT.sl, some 40)])] }
def ir2009 : IR := .op .len [.v 0] (.loop [.l (.nil PtT), .l (.int .i64 0)] [PtT.sl, Ty.int .i64] (.op (.icmp .lss) [.v 3, .v 1] (.ite (.v 4) (.op .inb [.v 0, .v 3] (.op (.idx ItT) [.v 0, .v 3] (.ite (.v 7) (.op (.mk PtT 1) [.v 9, .v 10, .v 11, .v 12] (.op .app [.v 2, .v 13] (.op (.ibin .add .i64) [.v 3, .l (.int .i64 1)] (.jump 0 [.v 14, .v 15])))) (.op (.ibin .add .i64) [.v 3, .l (.int .i64 1)] (.jump 0 [.v 2, .v 13]))))) (.ret [.v 2]))))
def sig2010 : Sig := { id := 2010, ins := [(false, ItT.sl)], outs := [(false, [(PtT.sl, some 40)])] }
def ir2010 : IR := .op (.mk PtT 0) [] (.loop [.v 1, .l (.int .i64 0)] [PtT.sl, Ty.int .i64] (.op .len [.v 0] (.op (.icmp .lss) [.v 3, .v 4] (.ite (.v 5) (.op .inb [.v 0, .v 3] (.op (.idx ItT) [.v 0, .v 3] (.ite (.v 8) (.op .inb [.v 0, .v 3] (.op (.idx ItT) [.v 0, .v 3] (.op (.mk PtT 1) [.v 18, .v 19, .v 20, .v 21] (.op .app [.v 2, .v 22] (.op (.ibin .add .i64) [.v 3, .l (.int .i64 1)] (.jump 0 [.v 23, .v 24])))))) (.op (.ibin .add .i64) [.v 3, .l (.int .i64 1)] (.jump 0 [.v 2, .v 14]))))) (.ret [.v 2])))))
def sig2011 : Sig := { id := 2011, ins := [(true, (Ty.int .i64).pair ((Ty.int .i64).pair ItT.sl))], outs := [(false, [((Ty.int .u8).sl, some 5)])] }
def ir2011 : IR := .op (.conv .u64) [.v 0] (.op (.conv .u64) [.v 1] (.op .len [.v 2] (.op (.conv .u64) [.v 5] (.op (.mk (Ty.int .u64) 3) [.v 3, .v 4, .v 6] (.op (.call 120) [.v 7] (.op (.call 1023) [.l (.int .i64 5), .v 8] (.op .len [.v 2] (.op (.icmp .eql) [.v 10, .l (.int .i64 0)] (.ite (.v 11) (.ret [.v 9]) (.op (.call 1007) [.v 2, .l (.int .i64 512)] (.op (.call 1006) [.v 12] (.op .app [.v 9, .v 13] (.ret [.v 14])))))))))))))
def sig2007 : Sig := { id := 2007, ins := [(false, (Ty.int .u8).sl)], outs := [(true, [(Ty.int .i64, none), (Ty.int .i64, none), (ItT.sl, some 44)]), (false, [(Ty.bool, none)])] }
def ir2007 : IR := .op (.call 1038) [.v 0] (.op (.icmp .neq) [.v 4, .l (.int .i64 0)] (.ite (.v 5) (.ret [.l (.int .i64 0), .l (.int .i64 0), .l (.nil ItT), .l (.bool false)]) (.op (.call 132) [.v 2, .l (.int .i64 3)] (.op (.icmp .neq) [.v 8, .l (.int .i64 0)] (.ite (.v 9) (.ret [.l (.int .i64 0), .l (.int .i64 0), .l (.nil ItT), .l (.bool false)]) (.op .inb [.v 6, .l (.int .i64 0)] (.op (.idx (Ty.int .u64)) [.v 6, .l (.int .i64 0)] (.op (.icmp .gtr) [.v 10, .l (.int .u64 2147483647)] (.ite (.v 11) (.ret [.l (.int .i64 0), .l (.int .i64 0), .l (.nil ItT), .l (.bool false)]) (.op .inb [.v 6, .l (.int .i64 1)] (.op (.idx (Ty.int .u64)) [.v 6, .l (.int .i64 1)] (.op (.icmp .gtr) [.v 12, .l (.int .u64 2147483647)] (.ite (.v 13) (.ret [.l (.int .i64 0), .l (.int .i64 0), .l (.nil ItT), .l (.bool false)]) (.op .inb [.v 6, .l (.int .i64 0)] (.op (.idx (Ty.int .u64)) [.v 6, .l (.int .i64 0)] (.op (.conv .i64) [.v 14] (.op .inb [.v 6, .l (.int .i64 1)] (.op (.idx (Ty.int .u64)) [.v 6, .l (.int .i64 1)] (.op (.conv .i64) [.v 16] (.op .sub [.v 0, .v 3] (.op (.call 2004) [.v 18] (.op (.call 1015) [.v 15, .v 17, .v 19] (.op .not [.v 20] (.ite (.v 21) (.ret [.l (.int .i64 0), .l (.int .i64 0), .l (.nil ItT), .l (.bool false)]) (.op (.call 2011) [.v 15, .v 17, .v 19] (.op (.call 21) [.v 22, .v 0] (.op .not [.v 23] (.ite (.v 24) (.ret [.l (.int .i64 0), .l (.int .i64 0), .l (.nil ItT), .l (.bool false)]) (.ret [.v 15, .v 17, .v 19, .l (.bool true)])))))))))))))))))))))))))))))
def sig2002 : Sig := { id := 2002, ins := [(false, (Ty.int .u8).sl)], outs := [(false, [(Ty.bool, none)])] }
def ir2002 : IR := .op .len [.v 0] (.op (.icmp .gtr) [.v 1, .l (.int .i64 4000)] (.ite (.v 2) (.op (.call 1016) [] (.ret [.v 3])) (.op (.mk (Ty.int .u8) 0) [] (.op .app [.v 3, .v 0] (.op (.call 1018) [.v 4] (.op (.call 2007) [.v 0] (.op (.icmp .eql) [.v 5, .v 9] (.ite (.v 13) (.op (.icmp .eql) [.v 6, .v 10] (.ite (.v 14) (.op (.call 50) [.v 7, .v 11] (.ite (.v 15) (.op (.icmp .eql) [.v 8, .l (.int .i64 0)] (.op (.bcmp .eql) [.v 16, .v 12] (.ite (.v 17) (.op (.icmp .eql) [.v 8, .l (.int .i64 2)] (.op .not [.v 12] (.op (.bcmp .eql) [.v 18, .v 19] (.ite (.v 20) (.op (.call 1016) [] (.ret [.v 21])) (.ret [.l (.bool false)]))))) (.ret [.l (.bool false)])))) (.ret [.l (.bool false)]))) (.ret [.l (.bool false)]))) (.ret [.l (.bool false)])))))))))
def sig2003 : Sig := { id := 2003, ins := [(true, (Ty.int .i64).pair ((Ty.int .i64).pair ItT.sl))], outs := [(false, [(Ty.bool, none)])] }
def ir2003 : IR := .op (.call 28) [.v 2] (.op .not [.v 3] (.ite (.v 4) (.op (.call 1016) [] (.ret [.v 5])) (.op (.call 1017) [.v 0, .v 1, .v 2] (.op (.call 2009) [.v 2] (.op (.call 2010) [.v 2] (.op (.call 2008) [.v 7, .v 8] (.op .not [.v 9] (.ite (.v 10) (.ret [.l (.bool false)]) (.op (.call 1015) [.v 0, .v 1, .v 2] (.op .not [.v 11] (.ite (.v 12) (.op (.icmp .eql) [.v 6, .l (.int .i64 1)] (.ite (.v 13) (.op .len [.v 5] (.op (.icmp .eql) [.v 14, .l (.int .i64 0)] (.ite (.v 15) (.op (.call 1016) [] (.ret [.v 16])) (.ret [.l (.bool false)])))) (.ret [.l (.bool false)]))) (.op (.call 1018) [.v 5] (.op (.icmp .eql) [.v 6, .l (.int .i64 0)] (.ite (.v 17) (.op (.call 2011) [.v 0, .v 1, .v 2] (.op (.call 21) [.v 5, .v 18] (.ite (.v 19) (.op (.icmp .eql) [.v 16, .l (.int .i64 0)] (.ite (.v 20) (.op (.icmp .eql) [.v 13, .v 0] (.ite (.v 21) (.op (.icmp .eql) [.v 14, .v 1] (.ite (.v 22) (.op (.call 50) [.v 15, .v 2] (.ite (.v 23) (.op (.call 1016) [] (.ret [.v 24])) (.ret [.l (.bool false)]))) (.ret [.l (.bool false)]))) (.ret [.l (.bool false)]))) (.ret [.l (.bool false)]))) (.ret [.l (.bool false)])))) (.ret [.l (.bool false)])))))))))))))))
noncomputable def F2008 : List D → Option (List D) := Fof [] ir2008
noncomputable def c2008 : Ct := ⟨sig2008, F2008⟩
noncomputable def F2009 : List D → Option (List D) := Fof [] ir2009
noncomputable def c2009 : Ct := ⟨sig2009, F2009⟩
noncomputable def F2010 : List D → Option (List D) := Fof [] ir2010
noncomputable def c2010 : Ct := ⟨sig2010, F2010⟩
noncomputable def F2011 : List D → Option (List D) := Fof [c120, c1023, c1007, c1006] ir2011
noncomputable def c2011 : Ct := ⟨sig2011, F2011⟩
noncomputable def F2007 : List D → Option (List D) := Fof [c1038, c132, c2004, c1015, c2011, c21] ir2007
noncomputable def c2007 : Ct := ⟨sig2007, F2007⟩
noncomputable def F2002 : List D → Option (List D) := Fof [c1016, c1018, c2007, c50] ir2002
noncomputable def F2003 : List D → Option (List D) := Fof [c28, c1016, c1017, c2009, c2010, c2008, c1015, c1018, c2011, c21, c50] ir2003
end Go.Proofs.YtolcekkcenedjaaGreat.Sx

set_option maxHeartbeats 8000000
namespace Go.Proofs.YtolcekkcenedjaaGreat.Sx
attribute [local simp] mkp_tbl d_np_tbl o_pod_tbl mk_mark mk_it
@[simp] theorem mk_pt (a b c d : Int) : mkD PtT 1 [⟨.int .i64, a⟩, ⟨.int .i64, b⟩, ⟨.int .i64, c⟩, ⟨.int .u32, d⟩] = some ⟨.sl PtT, [(a, b, c, d)]⟩ := rfl

def pointOf (x : It) : Pt := (x.2.2.2.2.1, x.2.2.2.2.2.1, x.2.2.2.2.2.2.1, x.2.2.2.2.2.2.2)
def pointsL : List It → List Pt
  | [] => [] | x :: r => if x.2.2.1 = true then pointOf x :: pointsL r else pointsL r
theorem pointsL_len : ∀ l : List It, (pointsL l).length ≤ l.length
  | [] => by simp [pointsL]
  | x :: r => by
    have := pointsL_len r
    simp only [pointsL]
    split <;> simp only [List.length_cons] <;> omega

theorem f2008 (a : List Pt) (hl : a.length < 1000000) : F2008 [⟨.sl PtT, a⟩, ⟨.sl PtT, a⟩] = some [⟨.bool, true⟩] := by
  simp only [F2008, Fof, ir2008]
  simp -implicitDefEqProofs
  refine iter_meas (fun s : Int => (a.length - s).toNat) (fun _ => ([⟨.bool, true⟩] : List D)) (fun s => 0 ≤ s ∧ s ≤ a.length) (by exact ⟨by omega, by omega⟩) ?_
  rintro i ⟨h1, h2⟩
  by_cases hi : i < a.length
  · have g1 := getG (l := a) (d := dflt PtT) h1 hi
    have b1 : 0 ≤ i ∧ i < (a.length : Int) := ⟨h1, hi⟩
    have wi : IntKind.i64.wrap (i + 1) = i + 1 := wi64 _ (by omega) (by omega)
    refine .inl ⟨i + 1, ?_, ⟨by omega, by omega⟩, by omega, by first | rfl | trivial⟩
    simp -implicitDefEqProofs [hi, b1, wi]
  · refine .inr ?_
    simp -implicitDefEqProofs [hi]
theorem s2008 {lc : List Ct} (hl0 : look (lc.map fun c => (c.sig.id, c)) 2008 = some c2008) : ∀ (a : List Pt) (hl : a.length < 1000000), Does1 (Phi lc) 2008 [⟨.sl PtT, a⟩, ⟨.sl PtT, a⟩] [⟨.bool, true⟩] :=
  fun a hl => by
    have eFc : c2008.F = F2008 := rfl
    have eFh := f2008 a hl
    rw [← eFc] at eFh
    exact Does1.of hl0 eFh rfl
theorem f2009 (l : List It) (hl : l.length < 1000000) : F2009 [⟨.sl ItT, l⟩] = some [⟨.sl PtT, pointsL l⟩] := by
  simp only [F2009, Fof, ir2009]
  simp -implicitDefEqProofs
  refine (iter_meas (fun s : List Pt × Int => (l.length - s.2).toNat) (fun s => ([⟨.sl PtT, s.1 ++ pointsL (l.drop s.2.toNat)⟩] : List D)) (fun s => 0 ≤ s.2 ∧ s.2 ≤ l.length ∧ s.1.length ≤ s.2.toNat) (by exact ⟨by simp, by simp, by simp⟩) ?_).trans (by simp)
  rintro ⟨acc, i⟩ ⟨h1, h2, h3⟩
  simp only at h1 h2 h3 ⊢
  by_cases hi : i < l.length
  rotate_left
  · refine .inr ?_
    rw [List.drop_eq_nil_of_le (by omega)]
    simp -implicitDefEqProofs [hi, pointsL]
  rw [dropI h1 hi]
  have g1 := getG (l := l) (d := dflt ItT) h1 (by omega)
  have b1 : 0 ≤ i ∧ i < (l.length : Int) := ⟨h1, hi⟩
  have wi : IntKind.i64.wrap (i + 1) = i + 1 := wi64 _ (by omega) (by omega)
  have hB : acc.length + 1 ≤ BIG := by simp only [BIG]; omega
  generalize hcx : l[i.toNat]'(by omega) = x at *
  obtain ⟨k, d, f, y, s, a, n, m⟩ := x
  cases f
  · refine .inl ⟨(acc, i + 1), ?_, ⟨by (try simp only); omega, by (try simp only); omega, by (try simp only); omega⟩, by (try simp only); omega, by simp [pointsL]⟩
    simp -implicitDefEqProofs [hi, b1, g1, hcx, wi]
  · refine .inl ⟨(acc ++ [(s, a, n, m)], i + 1), ?_, ⟨by (try simp only); omega, by (try simp only); omega, by simp; omega⟩, by (try simp only); omega, by simp [pointsL, pointOf]⟩
    simp -implicitDefEqProofs [hi, b1, g1, hcx, wi, hB]
theorem s2009 {lc : List Ct} (hl0 : look (lc.map fun c => (c.sig.id, c)) 2009 = some c2009) : ∀ (l : List It) (hl : l.length < 1000000), Does1 (Phi lc) 2009 [⟨.sl ItT, l⟩] [⟨.sl PtT, pointsL l⟩] :=
  fun l hl => by
    have eFc : c2009.F = F2009 := rfl
    have eFh := f2009 l hl
    rw [← eFc] at eFh
    exact Does1.of hl0 eFh rfl
theorem f2010 (l : List It) (hl : l.length < 1000000) : F2010 [⟨.sl ItT, l⟩] = some [⟨.sl PtT, pointsL l⟩] := by
  simp only [F2010, Fof, ir2010]
  simp -implicitDefEqProofs
  refine (iter_meas (fun s : List Pt × Int => (l.length - s.2).toNat) (fun s => ([⟨.sl PtT, s.1 ++ pointsL (l.drop s.2.toNat)⟩] : List D)) (fun s => 0 ≤ s.2 ∧ s.2 ≤ l.length ∧ s.1.length ≤ s.2.toNat) (by exact ⟨by simp, by simp, by simp⟩) ?_).trans (by simp)
  rintro ⟨acc, i⟩ ⟨h1, h2, h3⟩
  simp only at h1 h2 h3 ⊢
  by_cases hi : i < l.length
  rotate_left
  · refine .inr ?_
    rw [List.drop_eq_nil_of_le (by omega)]
    simp -implicitDefEqProofs [hi, pointsL]
  rw [dropI h1 hi]
  have g1 := getG (l := l) (d := dflt ItT) h1 (by omega)
  have b1 : 0 ≤ i ∧ i < (l.length : Int) := ⟨h1, hi⟩
  have wi : IntKind.i64.wrap (i + 1) = i + 1 := wi64 _ (by omega) (by omega)
  have hB : acc.length + 1 ≤ BIG := by simp only [BIG]; omega
  generalize hcx : l[i.toNat]'(by omega) = x at *
  obtain ⟨k, d, f, y, s, a, n, m⟩ := x
  cases f
  · refine .inl ⟨(acc, i + 1), ?_, ⟨by (try simp only); omega, by (try simp only); omega, by (try simp only); omega⟩, by (try simp only); omega, by simp [pointsL]⟩
    simp -implicitDefEqProofs [hi, b1, g1, hcx, wi]
  · refine .inl ⟨(acc ++ [(s, a, n, m)], i + 1), ?_, ⟨by (try simp only); omega, by (try simp only); omega, by simp; omega⟩, by (try simp only); omega, by simp [pointsL, pointOf]⟩
    simp -implicitDefEqProofs [hi, b1, g1, hcx, wi, hB]
theorem s2010 {lc : List Ct} (hl0 : look (lc.map fun c => (c.sig.id, c)) 2010 = some c2010) : ∀ (l : List It) (hl : l.length < 1000000), Does1 (Phi lc) 2010 [⟨.sl ItT, l⟩] [⟨.sl PtT, pointsL l⟩] :=
  fun l hl => by
    have eFc : c2010.F = F2010 := rfl
    have eFh := f2010 l hl
    rw [← eFc] at eFh
    exact Does1.of hl0 eFh rfl
theorem maySn_is {i t : Int} {l : List It} (h : maySn i t l = true) : cntS i = true ∧ cntS t = true ∧ l.length ≤ 16384 ∧ srt none l = true := by
  simp only [maySn, Bool.and_eq_true, decide_eq_true_eq] at h
  exact ⟨h.1.1.1.1, h.1.1.1.2, h.1.1.2, h.1.2⟩
theorem f2011 (i t : Int) (l : List It) (hms : maySn i t l = true) (hl : l.length ≤ 10000) (hm : sumsOk l) (hb : bytesOk l) : F2011 [⟨.int .i64, i⟩, ⟨.int .i64, t⟩, ⟨.sl ItT, l⟩] = some [⟨.sl (.int .u8), snapPut i t l⟩] := by
  have h120 := s120 (lc := [c120, c1023, c1007, c1006]) rfl
  have h1023 := s1023 (lc := [c120, c1023, c1007, c1006]) rfl
  have h1007 := s1007 (lc := [c120, c1023, c1007, c1006]) rfl
  have h1006 := s1006 (lc := [c120, c1023, c1007, c1006]) rfl
  simp only [F2011, Fof, ir2011]
  generalize Phi [c120, c1023, c1007, c1006] = Φ at *
  obtain ⟨hi, ht, hn, hs⟩ := maySn_is hms
  obtain ⟨s1, s2, s3⟩ := snap_body (n := l.length) hi ht (by omega)
  have r1 := cntS_r hi; have r2 := cntS_r ht
  have w1 : IntKind.u64.wrap i = i := wu64 _ (by omega) (by omega)
  have w2 : IntKind.u64.wrap t = t := wu64 _ (by omega) (by omega)
  have w3 : IntKind.u64.wrap (l.length : Int) = l.length := wu64 _ (by omega) (by omega)
  have k4 := h120 _ s1 (by simp)
  have hmu := mk_u3 i t (l.length : Int)
  have k5 := h1023 5 (putL [i, t, (l.length : Int)]) (by omega) (by omega) s3 (by omega)
  have hpl : (putF (5, putL [i, t, (l.length : Int)])).length ≤ 100 := by
    have : (putF (5, putL [i, t, (l.length : Int)])).length ≤ (putL [i, t, (l.length : Int)]).length + 10 := putF_le (by show (putL [i, t, (l.length : Int)]).length < _; omega)
    omega
  have hx := fun x hx => srt_len hs x hx
  have k7 := h1007 l 512 (by omega) (fun x hxl => by have := hx x hxl; omega)
  have hsn : snapPut i t l = putF (5, putL [i, t, (l.length : Int)]) ++ (if l.length = 0 then [] else tabPut (parted 512 l)) := rfl
  rw [hsn]
  by_cases hz : l.length = 0
  · have hz' : (l.length : Int) = 0 := by omega
    rw [hz'] at w3 k4 hmu k5 ⊢
    generalize putF (5, putL [i, t, 0]) = pf at *
    simp -implicitDefEqProofs [w1, w2, w3, hmu, k4, k5, hz]
  · have hz' : ¬ (l.length : Int) = 0 := by omega
    have hi1 := made_is (size := 512) hs hm hb (by omega) hl
    have k6 := h1006 (parted 512 l) hi1.good hi1.len hi1.items
    have htl := tab_len hi1.good hi1.len hi1.items
    have q1 := hi1.len
    have q2 := hi1.items
    generalize putF (5, putL [i, t, (l.length : Int)]) = pf at *
    generalize putL [i, t, (l.length : Int)] = pb at *
    generalize parted 512 l = ps at *
    have hB : pf.length + (tabPut ps).length ≤ BIG := by simp only [BIG]; omega
    generalize tabPut ps = tb at *
    simp -implicitDefEqProofs [w1, w2, w3, hmu, k4, k5, hz, hz', k7, k6, hB]
theorem s2011 {lc : List Ct} (hl0 : look (lc.map fun c => (c.sig.id, c)) 2011 = some c2011) : ∀ (i t : Int) (l : List It) (hms : maySn i t l = true) (hl : l.length ≤ 10000) (hm : sumsOk l) (hb : bytesOk l), Does1 (Phi lc) 2011 [⟨.int .i64, i⟩, ⟨.int .i64, t⟩, ⟨.sl ItT, l⟩] [⟨.sl (.int .u8), snapPut i t l⟩] :=
  fun i t l hms hl hm hb => by
    have eFc : c2011.F = F2011 := rfl
    have eFh := f2011 i t l hms hl hm hb
    rw [← eFc] at eFh
    exact Does1.of hl0 eFh rfl
theorem openT_nil : openT [] = none := by decide
theorem firstF_snap {u v : Int} {l : List It} (h : maySn u v l = true) : firstF (snapPut u v l) = some (5, putL [u, v, (l.length : Int)], (putF (5, putL [u, v, (l.length : Int)])).length) := by
  obtain ⟨hi, ht, hn, hs⟩ := maySn_is h
  obtain ⟨s1, s2, s3⟩ := snap_body (n := l.length) hi ht (by omega)
  unfold snapPut
  exact firstF_put (f := (5, putL [u, v, (l.length : Int)])) (by
    unfold okF
    exact decide_eq_true ⟨by show (1 : Int) ≤ 5; omega, by show (5 : Int) ≤ 250; omega, by show (putL [u, v, (l.length : Int)]).length ≤ 1048576; omega⟩) _
theorem all3' {u v : Int} {n : Nat} (hi : cntS u = true) (ht : cntS v = true) (hn : n ≤ 16384) : allL 3 (putL [u, v, (n : Int)]) = some [u, v, (n : Int)] := by
  have h1 := cntS_r hi; have h2 := cntS_r ht
  have h := all3 u v (n : Int) [] (by omega) (by omega) (by omega)
  rw [List.append_nil] at h
  exact h.1
theorem snap_ref {b : List Int} {k : Int} {y : List Int} {n : Nat} {u v w : Int} (hb : ∀ c ∈ b, 0 ≤ c ∧ c < 256) (hf : firstF b = some (k, y, n)) (ha : allL 3 y = some [u, v, w]) (hu : u ≤ 2147483647) (hv : v ≤ 2147483647) :
    snapGet b = if maySn u v (refTab (b.drop n)) = true ∧ snapPut u v (refTab (b.drop n)) = b then some (u, v, refTab (b.drop n)) else none := by
  unfold snapGet
  rw [hf]
  simp only [ha]
  by_cases hk : k = 5
  · rw [if_pos hk, if_pos ⟨hu, hv⟩]
    cases hit : snapItems (b.drop n) with
    | none =>
      simp only [snapIf]
      unfold snapItems at hit
      split at hit
      · cases hit
      rename_i hne
      have ho : openT (b.drop n) = none := by
        cases ho : openT (b.drop n) with
        | none => rfl
        | some ps => rw [ho] at hit; cases hit
      have hr : refTab (b.drop n) = [] := by unfold refTab; rw [ho]; rfl
      rw [hr, if_neg]
      rintro ⟨h1, h2⟩
      have h3 := firstF_snap h1
      rw [h2, hf] at h3
      simp only [Option.some.injEq, Prod.mk.injEq] at h3
      have h4 : (snapPut u v []).length = n := by
        rw [h3.2.2]
        unfold snapPut
        rw [if_pos (by rfl), List.append_nil]
      rw [h2] at h4
      rw [List.length_drop] at hne
      omega
    | some l =>
      have hr : refTab (b.drop n) = l := by
        unfold snapItems at hit
        split at hit
        · rename_i hz
          simp only [Option.some.injEq] at hit; subst hit
          rw [List.length_eq_zero_iff.1 hz]
          unfold refTab; rw [openT_nil]; rfl
        · unfold refTab; rw [hit]; rfl
      rw [hr]
      rfl
  · rw [if_neg hk, if_neg]
    rintro ⟨h1, h2⟩
    have h3 := firstF_snap h1
    rw [h2, hf] at h3
    simp only [Option.some.injEq, Prod.mk.injEq] at h3
    exact hk h3.1
def resRf (o : Option (Int × Int × List It)) : List D := match o with
  | some (u, v, l) => [⟨.int .i64, u⟩, ⟨.int .i64, v⟩, ⟨.sl ItT, l⟩, ⟨.bool, true⟩]
  | none => [⟨.int .i64, 0⟩, ⟨.int .i64, 0⟩, ⟨.sl ItT, []⟩, ⟨.bool, false⟩]
theorem refTab_good {b : List Int} (hb : ∀ c ∈ b, 0 ≤ c ∧ c < 256) (hl : b.length ≤ 60000) : sumsOk (refTab b) ∧ bytesOk (refTab b) ∧ 3 * (refTab b).length ≤ b.length ∧ ∀ x ∈ refTab b, x.2.2.2.1.length ≤ 32 := by
  unfold refTab
  cases ho : openT b with
  | none => exact ⟨(by intro x hx; cases hx), (by intro x hx; cases hx), by simp, (by intro x hx; cases hx)⟩
  | some ps =>
    obtain ⟨i1, i2, i3⟩ := openT_good hb hl ho
    have hg := goodP_flat i1.good
    exact ⟨hg.2.1, hg.1, i2, fun x hx => (hg.2.2 x hx).2⟩
theorem f2007 (b : List Int) (hb : ∀ c ∈ b, 0 ≤ c ∧ c < 256) (hl : b.length ≤ 29900) : F2007 [⟨.sl (.int .u8), b⟩] = some (resRf (snapGet b)) := by
  have h1038 := s1038 (lc := [c1038, c132, c2004, c1015, c2011, c21]) rfl
  have h132 := s132 (lc := [c1038, c132, c2004, c1015, c2011, c21]) rfl
  have h2004 := s2004 (lc := [c1038, c132, c2004, c1015, c2011, c21]) rfl
  have h1015 := s1015 (lc := [c1038, c132, c2004, c1015, c2011, c21]) rfl
  have h2011 := s2011 (lc := [c1038, c132, c2004, c1015, c2011, c21]) rfl
  have h21 := s21 (lc := [c1038, c132, c2004, c1015, c2011, c21]) rfl
  simp only [F2007, Fof, ir2007]
  generalize Phi [c1038, c132, c2004, c1015, c2011, c21] = Φ at *
  have k1 := h1038 b hb (by omega)
  cases hf : firstF b with
  | none =>
    rw [hf] at k1
    simp only [resF1] at k1
    have he := errF_pos b
    have he' : ¬ errF b = 0 := by omega
    have hs : snapGet b = none := by unfold snapGet; rw [hf]
    rw [hs]
    simp -implicitDefEqProofs [k1, he', resRf]
  | some x =>
  obtain ⟨k, y, n⟩ := x
  rw [hf] at k1
  simp only [resF1] at k1
  obtain ⟨i1, i2, i3, i4⟩ := firstF_inv hb hf
  have hyb : ∀ c ∈ y, 0 ≤ c ∧ c < 256 := fun c hc => hb c (by rw [i1]; exact List.mem_append_left _ (by simp [putF, hc]))
  have hyl : y.length ≤ b.length := by
    have := putF_len (k, y)
    simp only at this; omega
  have k2 := h132 y 3 hyb (by omega) (by omega) (by omega)
  rw [show (3 : Int).toNat = 3 from rfl] at k2
  generalize (allA 3 y : Int) = aa at *
  cases ha : allL 3 y with
  | none =>
    rw [ha] at k2
    simp only [resA] at k2
    have hs : snapGet b = none := by
      unfold snapGet; rw [hf]; simp only [ha]; split <;> rfl
    rw [hs]
    simp -implicitDefEqProofs [k1, k2, resRf]
  | some u3 =>
  rw [ha] at k2
  simp only [resA, List.nil_append] at k2
  obtain ⟨u, v, w, rfl⟩ := three (allL_len 3 _ _ ha)
  have hrg := allL_range 3 _ _ hyb ha
  have hu := hrg u (by simp)
  have hv := hrg v (by simp)
  by_cases hc1 : 2147483647 < u
  · have hs : snapGet b = none := by
      unfold snapGet; rw [hf]; simp only [ha]; rw [if_neg (c := u ≤ 2147483647 ∧ v ≤ 2147483647) (by omega)]; split <;> rfl
    rw [hs]
    simp -implicitDefEqProofs [k1, k2, hc1, resRf]
  by_cases hc2 : 2147483647 < v
  · have hs : snapGet b = none := by
      unfold snapGet; rw [hf]; simp only [ha]; rw [if_neg (c := u ≤ 2147483647 ∧ v ≤ 2147483647) (by omega)]; split <;> rfl
    rw [hs]
    simp -implicitDefEqProofs [k1, k2, hc1, hc2, resRf]
  have hsr := snap_ref hb hf ha (by omega) (by omega)
  have hbd : ∀ c ∈ b.drop n, 0 ≤ c ∧ c < 256 := fun c hc => hb c (List.mem_of_mem_drop hc)
  have hdl : (b.drop n).length ≤ 29900 := by rw [List.length_drop]; omega
  have k3 := h2004 (b.drop n) hbd (by omega)
  obtain ⟨l1, l2, l3, l4⟩ := refTab_good hbd (by omega)
  have wu : IntKind.i64.wrap u = u := wi64 _ (by omega) (by omega)
  have wv : IntKind.i64.wrap v = v := wi64 _ (by omega) (by omega)
  generalize refTab (b.drop n) = l at *
  have k4 := h1015 u v l (by omega) (fun x hx => by have := l4 x hx; omega)
  rw [hsr]
  cases hms : maySn u v l
  · rw [hms] at k4
    rw [if_neg (by simp)]
    simp -implicitDefEqProofs [k1, k2, hc1, hc2, i4, k3, wu, wv, k4, resRf]
  · rw [hms] at k4
    have k5 := h2011 u v l hms (by omega) l1 l2
    have hpl : (snapPut u v l).length < 1000000000 := by
      obtain ⟨hi, ht, hn, hs⟩ := maySn_is hms
      obtain ⟨s1, s2, s3⟩ := snap_body (n := l.length) hi ht (by omega)
      have h5 : (putF (5, putL [u, v, (l.length : Int)])).length ≤ (putL [u, v, (l.length : Int)]).length + 10 := putF_le (by show (putL [u, v, (l.length : Int)]).length < _; omega)
      unfold snapPut
      split
      · simp only [List.append_nil]; omega
      · have hi1 := made_is (size := 512) hs l1 l2 (by omega) (by omega)
        have htl := tab_len hi1.good hi1.len hi1.items
        have q1 := hi1.len
        have q2 := hi1.items
        rw [List.length_append]; omega
    have k6 := h21 (snapPut u v l) b hpl
    by_cases hp : snapPut u v l = b
    · rw [decide_eq_true hp] at k6
      rw [if_pos ⟨rfl, hp⟩]
      generalize snapPut u v l = sp at *
      simp -implicitDefEqProofs [k1, k2, hc1, hc2, i4, k3, wu, wv, k4, k5, k6, resRf]
    · rw [decide_eq_false hp] at k6
      rw [if_neg (fun h => hp h.2)]
      generalize snapPut u v l = sp at *
      simp -implicitDefEqProofs [k1, k2, hc1, hc2, i4, k3, wu, wv, k4, k5, k6, resRf]
theorem s2007 {lc : List Ct} (hl0 : look (lc.map fun c => (c.sig.id, c)) 2007 = some c2007) : ∀ (b : List Int) (hb : ∀ c ∈ b, 0 ≤ c ∧ c < 256) (hl : b.length ≤ 29900), Does1 (Phi lc) 2007 [⟨.sl (.int .u8), b⟩] (resRf (snapGet b)) :=
  fun b hb hl => by
    have eFc : c2007.F = F2007 := rfl
    have eFh := f2007 b hb hl
    rw [← eFc] at eFh
    exact Does1.of hl0 eFh (by unfold resRf; split <;> rfl)
theorem snapGet_good {b : List Int} (hb : ∀ c ∈ b, 0 ≤ c ∧ c < 256) (hl : b.length ≤ 29900) {u v : Int} {l : List It} (h : snapGet b = some (u, v, l)) : 3 * l.length ≤ b.length ∧ ∀ x ∈ l, x.2.2.2.1.length ≤ 32 := by
  unfold snapGet at h
  split at h
  · cases h
  rename_i k y n hf
  split at h
  rotate_left
  · cases h
  split at h
  rotate_left
  · cases h
  split at h
  rotate_left
  · cases h
  cases hit : snapItems (b.drop n) with
  | none => rw [hit] at h; cases h
  | some l3 =>
    rw [hit] at h
    simp only [snapIf] at h
    split at h
    · rename_i hc
      simp only [Option.some.injEq, Prod.mk.injEq] at h
      obtain ⟨rfl, rfl, rfl⟩ := h
      obtain ⟨q1, q2, q3⟩ := snapItems_good (b := b.drop n) (fun c hc => hb c (List.mem_of_mem_drop hc)) (by rw [List.length_drop]; omega) hit
      rw [List.length_drop] at q3
      refine ⟨by omega, fun x hx => (srt_len (maySn_is hc.1).2.2.2 x hx).2.2⟩
    · cases h
theorem f2002 (b : List Int) (hb : ∀ c ∈ b, 0 ≤ c ∧ c < 256) : F2002 [⟨.sl (.int .u8), b⟩] = some [⟨.bool, true⟩] := by
  have h1016 := s1016 (lc := [c1016, c1018, c2007, c50]) rfl
  have h1018 := s1018 (lc := [c1016, c1018, c2007, c50]) rfl
  have h2007 := s2007 (lc := [c1016, c1018, c2007, c50]) rfl
  have h50 := s50 (lc := [c1016, c1018, c2007, c50]) rfl
  simp only [F2002, Fof, ir2002]
  generalize Phi [c1016, c1018, c2007, c50] = Φ at *
  have kA := h1016 ()
  by_cases c1 : 4000 < (b.length : Int)
  · simp -implicitDefEqProofs [c1, kA]
  have k1 := h1018 b hb (by omega)
  have k2 := h2007 b hb (by omega)
  have hB : b.length ≤ BIG := by simp only [BIG]; omega
  cases hg : snapGet b with
  | none =>
    rw [hg] at k1 k2
    simp only [resSn, resRf] at k1 k2
    have k50 := h50 [] [] (by simp) (by intro x hx; cases hx)
    rw [decide_eq_true rfl] at k50
    simp -implicitDefEqProofs [c1, hB, k1, k2, k50, kA]
  | some x =>
    obtain ⟨u, v, l⟩ := x
    rw [hg] at k1 k2
    simp only [resSn, resRf] at k1 k2
    obtain ⟨l1, l2⟩ := snapGet_good hb (by omega) hg
    have k50 := h50 l l (by omega) (fun x hx => by have := l2 x hx; omega)
    rw [decide_eq_true rfl] at k50
    simp -implicitDefEqProofs [c1, hB, k1, k2, k50, kA]
theorem snap_round {i t : Int} {l : List It} (h : maySn i t l = true) (hl : l.length ≤ 10000) (hm : sumsOk l) (hb : bytesOk l) : snapGet (snapPut i t l) = some (i, t, l) := by
  obtain ⟨hi, ht, hn, hs⟩ := maySn_is h
  have r1 := cntS_r hi; have r2 := cntS_r ht
  unfold snapGet
  rw [firstF_snap h]
  simp only [if_true, all3' hi ht hn]
  rw [if_pos (by omega)]
  have hit : snapItems ((snapPut i t l).drop (putF (5, putL [i, t, (l.length : Int)])).length) = some l := by
    unfold snapPut
    rw [List.drop_left]
    by_cases hz : l.length = 0
    · rw [if_pos hz, List.length_eq_zero_iff.1 hz]; rfl
    · rw [if_neg hz]
      have hi1 := made_is (size := 512) hs hm hb (by omega) hl
      unfold snapItems
      rw [made_open hi1, if_neg]
      · simp only [Option.map_some, parted_flat]
      · intro e
        have : tabPut (parted 512 l) = [] := List.length_eq_zero_iff.1 e
        have h2 := made_open hi1
        rw [this, openT_nil] at h2
        cases h2
  rw [hit]
  simp [snapIf, h]
theorem snap_bytes {i t : Int} {l : List It} (h : maySn i t l = true) (hl : l.length ≤ 100) (hm : sumsOk l) (hb : bytesOk l) : (∀ c ∈ snapPut i t l, 0 ≤ c ∧ c < 256) ∧ (snapPut i t l).length ≤ 29900 := by
  obtain ⟨hi, ht, hn, hs⟩ := maySn_is h
  obtain ⟨s1, s2, s3⟩ := snap_body (n := l.length) hi ht (by omega)
  have hok : okF (5, putL [i, t, (l.length : Int)]) = true := by
    unfold okF
    exact decide_eq_true ⟨by show (1 : Int) ≤ 5; omega, by show (5 : Int) ≤ 250; omega, by show (putL [i, t, (l.length : Int)]).length ≤ 1048576; omega⟩
  have h5 : (putF (5, putL [i, t, (l.length : Int)])).length ≤ (putL [i, t, (l.length : Int)]).length + 10 := putF_le (by show (putL [i, t, (l.length : Int)]).length < _; omega)
  have hbf := putF_byte hok s3
  unfold snapPut
  split
  · rw [List.append_nil]; exact ⟨hbf, by omega⟩
  · have hi1 := made_is (size := 512) hs hm hb (by omega) (by omega)
    have htl := tab_len hi1.good hi1.len hi1.items
    have hpc := parted_count 512 l
    rw [parted_flat] at htl
    refine ⟨fun c hc => ?_, by rw [List.length_append]; omega⟩
    rcases List.mem_append.1 hc with hc | hc
    · exact hbf c hc
    · exact made_bytes hs hm hb (by omega) c hc
theorem f2003 (i t : Int) (l : List It) (hm : sumsOk l) (hb : bytesOk l) : F2003 [⟨.int .i64, i⟩, ⟨.int .i64, t⟩, ⟨.sl ItT, l⟩] = some [⟨.bool, true⟩] := by
  have h28 := s28 (lc := [c28, c1016, c1017, c2009, c2010, c2008, c1015, c1018, c2011, c21, c50]) rfl
  have h1016 := s1016 (lc := [c28, c1016, c1017, c2009, c2010, c2008, c1015, c1018, c2011, c21, c50]) rfl
  have h1017 := s1017 (lc := [c28, c1016, c1017, c2009, c2010, c2008, c1015, c1018, c2011, c21, c50]) rfl
  have h2009 := s2009 (lc := [c28, c1016, c1017, c2009, c2010, c2008, c1015, c1018, c2011, c21, c50]) rfl
  have h2010 := s2010 (lc := [c28, c1016, c1017, c2009, c2010, c2008, c1015, c1018, c2011, c21, c50]) rfl
  have h2008 := s2008 (lc := [c28, c1016, c1017, c2009, c2010, c2008, c1015, c1018, c2011, c21, c50]) rfl
  have h1015 := s1015 (lc := [c28, c1016, c1017, c2009, c2010, c2008, c1015, c1018, c2011, c21, c50]) rfl
  have h1018 := s1018 (lc := [c28, c1016, c1017, c2009, c2010, c2008, c1015, c1018, c2011, c21, c50]) rfl
  have h2011 := s2011 (lc := [c28, c1016, c1017, c2009, c2010, c2008, c1015, c1018, c2011, c21, c50]) rfl
  have h21 := s21 (lc := [c28, c1016, c1017, c2009, c2010, c2008, c1015, c1018, c2011, c21, c50]) rfl
  have h50 := s50 (lc := [c28, c1016, c1017, c2009, c2010, c2008, c1015, c1018, c2011, c21, c50]) rfl
  simp only [F2003, Fof, ir2003]
  generalize Phi [c28, c1016, c1017, c2009, c2010, c2008, c1015, c1018, c2011, c21, c50] = Φ at *
  have kA := h1016 ()
  have k28 := h28 l
  cases hL : lightL l <;> rw [hL] at k28
  · simp -implicitDefEqProofs [k28, kA]
  obtain ⟨h100, hx⟩ := light_len hL
  have k1 := h1017 i t l (by omega) hm hb
  have k9 := h2009 l (by omega)
  have k10 := h2010 l (by omega)
  have hpl := pointsL_len l
  have k8 := h2008 (pointsL l) (by omega)
  have k15 := h1015 i t l (by omega) (fun x hxl => by have := hx x hxl; omega)
  unfold resPt at k1
  generalize pointsL l = pl at *
  cases hms : maySn i t l
  · rw [hms] at k15
    rw [if_neg (by simp [hms])] at k1
    simp -implicitDefEqProofs [k28, k1, k9, k10, k8, k15, kA]
  · rw [hms] at k15
    rw [if_pos hms] at k1
    obtain ⟨s1, s2⟩ := snap_bytes hms h100 hm hb
    have k18 := h1018 (snapPut i t l) s1 s2
    rw [snap_round hms (by omega) hm hb] at k18
    simp only [resSn] at k18
    have k11 := h2011 i t l hms (by omega) hm hb
    have k21 := h21 (snapPut i t l) (snapPut i t l) (by omega)
    rw [decide_eq_true rfl] at k21
    have k50 := h50 l l (by omega) (fun x hxl => by have := hx x hxl; omega)
    rw [decide_eq_true rfl] at k50
    generalize snapPut i t l = sp at *
    simp -implicitDefEqProofs [k28, k1, k9, k10, k8, k15, k18, k11, k21, k50, kA]
end Go.Proofs.YtolcekkcenedjaaGreat.Sx
