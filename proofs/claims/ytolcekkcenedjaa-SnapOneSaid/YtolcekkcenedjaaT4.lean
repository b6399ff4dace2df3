/-
  The laws, of the functions' texts, within the bounds that each statement names.
-/
import Derived.Test.YtolcekkcenedjaaT3
set_option linter.unusedVariables false
set_option linter.unusedSimpArgs false
namespace Go.Proofs.Ytolcekkcenedjaa.Sx
def sig1004 : Sig := { id := 1004, ins := [], outs := [(false, [(Ty.bool, none)])] }
def ir1004 : IR := .op (.mk ItT 1) [.l (.str [Int.ofNat 97]), .l (.bool true), .l (.bool false), .l (.nil (Ty.int .u8)), .l (.int .i64 0), .l (.int .i64 0), .l (.int .i64 0), .l (.int .u32 0)] (.op (.call 1005) [.v 0, .l (.int .i64 100)] (.op (.call 1019) [.v 1] (.op (.call 1008) [.v 1] (.op (.icmp .eql) [.v 2, .l (.int .i64 0)] (.ite (.v 8) (.op .len [.v 3] (.op (.icmp .eql) [.v 9, .l (.int .i64 4)] (.ite (.v 10) (.op .len [.v 1] (.op (.icmp .eql) [.v 5, .v 11] (.ite (.v 12) (.op (.icmp .eql) [.v 7, .l (.int .i64 0)] (.ite (.v 13) (.op (.isp true) [.v 6] (.ite (.v 14) (.op (.call 1010) [.v 6] (.op (.icmp .eql) [.v 15, .l (.int .i64 1)] (.ret [.v 16]))) (.ret [.l (.bool false)]))) (.ret [.l (.bool false)]))) (.ret [.l (.bool false)])))) (.ret [.l (.bool false)])))) (.ret [.l (.bool false)]))))))
def sig1000 : Sig := { id := 1000, ins := [(false, ItT.sl), (false, Ty.int .i64)], outs := [(false, [(Ty.bool, none)])] }
def ir1000 : IR := .op (.call 28) [.v 0] (.op .not [.v 2] (.ite (.v 3) (.op (.call 1004) [] (.ret [.v 4])) (.op (.call 1005) [.v 0, .v 1] (.op .len [.v 0] (.op (.icmp .eql) [.v 6, .l (.int .i64 0)] (.ite (.v 7) (.op (.icmp .eql) [.v 5, .l (.int .i64 1)] (.ite (.v 8) (.op .len [.v 4] (.op (.icmp .eql) [.v 9, .l (.int .i64 0)] (.ite (.v 10) (.op (.call 1004) [] (.ret [.v 11])) (.ret [.l (.bool false)])))) (.ret [.l (.bool false)]))) (.op (.icmp .lss) [.v 1, .l (.int .i64 1)] (.ite (.v 8) (.op (.icmp .eql) [.v 5, .l (.int .i64 1)] (.ite (.v 9) (.op .len [.v 4] (.op (.icmp .eql) [.v 10, .l (.int .i64 0)] (.ite (.v 11) (.op (.call 1004) [] (.ret [.v 12])) (.ret [.l (.bool false)])))) (.ret [.l (.bool false)]))) (.op (.icmp .gtr) [.v 1, .l (.int .i64 65536)] (.ite (.v 9) (.op (.icmp .eql) [.v 5, .l (.int .i64 1)] (.ite (.v 10) (.op .len [.v 4] (.op (.icmp .eql) [.v 11, .l (.int .i64 0)] (.ite (.v 12) (.op (.call 1004) [] (.ret [.v 13])) (.ret [.l (.bool false)])))) (.ret [.l (.bool false)]))) (.op (.call 77) [.v 0] (.op .not [.v 10] (.ite (.v 11) (.op (.icmp .eql) [.v 5, .l (.int .i64 1)] (.ite (.v 12) (.op .len [.v 4] (.op (.icmp .eql) [.v 13, .l (.int .i64 0)] (.ite (.v 14) (.op (.call 1004) [] (.ret [.v 15])) (.ret [.l (.bool false)])))) (.ret [.l (.bool false)]))) (.op (.icmp .eql) [.v 5, .l (.int .i64 0)] (.ite (.v 12) (.op (.call 1007) [.v 0, .v 1] (.op (.call 1006) [.v 13] (.op (.call 21) [.v 4, .v 14] (.ite (.v 15) (.op (.call 1004) [] (.ret [.v 16])) (.ret [.l (.bool false)]))))) (.ret [.l (.bool false)]))))))))))))))))
def sig1001 : Sig := { id := 1001, ins := [(false, ItT.sl), (false, Ty.int .u16), (false, Ty.int .u16)], outs := [(false, [(Ty.bool, none)])] }
def ir1001 : IR := .op (.call 28) [.v 0] (.op .not [.v 3] (.ite (.v 4) (.op (.call 1004) [] (.ret [.v 5])) (.op .len [.v 0] (.op (.icmp .eql) [.v 5, .l (.int .i64 0)] (.ite (.v 6) (.op (.call 1004) [] (.ret [.v 7])) (.op (.call 77) [.v 0] (.op .not [.v 7] (.ite (.v 8) (.op (.call 1004) [] (.ret [.v 9])) (.op (.conv .i64) [.v 1] (.op (.ibin .add .i64) [.l (.int .i64 1), .v 9] (.op (.call 1005) [.v 0, .v 10] (.op (.conv .i64) [.v 2] (.op (.ibin .add .i64) [.l (.int .i64 1), .v 13] (.op (.call 1005) [.v 0, .v 14] (.op (.call 1008) [.v 11] (.op (.call 1008) [.v 15] (.op (.icmp .neq) [.v 12, .l (.int .i64 0)] (.ite (.v 21) (.ret [.l (.bool false)]) (.op (.icmp .neq) [.v 16, .l (.int .i64 0)] (.ite (.v 22) (.ret [.l (.bool false)]) (.op (.icmp .neq) [.v 18, .l (.int .i64 0)] (.ite (.v 23) (.ret [.l (.bool false)]) (.op (.icmp .neq) [.v 20, .l (.int .i64 0)] (.ite (.v 24) (.ret [.l (.bool false)]) (.op (.isp false) [.v 17] (.ite (.v 25) (.ret [.l (.bool false)]) (.op (.isp false) [.v 19] (.ite (.v 26) (.ret [.l (.bool false)]) (.op (.call 1009) [.v 17] (.op (.call 1009) [.v 19] (.op (.call 50) [.v 27, .v 28] (.ite (.v 29) (.op (.call 1010) [.v 17] (.op (.call 1010) [.v 19] (.op (.icmp .eql) [.v 30, .v 31] (.ite (.v 32) (.op (.call 1004) [] (.ret [.v 33])) (.ret [.l (.bool false)]))))) (.ret [.l (.bool false)])))))))))))))))))))))))))))))))))
def sig1002 : Sig := { id := 1002, ins := [(false, Ty.str)], outs := [(false, [(Ty.bool, none)])] }
def ir1002 : IR := .loop [.l (.int .i64 0)] [Ty.int .i64] (.op (.icmp .lss) [.v 1, .l (.int .i64 2)] (.ite (.v 2) (.op (.icmp .eql) [.v 1, .l (.int .i64 1)] (.ite (.v 3) (.op (.mkp TblT) [.l (.nil MkT), .l (.nil (Ty.int .u8)), .l (.int .i64 0), .l (.str []), .l (.bool false)] (.op (.call 1011) [.v 4, .v 0] (.op (.call 1012) [.v 4] (.ite (.v 13) (.ret [.l (.bool false)]) (.op (.call 1013) [.v 4, .v 0] (.ite (.v 16) (.ret [.l (.bool false)]) (.op (.call 1014) [.v 4, .l (.str []), .l (.str []), .l (.int .i64 9)] (.op .len [.v 17] (.op (.icmp .neq) [.v 18, .l (.int .i64 0)] (.ite (.v 19) (.ret [.l (.bool false)]) (.op (.call 1009) [.v 4] (.op .len [.v 20] (.op (.icmp .neq) [.v 21, .l (.int .i64 0)] (.ite (.v 22) (.ret [.l (.bool false)]) (.op (.call 1010) [.v 4] (.op (.icmp .neq) [.v 23, .l (.int .i64 0)] (.ite (.v 24) (.ret [.l (.bool false)]) (.op (.scmp .neq) [.v 14, .l (.str [])] (.ite (.v 25) (.ret [.l (.bool false)]) (.op (.scmp .neq) [.v 15, .l (.str [])] (.ite (.v 26) (.ret [.l (.bool false)]) (.op (.ibin .add .i64) [.v 1, .l (.int .i64 1)] (.jump 0 [.v 27]))))))))))))))))))))))) (.op (.call 1011) [.l (L.np TblT), .v 0] (.op (.call 1012) [.l (L.np TblT)] (.ite (.v 12) (.ret [.l (.bool false)]) (.op (.call 1013) [.l (L.np TblT), .v 0] (.ite (.v 15) (.ret [.l (.bool false)]) (.op (.call 1014) [.l (L.np TblT), .l (.str []), .l (.str []), .l (.int .i64 9)] (.op .len [.v 16] (.op (.icmp .neq) [.v 17, .l (.int .i64 0)] (.ite (.v 18) (.ret [.l (.bool false)]) (.op (.call 1009) [.l (L.np TblT)] (.op .len [.v 19] (.op (.icmp .neq) [.v 20, .l (.int .i64 0)] (.ite (.v 21) (.ret [.l (.bool false)]) (.op (.call 1010) [.l (L.np TblT)] (.op (.icmp .neq) [.v 22, .l (.int .i64 0)] (.ite (.v 23) (.ret [.l (.bool false)]) (.op (.scmp .neq) [.v 13, .l (.str [])] (.ite (.v 24) (.ret [.l (.bool false)]) (.op (.scmp .neq) [.v 14, .l (.str [])] (.ite (.v 25) (.ret [.l (.bool false)]) (.op (.ibin .add .i64) [.v 1, .l (.int .i64 1)] (.jump 0 [.v 26])))))))))))))))))))))))) (.op (.call 1004) [] (.ret [.v 3]))))
noncomputable def F1004 : List D → Option (List D) := Fof [c1005, c1019, c1008, c1010] ir1004
noncomputable def c1004 : Ct := ⟨sig1004, F1004⟩
noncomputable def F1000 : List D → Option (List D) := Fof [c28, c1004, c1005, c77, c1007, c1006, c21] ir1000
noncomputable def c1000 : Ct := ⟨sig1000, F1000⟩
noncomputable def F1001 : List D → Option (List D) := Fof [c28, c1004, c77, c1005, c1008, c1009, c50, c1010] ir1001
noncomputable def c1001 : Ct := ⟨sig1001, F1001⟩
noncomputable def F1002 : List D → Option (List D) := Fof [c1011, c1012, c1013, c1014, c1009, c1010, c1004] ir1002
noncomputable def c1002 : Ct := ⟨sig1002, F1002⟩
end Go.Proofs.Ytolcekkcenedjaa.Sx

set_option maxHeartbeats 8000000
namespace Go.Proofs.Ytolcekkcenedjaa.Sx
attribute [local simp] mkp_tbl d_np_tbl o_pod_tbl mk_mark mk_it

theorem frBs_len2 : ∀ (ps : List (List It)), goodP ps → (putFs (frBs ps)).length ≤ 200 * ps.flatten.length + 20 * ps.length
  | [], _ => by simp [frBs, putFs]
  | p :: ps, h => by
    have h1 := blk_len (h p (by simp)).2.1 (h p (by simp)).2.2.1
    have h0 := (h p (by simp)).2.1
    have h2 : (putF (frB p)).length ≤ (blkPut p).length + 10 := putF_le (f := frB p) (by show (blkPut p).length < _; omega)
    have h4 := frBs_len2 ps (fun q hq => h q (by simp [hq]))
    simp only [frBs, List.map_cons, putFs, List.length_append, List.length_cons, List.flatten_cons] at h4 ⊢
    omega
theorem tab_len {ps : List (List It)} (h : goodP ps) (hl : ps.length ≤ 10000) (hn : ps.flatten.length ≤ 16384) : (tabPut ps).length ≤ 202 * ps.flatten.length + 94 * ps.length + 60 := by
  have h1 := frBs_len2 ps h
  have hix := idx_len ps 0 (goodP_fr h) (by omega)
  have hfr := tab_fr (ps := ps) (goodP_fr h) hl (by omega)
  have hft : ∀ f ∈ tailF ps ps.flatten, okF f = true := fun f hf => hfr f (List.mem_append_right _ hf)
  have f1 := hft (2, idxG 0 ps) (by simp [tailF])
  have f2 := hft (3, sieveOf (keysOf ps.flatten)) (by simp [tailF])
  have f3 := hft (4, one ps.flatten.length) (by simp [tailF])
  simp only [okF, decide_eq_true_eq] at f1 f2 f3
  have l1 : (putF (2, idxG 0 ps)).length ≤ (idxG 0 ps).length + 10 := putF_le (by show (idxG 0 ps).length < _; omega)
  have l2 : (putF (3, sieveOf (keysOf ps.flatten))).length ≤ (sieveOf (keysOf ps.flatten)).length + 10 := putF_le (by show (sieveOf (keysOf ps.flatten)).length < _; omega)
  have l3 : (putF (4, one ps.flatten.length)).length ≤ (one ps.flatten.length).length + 10 := putF_le (by show (one ps.flatten.length).length < _; omega)
  have l4 := one_len5 (n := ps.flatten.length) (by omega)
  have l5 := sieve_len (keysOf ps.flatten)
  have l6 : (keysOf ps.flatten).length = ps.flatten.length := by simp only [keysOf, List.length_map]
  rw [l6] at l5
  rw [tab_split, List.length_append]
  simp only [tailF, putFs, List.length_append, List.length_nil] at l1 l2 l3 ⊢
  unfold sieveN at l5
  omega
theorem idx_bytes' {ps : List (List It)} (h : goodP ps) (hl : ps.length ≤ 10000) (hn : ps.flatten.length ≤ 16384) : ∀ c ∈ tabPut ps, 0 ≤ c ∧ c < 256 := by
  have hfr := tab_fr (ps := ps) (goodP_fr h) hl (by omega)
  refine putFs_byte (fun f hf => ⟨hfr f hf, ?_⟩)
  rcases List.mem_append.1 hf with hf | hf
  · obtain ⟨p, hp, rfl⟩ := List.mem_map.1 hf
    exact blk_bytes (h p hp).2.2.2.2
  · exact tail_bytes h f hf
theorem made_is {l : List It} {size : Int} (hs : srt none l = true) (hm : sumsOk l) (hb : bytesOk l) (h1 : 1 ≤ l.length) (h2 : l.length ≤ 10000) : TabIs (parted size l) where
  good := parted_good hs hm hb
  srt := by rw [parted_flat]; exact hs
  ne := parted_ne (by intro e; rw [e] at h1; simp at h1)
  len := by have := parted_count size l; omega
  items := by rw [parted_flat]; omega
theorem made_open {ps : List (List It)} (h : TabIs ps) : openT (tabPut ps) = some ps :=
  openT_put (fun p hp => ⟨(h.good p hp).1, (h.good p hp).2.1, (h.good p hp).2.2.2.1⟩) h.srt h.ne h.len h.items
theorem made_len {l : List It} {size : Int} (hs : srt none l = true) (hm : sumsOk l) (hb : bytesOk l) (h2 : l.length ≤ 100) : (tabPut (parted size l)).length ≤ 30000 := by
  have hpc := parted_count size l
  have := tab_len (parted_good (size := size) hs hm hb) (by omega) (by rw [parted_flat]; omega)
  rw [parted_flat] at this
  omega
theorem made_bytes {l : List It} {size : Int} (hs : srt none l = true) (hm : sumsOk l) (hb : bytesOk l) (h2 : l.length ≤ 10000) : ∀ c ∈ tabPut (parted size l), 0 ≤ c ∧ c < 256 :=
  idx_bytes' (parted_good hs hm hb) (by have := parted_count size l; omega) (by rw [parted_flat]; omega)

abbrev itA : It := ([97], true, false, [], 0, 0, 0, 0)
theorem srtA : srt none [itA] = true := by decide
theorem partA : parted 100 [itA] = [[itA]] := by decide
theorem sumsA : sumsOk [itA] := by intro x hx; simp only [List.mem_singleton] at hx; subst hx; exact ⟨by decide, by decide⟩
theorem bytesA : bytesOk [itA] := by
  intro x hx; simp only [List.mem_singleton] at hx; subst hx
  exact ⟨by intro c hc; simp only [List.mem_singleton] at hc; subst hc; exact ⟨by decide, by decide⟩, by intro c hc; cases hc⟩
theorem f1004  : F1004 [] = some [⟨.bool, true⟩] := by
  have h1005 := s1005 (lc := [c1005, c1019, c1008, c1010]) rfl
  have h1019 := s1019 (lc := [c1005, c1019, c1008, c1010]) rfl
  have h1008 := s1008 (lc := [c1005, c1019, c1008, c1010]) rfl
  have h1010 := s1010 (lc := [c1005, c1019, c1008, c1010]) rfl
  simp only [F1004, Fof, ir1004]
  generalize Phi [c1005, c1019, c1008, c1010] = Φ at *
  have k1 := h1005 [itA] 100 (by simp) sumsA bytesA
  have hmk : mayMake [itA] 100 = true := by decide
  unfold resMk at k1
  rw [if_pos hmk] at k1
  have hb := made_bytes (size := 100) srtA sumsA bytesA (by simp)
  have hl := made_len (size := 100) srtA sumsA bytesA (by simp)
  have hi := made_is (size := 100) srtA sumsA bytesA (by simp) (by simp)
  have ho := made_open hi
  have k2 := h1019 _ hb (by omega)
  have k3 := h1008 _ hb (by omega)
  rw [ho] at k3
  simp only [resO] at k3
  have k4 := h1010 (some (tblOf (parted 100 [itA])))
  have hsc : scanF (tabPut (parted 100 [itA])) = frBs (parted 100 [itA]) ++ tailF (parted 100 [itA]) (parted 100 [itA]).flatten := by
    have hfr := tab_fr (ps := parted 100 [itA]) (goodP_fr hi.good) hi.len (by have := hi.items; omega)
    have h3 := scanF_put (r := []) hfr firstF_nil
    rwa [List.append_nil] at h3
  have hln : lenT (some (tblOf (parted 100 [itA]))) = 1 := by
    show (((parted 100 [itA]).flatten.length : Nat) : Int) = 1
    rw [parted_flat]; rfl
  rw [hln] at k4
  have hend : (putFs (scanF (tabPut (parted 100 [itA])))).length = (tabPut (parted 100 [itA])).length := by rw [hsc]; rfl
  have hfour : (scanF (tabPut (parted 100 [itA]))).length = 4 := by rw [hsc, partA]; rfl
  simp only [resS, List.nil_append, Nat.zero_add] at k2
  have hne : (some (tblOf (parted 100 [itA]))).isNone = false := rfl
  generalize tabPut (parted 100 [itA]) = tb at *
  generalize scanF tb = sc at *
  generalize placesF 0 sc = pl at *
  generalize tblOf (parted 100 [itA]) = tt at *
  have hend' : ((putFs sc).length : Int) = tb.length := by omega
  have hfour' : (sc.length : Int) = 4 := by omega
  simp -implicitDefEqProofs [k1, k2, k3, k4, hend, hend', hfour, hfour']
theorem s1004 {lc : List Ct} (hl0 : look (lc.map fun c => (c.sig.id, c)) 1004 = some c1004) : ∀ _u : Unit, Does1 (Phi lc) 1004 [] [⟨.bool, true⟩] :=
  fun _ => Does1.of hl0 f1004 rfl
theorem light_len {l : List It} (h : lightL l = true) : l.length ≤ 100 ∧ ∀ x ∈ l, x.1.length ≤ 200 ∧ x.2.2.2.1.length ≤ 200 := by
  simp only [lightL, Bool.and_eq_true, decide_eq_true_eq, List.all_eq_true] at h
  exact h
theorem f1000 (l : List It) (size : Int) (hm : sumsOk l) (hb : bytesOk l) : F1000 [⟨.sl ItT, l⟩, ⟨.int .i64, size⟩] = some [⟨.bool, true⟩] := by
  have h28 := s28 (lc := [c28, c1004, c1005, c77, c1007, c1006, c21]) rfl
  have h1004 := s1004 (lc := [c28, c1004, c1005, c77, c1007, c1006, c21]) rfl
  have h1005 := s1005 (lc := [c28, c1004, c1005, c77, c1007, c1006, c21]) rfl
  have h77 := s77 (lc := [c28, c1004, c1005, c77, c1007, c1006, c21]) rfl
  have h1007 := s1007 (lc := [c28, c1004, c1005, c77, c1007, c1006, c21]) rfl
  have h1006 := s1006 (lc := [c28, c1004, c1005, c77, c1007, c1006, c21]) rfl
  have h21 := s21 (lc := [c28, c1004, c1005, c77, c1007, c1006, c21]) rfl
  simp only [F1000, Fof, ir1000]
  generalize Phi [c28, c1004, c1005, c77, c1007, c1006, c21] = Φ at *
  have kA := h1004
  have k28 := h28 l
  cases hL : lightL l <;> rw [hL] at k28
  · simp -implicitDefEqProofs [k28, kA ()]
  obtain ⟨h100, hx⟩ := light_len hL
  have k1 := h1005 l size (by omega) hm hb
  have k77 := h77 l (by omega) (fun x hxl => by have := hx x hxl; omega)
  have kA' := kA ()
  cases hmk : mayMake l size
  · unfold resMk at k1
    rw [if_neg (by simp [hmk])] at k1
    by_cases c1 : l.length = 0
    · have c1' : (l.length : Int) = 0 := by omega
      simp -implicitDefEqProofs [k28, k1, c1, c1', kA']
    have c1' : ¬ (l.length : Int) = 0 := by omega
    by_cases c2 : size < 1
    · simp -implicitDefEqProofs [k28, k1, c1, c1', c2, kA']
    by_cases c3 : 65536 < size
    · simp -implicitDefEqProofs [k28, k1, c1, c1', c2, c3, kA']
    have hs : srt none l = false := by
      cases hs : srt none l with
      | false => rfl
      | true =>
        have : mayMake l size = true := by
          simp only [mayMake, Bool.and_eq_true, decide_eq_true_eq]
          exact ⟨⟨by omega, by omega⟩, hs⟩
        rw [hmk] at this; cases this
    rw [hs] at k77
    simp -implicitDefEqProofs [k28, k1, c1, c1', c2, c3, k77, kA']
  · unfold resMk at k1
    rw [if_pos hmk] at k1
    simp only [mayMake, Bool.and_eq_true, decide_eq_true_eq] at hmk
    obtain ⟨⟨q1, q2⟩, q3⟩ := hmk
    rw [q3] at k77
    have k7 := h1007 l size (by omega) (fun x hxl => by have := hx x hxl; omega)
    have hi := made_is (size := size) q3 hm hb (by omega) (by omega)
    have k6 := h1006 (parted size l) hi.good hi.len hi.items
    have hl := made_len (size := size) q3 hm hb h100
    have k21 := h21 (tabPut (parted size l)) (tabPut (parted size l)) (by omega)
    rw [decide_eq_true rfl] at k21
    generalize parted size l = ps at *
    generalize tabPut ps = tb at *
    have c1 : ¬ l.length = 0 := by omega
    have c1' : ¬ (l.length : Int) = 0 := by omega
    have c2 : ¬ size < 1 := by omega
    have c3 : ¬ 65536 < size := by omega
    simp -implicitDefEqProofs [k28, k1, c1, c1', c2, c3, k77, k7, k6, k21, kA']
theorem s1000 {lc : List Ct} (hl0 : look (lc.map fun c => (c.sig.id, c)) 1000 = some c1000) : ∀ (l : List It) (size : Int) (hm : sumsOk l) (hb : bytesOk l), Does1 (Phi lc) 1000 [⟨.sl ItT, l⟩, ⟨.int .i64, size⟩] [⟨.bool, true⟩] :=
  fun l size hm hb => by
    have eFc : c1000.F = F1000 := rfl
    have eFh := f1000 l size hm hb
    rw [← eFc] at eFh
    exact Does1.of hl0 eFh rfl
theorem f1001 (l : List It) (x y : Int) (hx : 0 ≤ x ∧ x < 65536) (hy : 0 ≤ y ∧ y < 65536) (hm : sumsOk l) (hb : bytesOk l) : F1001 [⟨.sl ItT, l⟩, ⟨.int .u16, x⟩, ⟨.int .u16, y⟩] = some [⟨.bool, true⟩] := by
  have h28 := s28 (lc := [c28, c1004, c77, c1005, c1008, c1009, c50, c1010]) rfl
  have h1004 := s1004 (lc := [c28, c1004, c77, c1005, c1008, c1009, c50, c1010]) rfl
  have h77 := s77 (lc := [c28, c1004, c77, c1005, c1008, c1009, c50, c1010]) rfl
  have h1005 := s1005 (lc := [c28, c1004, c77, c1005, c1008, c1009, c50, c1010]) rfl
  have h1008 := s1008 (lc := [c28, c1004, c77, c1005, c1008, c1009, c50, c1010]) rfl
  have h1009 := s1009 (lc := [c28, c1004, c77, c1005, c1008, c1009, c50, c1010]) rfl
  have h50 := s50 (lc := [c28, c1004, c77, c1005, c1008, c1009, c50, c1010]) rfl
  have h1010 := s1010 (lc := [c28, c1004, c77, c1005, c1008, c1009, c50, c1010]) rfl
  simp only [F1001, Fof, ir1001]
  generalize Phi [c28, c1004, c77, c1005, c1008, c1009, c50, c1010] = Φ at *
  have kA' := h1004 ()
  have k28 := h28 l
  cases hL : lightL l <;> rw [hL] at k28
  · simp -implicitDefEqProofs [k28, kA']
  obtain ⟨h100, hxl⟩ := light_len hL
  have k77 := h77 l (by omega) (fun x hx => by have := hxl x hx; omega)
  by_cases c1 : l.length = 0
  · have c1' : (l.length : Int) = 0 := by omega
    simp -implicitDefEqProofs [k28, c1, c1', kA']
  have c1' : ¬ (l.length : Int) = 0 := by omega
  cases hs : srt none l <;> rw [hs] at k77
  · simp -implicitDefEqProofs [k28, c1, c1', k77, kA']
  have wx : IntKind.i64.wrap x = x := wi64 _ (by omega) (by omega)
  have wx1 : IntKind.i64.wrap (1 + x) = 1 + x := wi64 _ (by omega) (by omega)
  have wy : IntKind.i64.wrap y = y := wi64 _ (by omega) (by omega)
  have wy1 : IntKind.i64.wrap (1 + y) = 1 + y := wi64 _ (by omega) (by omega)
  have key : ∀ z : Int, 0 ≤ z ∧ z < 65536 → ∃ (b : List Int) (t : Tbl), Does1 Φ 1005 [⟨.sl ItT, l⟩, ⟨.int .i64, 1 + z⟩] [⟨.sl (.int .u8), b⟩, ⟨.int .i64, 0⟩] ∧ Does1 Φ 1008 [⟨.sl (.int .u8), b⟩] [⟨.pt TblT, some t⟩, ⟨.int .i64, 0⟩] ∧ Does1 Φ 1009 [⟨.pt TblT, some t⟩] [⟨.sl ItT, l⟩] ∧ Does1 Φ 1010 [⟨.pt TblT, some t⟩] [⟨.int .i64, l.length⟩] := by
    intro z hz
    have k1 := h1005 l (1 + z) (by omega) hm hb
    have hmk : mayMake l (1 + z) = true := by
      simp only [mayMake, Bool.and_eq_true, decide_eq_true_eq]
      exact ⟨⟨by omega, by omega⟩, hs⟩
    unfold resMk at k1
    rw [if_pos hmk] at k1
    have hi := made_is (size := 1 + z) hs hm hb (by omega) (by omega)
    have hbb := made_bytes (size := 1 + z) hs hm hb (by omega)
    have hl := made_len (size := 1 + z) hs hm hb h100
    have k3 := h1008 _ hbb (by omega)
    rw [made_open hi] at k3
    simp only [resO] at k3
    have hg : TabGood (some (tblOf (parted (1 + z) l))) := .inr ⟨_, rfl, hi⟩
    have k4 := h1009 _ hg
    rw [items_tbl hi.good, parted_flat] at k4
    have k5 := h1010 (some (tblOf (parted (1 + z) l)))
    have hln : lenT (some (tblOf (parted (1 + z) l))) = l.length := by
      show (((parted (1 + z) l).flatten.length : Nat) : Int) = l.length
      rw [parted_flat]
    rw [hln] at k5
    exact ⟨_, _, k1, k3, k4, k5⟩
  obtain ⟨b1, t1, p1, p2, p3, p4⟩ := key x hx
  obtain ⟨b2, t2, q1, q2, q3, q4⟩ := key y hy
  have k50 := h50 l l (by omega) (fun z hz => by have := hxl z hz; omega)
  rw [decide_eq_true rfl] at k50
  clear key
  simp -implicitDefEqProofs [k28, c1, c1', k77, wx, wx1, wy, wy1, p1, p2, p3, p4, q1, q2, q3, q4, k50, kA']
theorem s1001 {lc : List Ct} (hl0 : look (lc.map fun c => (c.sig.id, c)) 1001 = some c1001) : ∀ (l : List It) (x y : Int) (hx : 0 ≤ x ∧ x < 65536) (hy : 0 ≤ y ∧ y < 65536) (hm : sumsOk l) (hb : bytesOk l), Does1 (Phi lc) 1001 [⟨.sl ItT, l⟩, ⟨.int .u16, x⟩, ⟨.int .u16, y⟩] [⟨.bool, true⟩] :=
  fun l x y hx hy hm hb => by
    have eFc : c1001.F = F1001 := rfl
    have eFh := f1001 l x y hx hy hm hb
    rw [← eFc] at eFh
    exact Does1.of hl0 eFh rfl
theorem f1002 (key : List Int) (hkb : ∀ c ∈ key, 0 ≤ c ∧ c < 256) : F1002 [⟨.str, key⟩] = some [⟨.bool, true⟩] := by
  have h1011 := s1011 (lc := [c1011, c1012, c1013, c1014, c1009, c1010, c1004]) rfl
  have h1012 := s1012 (lc := [c1011, c1012, c1013, c1014, c1009, c1010, c1004]) rfl
  have h1013 := s1013 (lc := [c1011, c1012, c1013, c1014, c1009, c1010, c1004]) rfl
  have h1014 := s1014 (lc := [c1011, c1012, c1013, c1014, c1009, c1010, c1004]) rfl
  have h1009 := s1009 (lc := [c1011, c1012, c1013, c1014, c1009, c1010, c1004]) rfl
  have h1010 := s1010 (lc := [c1011, c1012, c1013, c1014, c1009, c1010, c1004]) rfl
  have h1004 := s1004 (lc := [c1011, c1012, c1013, c1014, c1009, c1010, c1004]) rfl
  simp only [F1002, Fof, ir1002]
  generalize Phi [c1011, c1012, c1013, c1014, c1009, c1010, c1004] = Φ at *
  have kA' := h1004 ()
  have zz : ∀ t : Option Tbl, deadT t = true → lenT t = 0 → Does1 Φ 1011 [⟨.pt TblT, t⟩, ⟨.str, key⟩] (resFd none) ∧ Does1 Φ 1012 [⟨.pt TblT, t⟩] [⟨.str, []⟩, ⟨.str, []⟩] ∧ Does1 Φ 1013 [⟨.pt TblT, t⟩, ⟨.str, key⟩] [⟨.bool, false⟩] ∧ Does1 Φ 1014 [⟨.pt TblT, t⟩, ⟨.str, []⟩, ⟨.str, []⟩, ⟨.int .i64, 9⟩] [⟨.sl ItT, []⟩] ∧ Does1 Φ 1009 [⟨.pt TblT, t⟩] [⟨.sl ItT, []⟩] ∧ Does1 Φ 1010 [⟨.pt TblT, t⟩] [⟨.int .i64, 0⟩] := by
    intro t hd hn
    have hi : itemsT t = [] := by
      unfold itemsT
      split
      · simp [deadT] at hd
      · rfl
    have he : endsT t = ([], []) := by
      unfold endsT
      split
      · simp [deadT] at hd
      · rfl
    have hmy : mayB t key = false := by
      unfold mayB
      split
      · simp [deadT] at hd
      · rfl
    have k1 := h1011 t key (.inl hd) (.inl hd) hkb
    have k2 := h1012 t (.inl hd)
    have k3 := h1013 t key (.inl hd) hkb
    have k4 := h1014 t [] [] 9 (.inl hd)
    have k5 := h1009 t (.inl hd)
    have k6 := h1010 t
    rw [hi] at k1 k4 k5
    rw [he] at k2
    rw [hmy] at k3
    rw [hn] at k6
    rw [scanR_nil] at k4
    exact ⟨k1, k2, k3, k4, k5, k6⟩
  obtain ⟨a1, a2, a3, a4, a5, a6⟩ := zz none rfl rfl
  obtain ⟨b1, b2, b3, b4, b5, b6⟩ := zz (some (([], [], 0, []), false)) rfl rfl
  clear zz
  simp only [resFd, itD, List.cons_append, List.nil_append] at a1 b1
  simp -implicitDefEqProofs
  rw [iter_again (s' := 1) (by simp -implicitDefEqProofs [a1, a2, a3, a4, a5, a6, show IntKind.i64.wrap 1 = 1 from by decide]), iter_again (s' := 2) (by simp -implicitDefEqProofs [b1, b2, b3, b4, b5, b6, show IntKind.i64.wrap 2 = 2 from by decide])]
  refine iter_out ?_
  simp -implicitDefEqProofs [kA']
theorem s1002 {lc : List Ct} (hl0 : look (lc.map fun c => (c.sig.id, c)) 1002 = some c1002) : ∀ (key : List Int) (hkb : ∀ c ∈ key, 0 ≤ c ∧ c < 256), Does1 (Phi lc) 1002 [⟨.str, key⟩] [⟨.bool, true⟩] :=
  fun key hkb => by
    have eFc : c1002.F = F1002 := rfl
    have eFh := f1002 key hkb
    rw [← eFc] at eFh
    exact Does1.of hl0 eFh rfl
theorem wf_u16 {x : Int} (h0 : Wf (.int .u16) x) : 0 ≤ x ∧ x < 65536 := by
  have h : IntKind.u16.min ≤ x ∧ x ≤ IntKind.u16.max := h0
  simp [IntKind.min, IntKind.max, IntKind.signed, IntKind.bits] at h; omega
end Go.Proofs.Ytolcekkcenedjaa.Sx

namespace Go.Proofs.Ytolcekkcenedjaa.Sx
def sig1032 : Sig := { id := 1032, ins := [(false, Ty.int .i64)], outs := [(false, [(Ty.bool, none)])] }
def ir1032 : IR := .op (.icmp .geq) [.v 0, .l (.int .i64 1)] (.ite (.v 1) (.op (.icmp .leq) [.v 0, .l (.int .i64 2147483647)] (.ret [.v 2])) (.ret [.l (.bool false)]))
def sig1017 : Sig := { id := 1017, ins := [(false, Ty.int .i64), (false, Ty.int .i64), (false, ItT.sl)], outs := [(false, [((Ty.int .u8).sl, some 5)]), (false, [(Ty.int .i64, none)])] }
def ir1017 : IR := .op (.call 1032) [.v 0] (.op .not [.v 3] (.ite (.v 4) (.ret [.l (.nil (Ty.int .u8)), .l (.int .i64 1)]) (.op (.call 1032) [.v 1] (.op .not [.v 5] (.ite (.v 6) (.ret [.l (.nil (Ty.int .u8)), .l (.int .i64 1)]) (.op .len [.v 2] (.op (.icmp .gtr) [.v 7, .l (.int .i64 16384)] (.ite (.v 8) (.ret [.l (.nil (Ty.int .u8)), .l (.int .i64 1)]) (.op (.call 75) [.v 2] (.op .not [.v 9] (.ite (.v 10) (.ret [.l (.nil (Ty.int .u8)), .l (.int .i64 1)]) (.op .len [.v 2] (.loop [.l (.int .i64 0)] [Ty.int .i64] (.op (.icmp .lss) [.v 12, .v 11] (.ite (.v 13) (.op .inb [.v 2, .v 12] (.op (.idx ItT) [.v 2, .v 12] (.ite (.v 15) (.op (.icmp .geq) [.v 12, .l (.int .i64 0)] (.ite (.v 10) (.ret [.l (.nil (Ty.int .u8)), .l (.int .i64 1)]) (.ite (.v 22) (.ret [.l (.nil (Ty.int .u8)), .l (.int .i64 1)]) (.op (.conv .u64) [.v 0] (.op (.conv .u64) [.v 1] (.op .len [.v 2] (.op (.conv .u64) [.v 25] (.op (.mk (Ty.int .u64) 3) [.v 23, .v 24, .v 26] (.op (.call 66) [.v 27] (.op (.mk ((Ty.int .i64).pair (Ty.int .u8).sl) 1) [.l (.int .i64 5), .v 28] (.op (.call 1035) [.v 29] (.op .len [.v 2] (.op (.icmp .eql) [.v 32, .l (.int .i64 0)] (.ite (.v 33) (.ret [.v 30, .l (.int .i64 0)]) (.op (.call 1005) [.v 2, .l (.int .i64 512)] (.op .app [.v 30, .v 34] (.ret [.v 36, .v 35]))))))))))))))))) (.op (.ibin .add .i64) [.v 12, .l (.int .i64 1)] (.jump 0 [.v 22]))))) (.ite (.v 10) (.ret [.l (.nil (Ty.int .u8)), .l (.int .i64 1)]) (.op (.conv .u64) [.v 0] (.op (.conv .u64) [.v 1] (.op .len [.v 2] (.op (.conv .u64) [.v 16] (.op (.mk (Ty.int .u64) 3) [.v 14, .v 15, .v 17] (.op (.call 66) [.v 18] (.op (.mk ((Ty.int .i64).pair (Ty.int .u8).sl) 1) [.l (.int .i64 5), .v 19] (.op (.call 1035) [.v 20] (.op .len [.v 2] (.op (.icmp .eql) [.v 23, .l (.int .i64 0)] (.ite (.v 24) (.ret [.v 21, .l (.int .i64 0)]) (.op (.call 1005) [.v 2, .l (.int .i64 512)] (.op .app [.v 21, .v 25] (.ret [.v 27, .v 26]))))))))))))))))))))))))))))))
def sig1037 : Sig := { id := 1037, ins := [(false, (Ty.int .u8).sl)], outs := [(false, [(ItT.sl, some 53)]), (false, [(Ty.int .i64, none)])] }
def ir1037 : IR := .op .len [.v 0] (.op (.icmp .eql) [.v 1, .l (.int .i64 0)] (.ite (.v 2) (.ret [.l (.nil ItT), .l (.int .i64 0)]) (.op (.call 1008) [.v 0] (.op (.icmp .neq) [.v 4, .l (.int .i64 0)] (.ite (.v 5) (.ret [.l (.nil ItT), .v 4]) (.op (.call 1009) [.v 3] (.ret [.v 6, .l (.int .i64 0)])))))))
def sig1018 : Sig := { id := 1018, ins := [(false, (Ty.int .u8).sl)], outs := [(false, [(Ty.int .i64, none)]), (false, [(Ty.int .i64, none)]), (false, [(ItT.sl, some 53)]), (false, [(Ty.int .i64, none)])] }
def ir1018 : IR := .op (.call 1036) [.v 0] (.op (.icmp .neq) [.v 4, .l (.int .i64 0)] (.ite (.v 5) (.ret [.l (.int .i64 0), .l (.int .i64 0), .l (.nil ItT), .l (.int .i64 2)]) (.op (.icmp .neq) [.v 1, .l (.int .i64 5)] (.ite (.v 6) (.ret [.l (.int .i64 0), .l (.int .i64 0), .l (.nil ItT), .l (.int .i64 2)]) (.op (.call 129) [.v 2, .l (.int .i64 3)] (.op (.icmp .neq) [.v 9, .l (.int .i64 0)] (.ite (.v 10) (.ret [.l (.int .i64 0), .l (.int .i64 0), .l (.nil ItT), .l (.int .i64 2)]) (.op .inb [.v 7, .l (.int .i64 0)] (.op (.idx (Ty.int .u64)) [.v 7, .l (.int .i64 0)] (.op (.icmp .gtr) [.v 11, .l (.int .u64 2147483647)] (.ite (.v 12) (.ret [.l (.int .i64 0), .l (.int .i64 0), .l (.nil ItT), .l (.int .i64 2)]) (.op .inb [.v 7, .l (.int .i64 1)] (.op (.idx (Ty.int .u64)) [.v 7, .l (.int .i64 1)] (.op (.icmp .gtr) [.v 13, .l (.int .u64 2147483647)] (.ite (.v 14) (.ret [.l (.int .i64 0), .l (.int .i64 0), .l (.nil ItT), .l (.int .i64 2)]) (.op .sub [.v 0, .v 3] (.op (.call 1037) [.v 15] (.op (.icmp .neq) [.v 17, .l (.int .i64 0)] (.ite (.v 18) (.ret [.l (.int .i64 0), .l (.int .i64 0), .l (.nil ItT), .l (.int .i64 2)]) (.op .inb [.v 7, .l (.int .i64 0)] (.op (.idx (Ty.int .u64)) [.v 7, .l (.int .i64 0)] (.op (.conv .i64) [.v 19] (.op .inb [.v 7, .l (.int .i64 1)] (.op (.idx (Ty.int .u64)) [.v 7, .l (.int .i64 1)] (.op (.conv .i64) [.v 21] (.op (.call 1017) [.v 20, .v 22, .v 16] (.op (.icmp .neq) [.v 24, .l (.int .i64 0)] (.ite (.v 25) (.ret [.l (.int .i64 0), .l (.int .i64 0), .l (.nil ItT), .l (.int .i64 2)]) (.op (.call 67) [.v 23, .v 0] (.op .not [.v 26] (.ite (.v 27) (.ret [.l (.int .i64 0), .l (.int .i64 0), .l (.nil ItT), .l (.int .i64 2)]) (.op .inb [.v 7, .l (.int .i64 0)] (.op (.idx (Ty.int .u64)) [.v 7, .l (.int .i64 0)] (.op (.conv .i64) [.v 28] (.op .inb [.v 7, .l (.int .i64 1)] (.op (.idx (Ty.int .u64)) [.v 7, .l (.int .i64 1)] (.op (.conv .i64) [.v 30] (.ret [.v 29, .v 31, .v 16, .l (.int .i64 0)]))))))))))))))))))))))))))))))))))))))
def sig1016 : Sig := { id := 1016, ins := [], outs := [(false, [(Ty.bool, none)])] }
def ir1016 : IR := .op (.call 1017) [.l (.int .i64 7), .l (.int .i64 3), .l (.nil ItT)] (.op (.call 1018) [.v 0] (.op (.icmp .eql) [.v 1, .l (.int .i64 0)] (.ite (.v 6) (.op (.icmp .eql) [.v 5, .l (.int .i64 0)] (.ite (.v 7) (.op (.icmp .eql) [.v 2, .l (.int .i64 7)] (.ite (.v 8) (.op (.icmp .eql) [.v 3, .l (.int .i64 3)] (.ite (.v 9) (.op .len [.v 4] (.op (.icmp .eql) [.v 10, .l (.int .i64 0)] (.ite (.v 11) (.op .len [.v 0] (.op (.icmp .eql) [.v 12, .l (.int .i64 9)] (.ret [.v 13]))) (.ret [.l (.bool false)])))) (.ret [.l (.bool false)]))) (.ret [.l (.bool false)]))) (.ret [.l (.bool false)]))) (.ret [.l (.bool false)]))))
def sig1015 : Sig := { id := 1015, ins := [(true, (Ty.int .i64).pair ((Ty.int .i64).pair ItT.sl))], outs := [(false, [(Ty.bool, none)])] }
def ir1015 : IR := .loop [.l (.int .i64 0)] [Ty.int .i64] (.op .len [.v 2] (.op (.icmp .lss) [.v 3, .v 4] (.ite (.v 5) (.op .inb [.v 2, .v 3] (.op (.idx ItT) [.v 2, .v 3] (.ite (.v 7) (.ret [.l (.bool false)]) (.op (.ibin .add .i64) [.v 3, .l (.int .i64 1)] (.jump 0 [.v 14]))))) (.op (.icmp .geq) [.v 0, .l (.int .i64 1)] (.ite (.v 6) (.op (.icmp .leq) [.v 0, .l (.int .i64 2147483647)] (.ite (.v 7) (.op (.icmp .geq) [.v 1, .l (.int .i64 1)] (.ite (.v 8) (.op (.icmp .leq) [.v 1, .l (.int .i64 2147483647)] (.ite (.v 9) (.op .len [.v 2] (.op (.icmp .leq) [.v 10, .l (.int .i64 16384)] (.ite (.v 11) (.op (.call 77) [.v 2] (.ret [.v 12])) (.ret [.l (.bool false)])))) (.ret [.l (.bool false)]))) (.ret [.l (.bool false)]))) (.ret [.l (.bool false)]))) (.ret [.l (.bool false)]))))))
def sig1003 : Sig := { id := 1003, ins := [(true, (Ty.int .i64).pair ((Ty.int .i64).pair ItT.sl)), (false, (Ty.int .u8).sl)], outs := [(false, [(Ty.bool, none)])] }
def ir1003 : IR := .op (.call 28) [.v 2] (.op .not [.v 4] (.ite (.v 5) (.op (.call 1016) [] (.ret [.v 6])) (.op (.call 1015) [.v 0, .v 1, .v 2] (.op .not [.v 6] (.ite (.v 7) (.op (.call 1016) [] (.ret [.v 8])) (.op .len [.v 3] (.op (.icmp .gtr) [.v 8, .l (.int .i64 4000)] (.ite (.v 9) (.op (.call 1016) [] (.ret [.v 10])) (.op (.call 1017) [.v 0, .v 1, .v 2] (.op (.call 1018) [.v 3] (.op (.icmp .eql) [.v 11, .l (.int .i64 0)] (.ite (.v 16) (.op (.icmp .neq) [.v 15, .l (.int .i64 0)] (.ite (.v 17) (.op (.call 1016) [] (.ret [.v 18])) (.op (.icmp .neq) [.v 12, .v 0] (.ite (.v 18) (.op (.call 1016) [] (.ret [.v 19])) (.op (.icmp .neq) [.v 13, .v 1] (.ite (.v 19) (.op (.call 1016) [] (.ret [.v 20])) (.op (.call 50) [.v 14, .v 2] (.op .not [.v 20] (.ite (.v 21) (.op (.call 1016) [] (.ret [.v 22])) (.op (.call 21) [.v 10, .v 3] (.ite (.v 22) (.op (.call 1016) [] (.ret [.v 23])) (.ret [.l (.bool false)])))))))))))) (.ret [.l (.bool false)])))))))))))))
noncomputable def F1032 : List D → Option (List D) := Fof [] ir1032
noncomputable def c1032 : Ct := ⟨sig1032, F1032⟩
noncomputable def F1017 : List D → Option (List D) := Fof [c1032, c75, c66, c1035, c1005] ir1017
noncomputable def c1017 : Ct := ⟨sig1017, F1017⟩
noncomputable def F1037 : List D → Option (List D) := Fof [c1008, c1009] ir1037
noncomputable def c1037 : Ct := ⟨sig1037, F1037⟩
noncomputable def F1018 : List D → Option (List D) := Fof [c1036, c129, c1037, c1017, c67] ir1018
noncomputable def c1018 : Ct := ⟨sig1018, F1018⟩
noncomputable def F1016 : List D → Option (List D) := Fof [c1017, c1018] ir1016
noncomputable def c1016 : Ct := ⟨sig1016, F1016⟩
noncomputable def F1015 : List D → Option (List D) := Fof [c77] ir1015
noncomputable def c1015 : Ct := ⟨sig1015, F1015⟩
noncomputable def F1003 : List D → Option (List D) := Fof [c28, c1016, c1015, c1017, c1018, c50, c21] ir1003
noncomputable def c1003 : Ct := ⟨sig1003, F1003⟩
end Go.Proofs.Ytolcekkcenedjaa.Sx

set_option maxHeartbeats 8000000
namespace Go.Proofs.Ytolcekkcenedjaa.Sx
attribute [local simp] mkp_tbl d_np_tbl o_pod_tbl mk_mark mk_it

theorem any_loop {R : Type} {e : Ty} (p : List e.den) (q : e.den → Bool) (a b : R) (st : Int → Option (LS Int R))
    (h : ∀ j : Int, 0 ≤ j → j < p.length → st j = some (if q (p[j.toNat]?.getD (dflt e)) = true then .out a else .again (j + 1))) (h' : st p.length = some (.out b)) :
    iter st 0 = some (if p.any q = true then a else b) := by
  refine (iter_meas (fun s : Int => (p.length - s).toNat) (fun s => if (p.drop s.toNat).any q = true then a else b) (fun s => 0 ≤ s ∧ s ≤ p.length) (by exact ⟨by omega, by omega⟩) ?_).trans (by simp)
  rintro j ⟨j1, j2⟩
  by_cases hj : j < p.length
  · rw [dropI j1 hj, h j j1 hj, getG j1 hj, List.any_cons]
    cases hc : q (p[j.toNat]'(by omega))
    · exact .inl ⟨j + 1, by simp, ⟨by omega, by omega⟩, by omega, by simp⟩
    · exact .inr (by simp)
  · have e : j = p.length := by omega
    subst e
    rw [h', List.drop_eq_nil_of_le (by omega)]
    exact .inr (by simp)

def cntS (n : Int) : Bool := decide (1 ≤ n ∧ n ≤ 2147483647)
def deadI (l : List It) : Bool := l.any fun x => x.2.1
def maySn (i t : Int) (l : List It) : Bool := cntS i && cntS t && decide (l.length ≤ 16384) && srt none l && !deadI l
def snapPut (i t : Int) (l : List It) : List Int := putF (5, putL [i, t, (l.length : Int)]) ++ (if l.length = 0 then [] else tabPut (parted 512 l))
def resPt (i t : Int) (l : List It) : List D := if maySn i t l = true then [⟨.sl (.int .u8), snapPut i t l⟩, ⟨.int .i64, 0⟩] else [⟨.sl (.int .u8), []⟩, ⟨.int .i64, 1⟩]
def snapItems (b : List Int) : Option (List It) := if b.length = 0 then some [] else (openT b).map List.flatten
def resIt (o : Option (List It)) : List D := match o with
  | some l => [⟨.sl ItT, l⟩, ⟨.int .i64, 0⟩]
  | none => [⟨.sl ItT, []⟩, ⟨.int .i64, 2⟩]
def snapIf (b : List Int) (u v : Int) : Option (List It) → Option (Int × Int × List It)
  | none => none
  | some l => if maySn u v l = true ∧ snapPut u v l = b then some (u, v, l) else none
def snapGet (b : List Int) : Option (Int × Int × List It) := match firstF b with
  | none => none
  | some (k, y, n) => if k = 5 then (match allL 3 y with
    | some [u, v, w] => if u ≤ 2147483647 ∧ v ≤ 2147483647 then snapIf b u v (snapItems (b.drop n)) else none
    | _ => none) else none
def resSn (o : Option (Int × Int × List It)) : List D := match o with
  | some (u, v, l) => [⟨.int .i64, u⟩, ⟨.int .i64, v⟩, ⟨.sl ItT, l⟩, ⟨.int .i64, 0⟩]
  | none => [⟨.int .i64, 0⟩, ⟨.int .i64, 0⟩, ⟨.sl ItT, []⟩, ⟨.int .i64, 2⟩]

theorem f1032 (n : Int) : F1032 [⟨.int .i64, n⟩] = some [⟨.bool, cntS n⟩] := by
  simp only [F1032, Fof, ir1032]
  unfold cntS
  by_cases c1 : 1 ≤ n <;> by_cases c2 : n ≤ 2147483647 <;> simp -implicitDefEqProofs [c1, c2]
theorem s1032 {lc : List Ct} (hl0 : look (lc.map fun c => (c.sig.id, c)) 1032 = some c1032) : ∀ (n : Int), Does1 (Phi lc) 1032 [⟨.int .i64, n⟩] [⟨.bool, cntS n⟩] :=
  fun n => by
    have eFc : c1032.F = F1032 := rfl
    have eFh := f1032 n
    rw [← eFc] at eFh
    exact Does1.of hl0 eFh rfl
theorem cntS_r {n : Int} (h : cntS n = true) : 1 ≤ n ∧ n ≤ 2147483647 := by simpa [cntS] using h
theorem mk_u3 (a b c : Int) : mkD (.int .u64) 3 [⟨.int .u64, a⟩, ⟨.int .u64, b⟩, ⟨.int .u64, c⟩] = some ⟨.sl (.int .u64), [a, b, c]⟩ := rfl
theorem snap_body {i t : Int} {n : Nat} (hi : cntS i = true) (ht : cntS t = true) (hn : n ≤ 16384) : (∀ u ∈ [i, t, (n : Int)], 0 ≤ u ∧ u < 18446744073709551616) ∧ (putL [i, t, (n : Int)]).length ≤ 30 ∧ ∀ c ∈ putL [i, t, (n : Int)], 0 ≤ c ∧ c < 256 := by
  have h1 := cntS_r hi; have h2 := cntS_r ht
  have h3 : ∀ u ∈ [i, t, (n : Int)], 0 ≤ u ∧ u < 18446744073709551616 := by
    intro u hu
    simp only [List.mem_cons, List.not_mem_nil, or_false] at hu
    rcases hu with rfl | rfl | rfl <;> omega
  refine ⟨h3, putL_len _ h3, ?_⟩
  intro c hc
  simp only [putL, List.mem_flatten, List.mem_map] at hc
  obtain ⟨x, ⟨u, _, rfl⟩, hc⟩ := hc
  have := one_byte _ c hc; omega
theorem f1017 (i t : Int) (l : List It) (hl : l.length ≤ 10000) (hm : sumsOk l) (hb : bytesOk l) : F1017 [⟨.int .i64, i⟩, ⟨.int .i64, t⟩, ⟨.sl ItT, l⟩] = some (resPt i t l) := by
  have h1032 := s1032 (lc := [c1032, c75, c66, c1035, c1005]) rfl
  have h75 := s75 (lc := [c1032, c75, c66, c1035, c1005]) rfl
  have h66 := s66 (lc := [c1032, c75, c66, c1035, c1005]) rfl
  have h1035 := s1035 (lc := [c1032, c75, c66, c1035, c1005]) rfl
  have h1005 := s1005 (lc := [c1032, c75, c66, c1035, c1005]) rfl
  simp only [F1017, Fof, ir1017]
  generalize Phi [c1032, c75, c66, c1035, c1005] = Φ at *
  have k1 := h1032 i
  have k2 := h1032 t
  have k3 := h75 l (by omega)
  have c3 : ¬ 16384 < (l.length : Int) := by omega
  unfold resPt maySn
  cases hi : cntS i <;> rw [hi] at k1
  · simp -implicitDefEqProofs [k1]
  cases ht : cntS t <;> rw [ht] at k2
  · simp -implicitDefEqProofs [k1, k2]
  cases hs : srt none l <;> rw [hs] at k3
  · simp -implicitDefEqProofs [k1, k2, k3, c3]
  obtain ⟨s1, s2, s3⟩ := snap_body (n := l.length) hi ht (by omega)
  have r1 := cntS_r hi; have r2 := cntS_r ht
  have w1 : IntKind.u64.wrap i = i := wu64 _ (by omega) (by omega)
  have w2 : IntKind.u64.wrap t = t := wu64 _ (by omega) (by omega)
  have w3 : IntKind.u64.wrap (l.length : Int) = l.length := wu64 _ (by omega) (by omega)
  have k4 := h66 _ s1 (by simp)
  have k5 : Does1 Φ 1035 [⟨.sl FrT, [(5, putL [i, t, (l.length : Int)])]⟩] [⟨.sl (.int .u8), putF (5, putL [i, t, (l.length : Int)])⟩, ⟨.int .i64, 0⟩] := by
    have hok : okF (5, putL [i, t, (l.length : Int)]) = true := by
      unfold okF
      exact decide_eq_true ⟨by show (1 : Int) ≤ 5; omega, by show (5 : Int) ≤ 250; omega, by show (putL [i, t, (l.length : Int)]).length ≤ 1048576; omega⟩
    have := h1035 [(5, putL [i, t, (l.length : Int)])] (by simp) (by intro f hf; simp only [List.mem_singleton] at hf; subst hf; show (putL [i, t, (l.length : Int)]).length < _; omega) (by intro f hf; simp only [List.mem_singleton] at hf; subst hf; exact s3)
    rw [resFr_one _ (by intro f hf; simp only [List.mem_singleton] at hf; subst hf; exact hok)] at this
    simp only [putFs, List.append_nil] at this
    exact this
  have hmk : mkD FrT 1 [⟨.int .i64, 5⟩, ⟨.sl (.int .u8), putL [i, t, (l.length : Int)]⟩] = some ⟨.sl FrT, [(5, putL [i, t, (l.length : Int)])]⟩ := rfl
  have hmu := mk_u3 i t (l.length : Int)
  have hle : decide (l.length ≤ 16384) = true := decide_eq_true (by omega)
  have hpl : (putF (5, putL [i, t, (l.length : Int)])).length ≤ 100 := by
    have : (putF (5, putL [i, t, (l.length : Int)])).length ≤ (putL [i, t, (l.length : Int)]).length + 10 := putF_le (by show (putL [i, t, (l.length : Int)]).length < _; omega)
    omega
  have k6 := h1005 l 512 hl hm hb
  have htl : 1 ≤ l.length → (tabPut (parted 512 l)).length ≤ 10000000 := by
    intro h1
    have hi := made_is (size := 512) hs hm hb h1 hl
    have h2 := tab_len hi.good hi.len hi.items
    have h3 := hi.len
    have h4 := hi.items
    omega
  have hsn : snapPut i t l = putF (5, putL [i, t, (l.length : Int)]) ++ (if l.length = 0 then [] else tabPut (parted 512 l)) := rfl
  rw [hle, hsn]
  unfold resMk mayMake at k6
  rw [hs] at k6
  have hd1 : decide (1 ≤ (512 : Int) ∧ (512 : Int) ≤ 65536) = true := by decide
  rw [hd1] at k6
  generalize putF (5, putL [i, t, (l.length : Int)]) = pf at *
  generalize putL [i, t, (l.length : Int)] = pb at *
  generalize tabPut (parted 512 l) = tb at *
  simp -implicitDefEqProofs [k1, k2, k3, c3]
  refine (any_loop (e := ItT) l (fun x : It => x.2.1) [⟨.sl (.int .u8), []⟩, ⟨.int .i64, 1⟩] [⟨.sl (.int .u8), pf ++ (if l.length = 0 then [] else tb)⟩, ⟨.int .i64, 0⟩] _ ?_ ?_).trans ?_
  · intro j j0 j1
    have b1 : 0 ≤ j ∧ j < (l.length : Int) := ⟨j0, j1⟩
    have g1 := getG (l := l) (d := dflt ItT) j0 j1
    have wj : IntKind.i64.wrap (j + 1) = j + 1 := wi64 _ (by omega) (by omega)
    rw [g1]
    generalize hcx : l[j.toNat]'(by omega) = x at *
    obtain ⟨a1, a2, a3⟩ := x
    cases a2
    · simp -implicitDefEqProofs [b1, j1, g1, hcx, wj]
    · simp -implicitDefEqProofs [b1, j1, j0, g1, hcx]
  · by_cases hz : l.length = 0
    · have hz' : (l.length : Int) = 0 := by omega
      rw [hz'] at w3 k4 hmu
      simp -implicitDefEqProofs [w1, w2, w3, hmu, k4, hmk, k5, hz]
    · have hz' : ¬ (l.length : Int) = 0 := by omega
      have hd2 : decide (1 ≤ l.length ∧ l.length ≤ 16384) = true := decide_eq_true (by omega)
      rw [hd2] at k6
      simp only [Bool.and_self, if_true] at k6
      have hB : pf.length + tb.length ≤ BIG := by have := htl (by omega); simp only [BIG]; omega
      simp -implicitDefEqProofs [w1, w2, w3, hmu, k4, hmk, k5, hz, hz', k6, hB]
  · unfold deadI
    cases l.any (fun x : It => x.2.1) <;> simp
theorem s1017 {lc : List Ct} (hl0 : look (lc.map fun c => (c.sig.id, c)) 1017 = some c1017) : ∀ (i t : Int) (l : List It) (hl : l.length ≤ 10000) (hm : sumsOk l) (hb : bytesOk l), Does1 (Phi lc) 1017 [⟨.int .i64, i⟩, ⟨.int .i64, t⟩, ⟨.sl ItT, l⟩] (resPt i t l) :=
  fun i t l hl hm hb => by
    have eFc : c1017.F = F1017 := rfl
    have eFh := f1017 i t l hl hm hb
    rw [← eFc] at eFh
    exact Does1.of hl0 eFh (by unfold resPt; split <;> rfl)
theorem f1037 (b : List Int) (hb : ∀ c ∈ b, 0 ≤ c ∧ c < 256) (hl : b.length ≤ 60000) : F1037 [⟨.sl (.int .u8), b⟩] = some (resIt (snapItems b)) := by
  have h1008 := s1008 (lc := [c1008, c1009]) rfl
  have h1009 := s1009 (lc := [c1008, c1009]) rfl
  simp only [F1037, Fof, ir1037]
  generalize Phi [c1008, c1009] = Φ at *
  unfold snapItems
  by_cases hz : b.length = 0
  · have hz' : (b.length : Int) = 0 := by omega
    simp -implicitDefEqProofs [hz, hz', resIt]
  have hz' : ¬ (b.length : Int) = 0 := by omega
  have k1 := h1008 b hb hl
  rw [if_neg hz]
  cases ho : openT b with
  | none =>
    rw [ho] at k1
    simp only [resO] at k1
    simp -implicitDefEqProofs [hz, hz', k1, resIt]
  | some ps =>
    rw [ho] at k1
    simp only [resO] at k1
    obtain ⟨o1, o2, o3, o4, o5, o6⟩ := openT_inv hb ho
    have hgood : goodP ps := by
      have ho' := ho
      unfold openT at ho'
      split at ho'
      · cases ho'
      rename_i qs hq
      split at ho'
      · simp only [Option.some.injEq] at ho'; subst ho'
        have key : ∀ (l : List Fr) (ps : List (List It)), (∀ f ∈ l, ∀ c ∈ f.2, 0 ≤ c ∧ c < 256) → partsB l = some ps → goodP ps := by
          intro l
          induction l with
          | nil => intro ps _ h; simp only [partsB, Option.some.injEq] at h; subst h; intro p hp; cases hp
          | cons f l ih =>
            intro ps hf h
            rw [partsB] at h
            split at h
            · split at h
              · cases h
              rename_i p hp
              split at h
              · cases h
              rename_i qs hq
              simp only [Option.some.injEq] at h; subst h
              have hg := blkGet_good (hf f (by simp)) hp
              intro q hq2
              rcases List.mem_cons.1 hq2 with rfl | hq2
              · exact ⟨hg.2.1, hg.2.2.1, hg.2.2.2.1, hg.2.2.2.2.1, hg.2.2.2.2.2⟩
              · exact ih qs (fun g hg => hf g (by simp [hg])) hq q hq2
            · simp only [Option.some.injEq] at h; subst h; intro p hp; cases hp
        exact key _ _ (fun f hf => (scan_bytes hb f hf).1) hq
      · cases ho'
    have hle : ps.length ≤ 10000 := by
      have hge : ps.length ≤ (scanF b).length := by
        have ho' := ho
        unfold openT at ho'
        split at ho'
        · cases ho'
        rename_i qs hq
        split at ho'
        · simp only [Option.some.injEq] at ho'; subst ho'
          obtain ⟨⟨m, e, _⟩, _⟩ := partsB_inv _ _ (fun f hf => (scan_bytes hb f hf).1) hq
          rw [e]; simp only [List.length_append, frBs, List.length_map]; omega
        · cases ho'
      have := (scan_len hb).1
      omega
    have hg : TabGood (some (tblOf ps)) := .inr ⟨ps, rfl, ⟨hgood, o2, o5, hle, o4⟩⟩
    have k2 := h1009 _ hg
    rw [items_tbl hgood] at k2
    simp only [Option.map_some, resIt]
    generalize ps.flatten = fl at *
    simp -implicitDefEqProofs [hz, hz', k1, k2]
theorem s1037 {lc : List Ct} (hl0 : look (lc.map fun c => (c.sig.id, c)) 1037 = some c1037) : ∀ (b : List Int) (hb : ∀ c ∈ b, 0 ≤ c ∧ c < 256) (hl : b.length ≤ 60000), Does1 (Phi lc) 1037 [⟨.sl (.int .u8), b⟩] (resIt (snapItems b)) :=
  fun b hb hl => by
    have eFc : c1037.F = F1037 := rfl
    have eFh := f1037 b hb hl
    rw [← eFc] at eFh
    exact Does1.of hl0 eFh (by unfold resIt; split <;> rfl)
end Go.Proofs.Ytolcekkcenedjaa.Sx

set_option maxHeartbeats 8000000
namespace Go.Proofs.Ytolcekkcenedjaa.Sx
attribute [local simp] mkp_tbl d_np_tbl o_pod_tbl mk_mark mk_it

theorem openT_good {b : List Int} (hb : ∀ c ∈ b, 0 ≤ c ∧ c < 256) (hl : b.length ≤ 60000) {ps : List (List It)} (h : openT b = some ps) : TabIs ps ∧ ps.flatten.length ≤ b.length ∧ tabPut ps = b := by
  obtain ⟨o1, o2, o3, o4, o5, o6⟩ := openT_inv hb h
  have ho' := h
  unfold openT at ho'
  split at ho'
  · cases ho'
  rename_i qs hq
  split at ho'
  rotate_left
  · cases ho'
  simp only [Option.some.injEq] at ho'; subst ho'
  have key : ∀ (l : List Fr) (ps : List (List It)), (∀ f ∈ l, ∀ c ∈ f.2, 0 ≤ c ∧ c < 256) → partsB l = some ps → goodP ps ∧ ps.flatten.length ≤ (putFs l).length := by
    intro l
    induction l with
    | nil => intro ps _ h; simp only [partsB, Option.some.injEq] at h; subst h; exact ⟨(by intro p hp; cases hp), by simp⟩
    | cons f l ih =>
      intro ps hf h
      rw [partsB] at h
      split at h
      · split at h
        · cases h
        rename_i p hp
        split at h
        · cases h
        rename_i qs hq
        simp only [Option.some.injEq] at h; subst h
        have hg := blkGet_good (hf f (by simp)) hp
        have hi := ih qs (fun g hg => hf g (by simp [hg])) hq
        refine ⟨?_, ?_⟩
        · intro q hq2
          rcases List.mem_cons.1 hq2 with rfl | hq2
          · exact ⟨hg.2.1, hg.2.2.1, hg.2.2.2.1, hg.2.2.2.2.1, hg.2.2.2.2.2⟩
          · exact hi.1 q hq2
        · have h1 := blk_ge p
          rw [← hg.1] at h1
          have h2 := putF_len f
          have h3 := hi.2
          simp only [List.flatten_cons, List.length_append, putFs]
          omega
      · simp only [Option.some.injEq] at h; subst h; exact ⟨(by intro p hp; cases hp), by simp⟩
  obtain ⟨g1, g2⟩ := key _ _ (fun f hf => (scan_bytes hb f hf).1) hq
  have hsl := scan_len hb
  have hle : qs.length ≤ 10000 := by
    obtain ⟨⟨m, e, _⟩, _⟩ := partsB_inv _ _ (fun f hf => (scan_bytes hb f hf).1) hq
    have : qs.length ≤ (scanF b).length := by rw [e]; simp only [List.length_append, frBs, List.length_map]; omega
    omega
  exact ⟨⟨g1, o2, o5, hle, o4⟩, by omega, o1⟩
theorem snapItems_good {b : List Int} (hb : ∀ c ∈ b, 0 ≤ c ∧ c < 256) (hl : b.length ≤ 60000) {l : List It} (h : snapItems b = some l) : sumsOk l ∧ bytesOk l ∧ l.length ≤ b.length := by
  unfold snapItems at h
  split at h
  · simp only [Option.some.injEq] at h; subst h
    exact ⟨(by intro x hx; cases hx), (by intro x hx; cases hx), by simp⟩
  · cases ho : openT b with
    | none => rw [ho] at h; cases h
    | some ps =>
      rw [ho] at h
      simp only [Option.map_some, Option.some.injEq] at h; subst h
      obtain ⟨i1, i2, i3⟩ := openT_good hb hl ho
      have := goodP_flat i1.good
      exact ⟨this.2.1, this.1, i2⟩

theorem f1018 (b : List Int) (hb : ∀ c ∈ b, 0 ≤ c ∧ c < 256) (hl : b.length ≤ 9000) : F1018 [⟨.sl (.int .u8), b⟩] = some (resSn (snapGet b)) := by
  have h1036 := s1036 (lc := [c1036, c129, c1037, c1017, c67]) rfl
  have h129 := s129 (lc := [c1036, c129, c1037, c1017, c67]) rfl
  have h1037 := s1037 (lc := [c1036, c129, c1037, c1017, c67]) rfl
  have h1017 := s1017 (lc := [c1036, c129, c1037, c1017, c67]) rfl
  have h67 := s67 (lc := [c1036, c129, c1037, c1017, c67]) rfl
  simp only [F1018, Fof, ir1018]
  generalize Phi [c1036, c129, c1037, c1017, c67] = Φ at *
  have k1 := h1036 b hb (by omega)
  unfold snapGet
  cases hf : firstF b with
  | none =>
    rw [hf] at k1
    simp only [resF1] at k1
    have he := errF_pos b
    have he' : ¬ errF b = 0 := by omega
    simp -implicitDefEqProofs [k1, he', resSn]
  | some x =>
  obtain ⟨k, y, n⟩ := x
  rw [hf] at k1
  simp only [resF1] at k1
  obtain ⟨i1, i2, i3, i4⟩ := firstF_inv hb hf
  by_cases hk : k = 5
  rotate_left
  · simp only [if_neg hk]
    simp -implicitDefEqProofs [k1, hk, resSn]
  subst hk
  simp only [if_true]
  have hyb : ∀ c ∈ y, 0 ≤ c ∧ c < 256 := fun c hc => hb c (by rw [i1]; exact List.mem_append_left _ (by simp [putF, hc]))
  have hyl : y.length ≤ b.length := by
    have := putF_len (5, y)
    simp only at this; omega
  have k2 := h129 y 3 hyb (by omega) (by omega) (by omega)
  rw [show (3 : Int).toNat = 3 from rfl] at k2
  generalize (allA 3 y : Int) = aa at *
  cases ha : allL 3 y with
  | none =>
    rw [ha] at k2
    simp only [resA] at k2
    simp -implicitDefEqProofs [k1, k2, resSn]
  | some u3 =>
  rw [ha] at k2
  simp only [resA, List.nil_append] at k2
  obtain ⟨u, v, w, rfl⟩ := three (allL_len 3 _ _ ha)
  have hrg := allL_range 3 _ _ hyb ha
  have hu := hrg u (by simp)
  have hv := hrg v (by simp)
  simp only
  by_cases hc1 : 2147483647 < u
  · rw [if_neg (by omega)]
    simp -implicitDefEqProofs [k1, k2, hc1, resSn]
  by_cases hc2 : 2147483647 < v
  · rw [if_neg (by omega)]
    simp -implicitDefEqProofs [k1, k2, hc1, hc2, resSn]
  rw [if_pos (by omega)]
  have hbd : ∀ c ∈ b.drop n, 0 ≤ c ∧ c < 256 := fun c hc => hb c (List.mem_of_mem_drop hc)
  have hdl : (b.drop n).length ≤ 9000 := by rw [List.length_drop]; omega
  have k3 := h1037 (b.drop n) hbd (by omega)
  have hin : (n : Int) ≤ b.length := by omega
  have wu : IntKind.i64.wrap u = u := wi64 _ (by omega) (by omega)
  have wv : IntKind.i64.wrap v = v := wi64 _ (by omega) (by omega)
  cases hit : snapItems (b.drop n) with
  | none =>
    rw [hit] at k3
    simp only [resIt] at k3
    simp -implicitDefEqProofs [k1, k2, hc1, hc2, i4, k3, snapIf, resSn]
  | some l =>
    rw [hit] at k3
    simp only [resIt] at k3
    obtain ⟨l1, l2, l3⟩ := snapItems_good hbd (by omega) hit
    have k4 := h1017 u v l (by omega) l1 l2
    unfold resPt at k4
    simp only [snapIf]
    cases hms : maySn u v l
    · rw [if_neg (by simp [hms])] at k4
      simp -implicitDefEqProofs [k1, k2, hc1, hc2, i4, k3, wu, wv, k4, resSn]
    · rw [if_pos hms] at k4
      have k5 := h67 (snapPut u v l) b
      by_cases hp : snapPut u v l = b
      · rw [decide_eq_true hp] at k5
        rw [if_pos ⟨rfl, hp⟩]
        generalize snapPut u v l = sp at *
        simp -implicitDefEqProofs [k1, k2, hc1, hc2, i4, k3, wu, wv, k4, k5, resSn]
      · rw [decide_eq_false hp] at k5
        rw [if_neg (fun h => hp h.2)]
        generalize snapPut u v l = sp at *
        simp -implicitDefEqProofs [k1, k2, hc1, hc2, i4, k3, wu, wv, k4, k5, resSn]
theorem s1018 {lc : List Ct} (hl0 : look (lc.map fun c => (c.sig.id, c)) 1018 = some c1018) : ∀ (b : List Int) (hb : ∀ c ∈ b, 0 ≤ c ∧ c < 256) (hl : b.length ≤ 9000), Does1 (Phi lc) 1018 [⟨.sl (.int .u8), b⟩] (resSn (snapGet b)) :=
  fun b hb hl => by
    have eFc : c1018.F = F1018 := rfl
    have eFh := f1018 b hb hl
    rw [← eFc] at eFh
    exact Does1.of hl0 eFh (by unfold resSn; split <;> rfl)

theorem putL730 : putL [7, 3, 0] = [7, 3, 0] := by simp [putL, one_small]
theorem get730 : allL 3 [7, 3, 0] = some [7, 3, 0] := by
  have h := all3 7 3 0 [] (by omega) (by omega) (by omega)
  rw [List.append_nil, putL730] at h
  exact h.1
theorem mayAwake : maySn 7 3 [] = true := by decide
theorem f1016  : F1016 [] = some [⟨.bool, true⟩] := by
  have h1017 := s1017 (lc := [c1017, c1018]) rfl
  have h1018 := s1018 (lc := [c1017, c1018]) rfl
  simp only [F1016, Fof, ir1016]
  generalize Phi [c1017, c1018] = Φ at *
  have k1 := h1017 7 3 [] (by simp) (by intro x hx; cases hx) (by intro x hx; cases hx)
  unfold resPt at k1
  rw [if_pos mayAwake] at k1
  have e : snapPut 7 3 [] = putF (5, [7, 3, 0]) := by
    unfold snapPut
    rw [if_pos (by rfl), List.append_nil]
    have : putL [7, 3, ((([] : List It).length : Nat) : Int)] = [7, 3, 0] := putL730
    rw [this]
  have hok : okF (5, [7, 3, 0]) = true := by decide
  have hb : ∀ c ∈ putF (5, [7, 3, 0]), 0 ≤ c ∧ c < 256 := putF_byte hok (by intro c hc; simp only [List.mem_cons, List.not_mem_nil, or_false] at hc; omega)
  have hlen : (putF (5, [7, 3, 0])).length = 9 := by rw [putF_len, one_small (by simp)]; rfl
  have k2 := h1018 (putF (5, [7, 3, 0])) hb (by omega)
  have hg : snapGet (putF (5, [7, 3, 0])) = some (7, 3, []) := by
    have hf := firstF_put hok []
    rw [List.append_nil] at hf
    unfold snapGet
    rw [hf]
    simp only [if_true, get730]
    rw [if_pos (by omega)]
    have : snapItems ((putF (5, [7, 3, 0])).drop (putF (5, [7, 3, 0])).length) = some [] := by
      rw [List.drop_length]; rfl
    rw [this]
    simp only [snapIf]
    rw [if_pos ⟨mayAwake, e⟩]
  rw [hg] at k2
  simp only [resSn] at k2
  rw [e] at k1
  have hlen' : ((putF (5, [7, 3, 0])).length : Int) = 9 := by omega
  generalize putF (5, [7, 3, 0]) = bb at *
  simp -implicitDefEqProofs [k1, k2, hlen, hlen']
theorem s1016 {lc : List Ct} (hl0 : look (lc.map fun c => (c.sig.id, c)) 1016 = some c1016) : ∀ _u : Unit, Does1 (Phi lc) 1016 [] [⟨.bool, true⟩] :=
  fun _ => Does1.of hl0 f1016 rfl
theorem f1015 (i t : Int) (l : List It) (hl : l.length < 1000000) (hb : ∀ x ∈ l, x.2.2.2.1.length < 1000000000) : F1015 [⟨.int .i64, i⟩, ⟨.int .i64, t⟩, ⟨.sl ItT, l⟩] = some [⟨.bool, maySn i t l⟩] := by
  have h77 := s77 (lc := [c77]) rfl
  simp only [F1015, Fof, ir1015]
  generalize Phi [c77] = Φ at *
  have k1 := h77 l hl hb
  simp -implicitDefEqProofs
  refine (any_loop (e := ItT) l (fun x : It => x.2.1) [⟨.bool, false⟩] [⟨.bool, cntS i && cntS t && decide (l.length ≤ 16384) && srt none l⟩] _ ?_ ?_).trans ?_
  · intro j j0 j1
    have b1 : 0 ≤ j ∧ j < (l.length : Int) := ⟨j0, j1⟩
    have g1 := getG (l := l) (d := dflt ItT) j0 j1
    have wj : IntKind.i64.wrap (j + 1) = j + 1 := wi64 _ (by omega) (by omega)
    rw [g1]
    generalize hcx : l[j.toNat]'(by omega) = x at *
    obtain ⟨a1, a2, a3⟩ := x
    cases a2
    · simp -implicitDefEqProofs [b1, j1, g1, hcx, wj]
    · simp -implicitDefEqProofs [b1, j1, j0, g1, hcx]
  · unfold cntS
    by_cases c1 : 1 ≤ i <;> by_cases c2 : i ≤ 2147483647 <;> by_cases c3 : 1 ≤ t <;> by_cases c4 : t ≤ 2147483647 <;> by_cases c5 : (l.length : Int) ≤ 16384 <;>
      (have c5' := c5; first | (have c6 : l.length ≤ 16384 := by omega) | (have c6 : ¬ l.length ≤ 16384 := by omega)) <;> simp -implicitDefEqProofs [c1, c2, c3, c4, c5, c6, k1]
  · unfold maySn deadI
    cases l.any (fun x : It => x.2.1) <;> simp
theorem s1015 {lc : List Ct} (hl0 : look (lc.map fun c => (c.sig.id, c)) 1015 = some c1015) : ∀ (i t : Int) (l : List It) (hl : l.length < 1000000) (hb : ∀ x ∈ l, x.2.2.2.1.length < 1000000000), Does1 (Phi lc) 1015 [⟨.int .i64, i⟩, ⟨.int .i64, t⟩, ⟨.sl ItT, l⟩] [⟨.bool, maySn i t l⟩] :=
  fun i t l hl hb => by
    have eFc : c1015.F = F1015 := rfl
    have eFh := f1015 i t l hl hb
    rw [← eFc] at eFh
    exact Does1.of hl0 eFh rfl
theorem f1003 (i t : Int) (l : List It) (other : List Int) (hm : sumsOk l) (hb : bytesOk l) (ho : ∀ c ∈ other, 0 ≤ c ∧ c < 256) : F1003 [⟨.int .i64, i⟩, ⟨.int .i64, t⟩, ⟨.sl ItT, l⟩, ⟨.sl (.int .u8), other⟩] = some [⟨.bool, true⟩] := by
  have h28 := s28 (lc := [c28, c1016, c1015, c1017, c1018, c50, c21]) rfl
  have h1016 := s1016 (lc := [c28, c1016, c1015, c1017, c1018, c50, c21]) rfl
  have h1015 := s1015 (lc := [c28, c1016, c1015, c1017, c1018, c50, c21]) rfl
  have h1017 := s1017 (lc := [c28, c1016, c1015, c1017, c1018, c50, c21]) rfl
  have h1018 := s1018 (lc := [c28, c1016, c1015, c1017, c1018, c50, c21]) rfl
  have h50 := s50 (lc := [c28, c1016, c1015, c1017, c1018, c50, c21]) rfl
  have h21 := s21 (lc := [c28, c1016, c1015, c1017, c1018, c50, c21]) rfl
  simp only [F1003, Fof, ir1003]
  generalize Phi [c28, c1016, c1015, c1017, c1018, c50, c21] = Φ at *
  have kA := h1016 ()
  have k28 := h28 l
  cases hL : lightL l <;> rw [hL] at k28
  · simp -implicitDefEqProofs [k28, kA]
  obtain ⟨h100, hx⟩ := light_len hL
  have k1 := h1015 i t l (by omega) (fun x hxl => by have := hx x hxl; omega)
  cases hms : maySn i t l <;> rw [hms] at k1
  · simp -implicitDefEqProofs [k28, k1, kA]
  by_cases c1 : 4000 < (other.length : Int)
  · simp -implicitDefEqProofs [k28, k1, c1, kA]
  have k2 := h1017 i t l (by omega) hm hb
  unfold resPt at k2
  rw [if_pos hms] at k2
  have k3 := h1018 other ho (by omega)
  cases hg : snapGet other with
  | none =>
    rw [hg] at k3
    simp only [resSn] at k3
    simp -implicitDefEqProofs [k28, k1, c1, k2, k3, kA]
  | some x =>
    obtain ⟨u, v, l2⟩ := x
    rw [hg] at k3
    simp only [resSn] at k3
    by_cases e1 : u = i
    rotate_left
    · simp -implicitDefEqProofs [k28, k1, c1, k2, k3, e1, kA]
    by_cases e2 : v = t
    rotate_left
    · simp -implicitDefEqProofs [k28, k1, c1, k2, k3, e1, e2, kA]
    subst e1; subst e2
    have hput : snapPut u v l2 = other ∧ sumsOk l2 ∧ bytesOk l2 ∧ l2.length ≤ 9000 := by
      unfold snapGet at hg
      split at hg
      · cases hg
      rename_i k y n hf
      split at hg
      rotate_left
      · cases hg
      split at hg
      rotate_left
      · cases hg
      split at hg
      rotate_left
      · cases hg
      cases hit : snapItems (other.drop n) with
      | none => rw [hit] at hg; cases hg
      | some l3 =>
        rw [hit] at hg
        simp only [snapIf] at hg
        split at hg
        · rename_i hc
          simp only [Option.some.injEq, Prod.mk.injEq] at hg
          obtain ⟨rfl, rfl, rfl⟩ := hg
          obtain ⟨q1, q2, q3⟩ := snapItems_good (b := other.drop n) (fun c hc => ho c (List.mem_of_mem_drop hc)) (by rw [List.length_drop]; omega) hit
          rw [List.length_drop] at q3
          exact ⟨hc.2, q1, q2, by omega⟩
        · cases hg
    have hx2 : ∀ x ∈ l2, x.2.2.2.1.length < 1000000000 := by
      unfold snapGet at hg
      split at hg
      · cases hg
      rename_i k y n hf
      split at hg
      rotate_left
      · cases hg
      split at hg
      rotate_left
      · cases hg
      split at hg
      rotate_left
      · cases hg
      cases hit : snapItems (other.drop n) with
      | none => rw [hit] at hg; cases hg
      | some l3 =>
        rw [hit] at hg
        simp only [snapIf] at hg
        split at hg
        · rename_i hc
          simp only [Option.some.injEq, Prod.mk.injEq] at hg
          obtain ⟨rfl, rfl, rfl⟩ := hg
          have hs : srt none l3 = true := by
            have := hc.1
            simp only [maySn, Bool.and_eq_true] at this
            exact this.1.2
          intro x hxl
          have := srt_len hs x hxl
          omega
        · cases hg
    have k50 := h50 l2 l (by omega) hx2
    by_cases e3 : l2 = l
    · subst e3
      rw [decide_eq_true rfl] at k50
      have k21 := h21 (snapPut u v l2) other (by rw [hput.1]; omega)
      rw [decide_eq_true hput.1] at k21
      generalize snapPut u v l2 = sp at *
      simp -implicitDefEqProofs [k28, k1, c1, k2, k3, k50, k21, kA]
    · rw [decide_eq_false e3] at k50
      simp -implicitDefEqProofs [k28, k1, c1, k2, k3, k50, kA]
theorem s1003 {lc : List Ct} (hl0 : look (lc.map fun c => (c.sig.id, c)) 1003 = some c1003) : ∀ (i t : Int) (l : List It) (other : List Int) (hm : sumsOk l) (hb : bytesOk l) (ho : ∀ c ∈ other, 0 ≤ c ∧ c < 256), Does1 (Phi lc) 1003 [⟨.int .i64, i⟩, ⟨.int .i64, t⟩, ⟨.sl ItT, l⟩, ⟨.sl (.int .u8), other⟩] [⟨.bool, true⟩] :=
  fun i t l other hm hb ho => by
    have eFc : c1003.F = F1003 := rfl
    have eFh := f1003 i t l other hm hb ho
    rw [← eFc] at eFh
    exact Does1.of hl0 eFh rfl
end Go.Proofs.Ytolcekkcenedjaa.Sx
