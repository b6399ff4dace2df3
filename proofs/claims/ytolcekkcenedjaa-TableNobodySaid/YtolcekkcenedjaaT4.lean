/-
  The laws, of the functions' texts, within the bounds that each statement names.
-/
import Derived.Test.YtolcekkcenedjaaT3
set_option linter.unusedVariables false
set_option linter.unusedSimpArgs false
namespace Go.Proofs.Ytolcekkcenedjaa.Sx
def sig1004 : Sig := { id := 1004, ins := [], outs := [(false, [(Ty.bool, none)])] }
def ir1004 : IR := .op (.mk ItT 1) [.l (.str [Int.ofNat 97]), .l (.bool true), .l (.bool false), .l (.nil (Ty.int .u8)), .l (.int .i64 0), .l (.int .i64 0), .l (.int .i64 0), .l (.int .u32 0)] (.op (.call 1005) [.v 0, .l (.int .i64 100)] (.op (.call 1019) [.v 1] (.op (.call 1008) [.v 1] (.op (.icmp .eql) [.v 2, .l (.int .i64 0)] (.ite (.v 8) (.op .len [.v 3] (.op (.icmp .eql) [.v 9, .l (.int .i64 4)] (.ite (.v 10) (.op .len [.v 1] (.op (.icmp .eql) [.v 5, .v 11] (.ite (.v 12) (.op (.icmp .eql) [.v 7, .l (.int .i64 0)] (.ite (.v 13) (.op (.isp true) [.v 6] (.ite (.v 14) (.op (.call 1010) [.v 6] (.op (.icmp .eql) [.v 15, .l (.int .i64 1)] (.ret [.v 16]))) (.ret [.l (.bool false)]))) (.ret [.l (.bool false)]))) (.ret [.l (.bool false)])))) (.ret [.l (.bool false)])))) (.ret [.l (.bool false)]))))))
def sig1000 : Sig := { id := 1000, ins := [(false, ItT.sl), (false, Ty.int .i64)], outs := [(false, [(Ty.bool, none)])] }
def ir1000 : IR := .op (.call 28) [.v 0] (.op .not [.v 2] (.ite (.v 3) (.op (.call 1004) [] (.ret [.v 4])) (.op (.call 1005) [.v 0, .v 1] (.op .len [.v 0] (.op (.icmp .eql) [.v 6, .l (.int .i64 0)] (.ite (.v 7) (.op (.icmp .eql) [.v 5, .l (.int .i64 1)] (.ite (.v 8) (.op .len [.v 4] (.op (.icmp .eql) [.v 9, .l (.int .i64 0)] (.ite (.v 10) (.op (.call 1004) [] (.ret [.v 11])) (.ret [.l (.bool false)])))) (.ret [.l (.bool false)]))) (.op (.icmp .lss) [.v 1, .l (.int .i64 1)] (.ite (.v 8) (.op (.icmp .eql) [.v 5, .l (.int .i64 1)] (.ite (.v 9) (.op .len [.v 4] (.op (.icmp .eql) [.v 10, .l (.int .i64 0)] (.ite (.v 11) (.op (.call 1004) [] (.ret [.v 12])) (.ret [.l (.bool false)])))) (.ret [.l (.bool false)]))) (.op (.icmp .gtr) [.v 1, .l (.int .i64 65536)] (.ite (.v 9) (.op (.icmp .eql) [.v 5, .l (.int .i64 1)] (.ite (.v 10) (.op .len [.v 4] (.op (.icmp .eql) [.v 11, .l (.int .i64 0)] (.ite (.v 12) (.op (.call 1004) [] (.ret [.v 13])) (.ret [.l (.bool false)])))) (.ret [.l (.bool false)]))) (.op (.call 77) [.v 0] (.op .not [.v 10] (.ite (.v 11) (.op (.icmp .eql) [.v 5, .l (.int .i64 1)] (.ite (.v 12) (.op .len [.v 4] (.op (.icmp .eql) [.v 13, .l (.int .i64 0)] (.ite (.v 14) (.op (.call 1004) [] (.ret [.v 15])) (.ret [.l (.bool false)])))) (.ret [.l (.bool false)]))) (.op (.icmp .eql) [.v 5, .l (.int .i64 0)] (.ite (.v 12) (.op (.call 1007) [.v 0, .v 1] (.op (.call 1006) [.v 13] (.op (.call 21) [.v 4, .v 14] (.ite (.v 15) (.op (.call 1004) [] (.ret [.v 16])) (.ret [.l (.bool false)]))))) (.ret [.l (.bool false)]))))))))))))))))
def sig1001 : Sig := { id := 1001, ins := [(false, ItT.sl), (false, Ty.int .u16), (false, Ty.int .u16)], outs := [(false, [(Ty.bool, none)])] }
def ir1001 : IR := .op (.call 28) [.v 0] (.op .not [.v 3] (.ite (.v 4) (.op (.call 1004) [] (.ret [.v 5])) (.op .len [.v 0] (.op (.icmp .eql) [.v 5, .l (.int .i64 0)] (.ite (.v 6) (.op (.call 1004) [] (.ret [.v 7])) (.op (.call 77) [.v 0] (.op .not [.v 7] (.ite (.v 8) (.op (.call 1004) [] (.ret [.v 9])) (.op (.conv .i64) [.v 1] (.op (.ibin .add .i64) [.l (.int .i64 1), .v 9] (.op (.call 1005) [.v 0, .v 10] (.op (.conv .i64) [.v 2] (.op (.ibin .add .i64) [.l (.int .i64 1), .v 13] (.op (.call 1005) [.v 0, .v 14] (.op (.call 1008) [.v 11] (.op (.call 1008) [.v 15] (.op (.icmp .neq) [.v 12, .l (.int .i64 0)] (.ite (.v 21) (.ret [.l (.bool false)]) (.op (.icmp .neq) [.v 16, .l (.int .i64 0)] (.ite (.v 22) (.ret [.l (.bool false)]) (.op (.icmp .neq) [.v 18, .l (.int .i64 0)] (.ite (.v 23) (.ret [.l (.bool false)]) (.op (.icmp .neq) [.v 20, .l (.int .i64 0)] (.ite (.v 24) (.ret [.l (.bool false)]) (.op (.isp false) [.v 17] (.ite (.v 25) (.ret [.l (.bool false)]) (.op (.isp false) [.v 19] (.ite (.v 26) (.ret [.l (.bool false)]) (.op (.call 1009) [.v 17] (.op (.call 1009) [.v 19] (.op (.call 50) [.v 27, .v 28] (.ite (.v 29) (.op (.call 1010) [.v 17] (.op (.call 1010) [.v 19] (.op (.icmp .eql) [.v 30, .v 31] (.ite (.v 32) (.op (.call 1004) [] (.ret [.v 33])) (.ret [.l (.bool false)]))))) (.ret [.l (.bool false)])))))))))))))))))))))))))))))))))
def sig1002 : Sig := { id := 1002, ins := [(false, Ty.str)], outs := [(false, [(Ty.bool, none)])] }
def ir1002 : IR := .loop [.l (.int .i64 0)] [Ty.int .i64] (.op (.icmp .lss) [.v 1, .l (.int .i64 2)] (.ite (.v 2) (.op (.icmp .eql) [.v 1, .l (.int .i64 1)] (.ite (.v 3) (.op (.mkp TblT) [.l (.nil MkT), .l (.nil (Ty.int .u8)), .l (.int .i64 0), .l (.str []), .l (.bool false)] (.op (.call 1011) [.v 4, .v 0] (.op (.call 1012) [.v 4] (.ite (.v 13) (.ret [.l (.bool false)]) (.op (.call 1013) [.v 4, .v 0] (.ite (.v 16) (.ret [.l (.bool false)]) (.op (.call 1014) [.v 4, .l (.str []), .l (.str []), .l (.int .i64 9)] (.op .len [.v 17] (.op (.icmp .neq) [.v 18, .l (.int .i64 0)] (.ite (.v 19) (.ret [.l (.bool false)]) (.op (.call 1009) [.v 4] (.op .len [.v 20] (.op (.icmp .neq) [.v 21, .l (.int .i64 0)] (.ite (.v 22) (.ret [.l (.bool false)]) (.op (.call 1010) [.v 4] (.op (.icmp .neq) [.v 23, .l (.int .i64 0)] (.ite (.v 24) (.ret [.l (.bool false)]) (.op (.scmp .neq) [.v 14, .l (.str [])] (.ite (.v 25) (.ret [.l (.bool false)]) (.op (.scmp .neq) [.v 15, .l (.str [])] (.ite (.v 26) (.ret [.l (.bool false)]) (.op (.ibin .add .i64) [.v 1, .l (.int .i64 1)] (.jump 0 [.v 27]))))))))))))))))))))))) (.op (.call 1011) [.l (L.np TblT), .v 0] (.op (.call 1012) [.l (L.np TblT)] (.ite (.v 12) (.ret [.l (.bool false)]) (.op (.call 1013) [.l (L.np TblT), .v 0] (.ite (.v 15) (.ret [.l (.bool false)]) (.op (.call 1014) [.l (L.np TblT), .l (.str []), .l (.str []), .l (.int .i64 9)] (.op .len [.v 16] (.op (.icmp .neq) [.v 17, .l (.int .i64 0)] (.ite (.v 18) (.ret [.l (.bool false)]) (.op (.call 1009) [.l (L.np TblT)] (.op .len [.v 19] (.op (.icmp .neq) [.v 20, .l (.int .i64 0)] (.ite (.v 21) (.ret [.l (.bool false)]) (.op (.call 1010) [.l (L.np TblT)] (.op (.icmp .neq) [.v 22, .l (.int .i64 0)] (.ite (.v 23) (.ret [.l (.bool false)]) (.op (.scmp .neq) [.v 13, .l (.str [])] (.ite (.v 24) (.ret [.l (.bool false)]) (.op (.scmp .neq) [.v 14, .l (.str [])] (.ite (.v 25) (.ret [.l (.bool false)]) (.op (.ibin .add .i64) [.v 1, .l (.int .i64 1)] (.jump 0 [.v 26])))))))))))))))))))))))) (.op (.call 1004) [] (.ret [.v 3]))))
noncomputable def F1004 : List D → Option (List D) := Fof [c1005, c1019, c1008, c1010] ir1004
noncomputable def c1004 : Ct := ⟨sig1004, F1004⟩
noncomputable def F1000 : List D → Option (List D) := Fof [c28, c1004, c1005, c77, c1007, c1006, c21] ir1000
noncomputable def c1000 : Ct := ⟨sig1000, F1000⟩
noncomputable def F1001 : List D → Option (List D) := Fof [c28, c1004, c77, c1005, c1008, c1009, c50, c1010] ir1001
noncomputable def c1001 : Ct := ⟨sig1001, F1001⟩
noncomputable def F1002 : List D → Option (List D) := Fof [c1011, c1012, c1013, c1014, c1009, c1010, c1004] ir1002
noncomputable def c1002 : Ct := ⟨sig1002, F1002⟩
end Go.Proofs.Ytolcekkcenedjaa.Sx

set_option maxHeartbeats 8000000
namespace Go.Proofs.Ytolcekkcenedjaa.Sx
attribute [local simp] mkp_tbl d_np_tbl o_pod_tbl mk_mark mk_it

theorem frBs_len2 : ∀ (ps : List (List It)), goodP ps → (putFs (frBs ps)).length ≤ 200 * ps.flatten.length + 20 * ps.length
  | [], _ => by simp [frBs, putFs]
  | p :: ps, h => by
    have h1 := blk_len (h p (by simp)).2.1 (h p (by simp)).2.2.1
    have h0 := (h p (by simp)).2.1
    have h2 : (putF (frB p)).length ≤ (blkPut p).length + 10 := putF_le (f := frB p) (by show (blkPut p).length < _; omega)
    have h4 := frBs_len2 ps (fun q hq => h q (by simp [hq]))
    simp only [frBs, List.map_cons, putFs, List.length_append, List.length_cons, List.flatten_cons] at h4 ⊢
    omega
theorem tab_len {ps : List (List It)} (h : goodP ps) (hl : ps.length ≤ 10000) (hn : ps.flatten.length ≤ 16384) : (tabPut ps).length ≤ 202 * ps.flatten.length + 94 * ps.length + 60 := by
  have h1 := frBs_len2 ps h
  have hix := idx_len ps 0 (goodP_fr h) (by omega)
  have hfr := tab_fr (ps := ps) (goodP_fr h) hl (by omega)
  have hft : ∀ f ∈ tailF ps ps.flatten, okF f = true := fun f hf => hfr f (List.mem_append_right _ hf)
  have f1 := hft (2, idxG 0 ps) (by simp [tailF])
  have f2 := hft (3, sieveOf (keysOf ps.flatten)) (by simp [tailF])
  have f3 := hft (4, one ps.flatten.length) (by simp [tailF])
  simp only [okF, decide_eq_true_eq] at f1 f2 f3
  have l1 : (putF (2, idxG 0 ps)).length ≤ (idxG 0 ps).length + 10 := putF_le (by show (idxG 0 ps).length < _; omega)
  have l2 : (putF (3, sieveOf (keysOf ps.flatten))).length ≤ (sieveOf (keysOf ps.flatten)).length + 10 := putF_le (by show (sieveOf (keysOf ps.flatten)).length < _; omega)
  have l3 : (putF (4, one ps.flatten.length)).length ≤ (one ps.flatten.length).length + 10 := putF_le (by show (one ps.flatten.length).length < _; omega)
  have l4 := one_len5 (n := ps.flatten.length) (by omega)
  have l5 := sieve_len (keysOf ps.flatten)
  have l6 : (keysOf ps.flatten).length = ps.flatten.length := by simp only [keysOf, List.length_map]
  rw [l6] at l5
  rw [tab_split, List.length_append]
  simp only [tailF, putFs, List.length_append, List.length_nil] at l1 l2 l3 ⊢
  unfold sieveN at l5
  omega
theorem idx_bytes' {ps : List (List It)} (h : goodP ps) (hl : ps.length ≤ 10000) (hn : ps.flatten.length ≤ 16384) : ∀ c ∈ tabPut ps, 0 ≤ c ∧ c < 256 := by
  have hfr := tab_fr (ps := ps) (goodP_fr h) hl (by omega)
  refine putFs_byte (fun f hf => ⟨hfr f hf, ?_⟩)
  rcases List.mem_append.1 hf with hf | hf
  · obtain ⟨p, hp, rfl⟩ := List.mem_map.1 hf
    exact blk_bytes (h p hp).2.2.2.2
  · exact tail_bytes h f hf
theorem made_is {l : List It} {size : Int} (hs : srt none l = true) (hm : sumsOk l) (hb : bytesOk l) (h1 : 1 ≤ l.length) (h2 : l.length ≤ 10000) : TabIs (parted size l) where
  good := parted_good hs hm hb
  srt := by rw [parted_flat]; exact hs
  ne := parted_ne (by intro e; rw [e] at h1; simp at h1)
  len := by have := parted_count size l; omega
  items := by rw [parted_flat]; omega
theorem made_open {ps : List (List It)} (h : TabIs ps) : openT (tabPut ps) = some ps :=
  openT_put (fun p hp => ⟨(h.good p hp).1, (h.good p hp).2.1, (h.good p hp).2.2.2.1⟩) h.srt h.ne h.len h.items
theorem made_len {l : List It} {size : Int} (hs : srt none l = true) (hm : sumsOk l) (hb : bytesOk l) (h2 : l.length ≤ 100) : (tabPut (parted size l)).length ≤ 30000 := by
  have hpc := parted_count size l
  have := tab_len (parted_good (size := size) hs hm hb) (by omega) (by rw [parted_flat]; omega)
  rw [parted_flat] at this
  omega
theorem made_bytes {l : List It} {size : Int} (hs : srt none l = true) (hm : sumsOk l) (hb : bytesOk l) (h2 : l.length ≤ 10000) : ∀ c ∈ tabPut (parted size l), 0 ≤ c ∧ c < 256 :=
  idx_bytes' (parted_good hs hm hb) (by have := parted_count size l; omega) (by rw [parted_flat]; omega)

abbrev itA : It := ([97], true, false, [], 0, 0, 0, 0)
theorem srtA : srt none [itA] = true := by decide
theorem partA : parted 100 [itA] = [[itA]] := by decide
theorem sumsA : sumsOk [itA] := by intro x hx; simp only [List.mem_singleton] at hx; subst hx; exact ⟨by decide, by decide⟩
theorem bytesA : bytesOk [itA] := by
  intro x hx; simp only [List.mem_singleton] at hx; subst hx
  exact ⟨by intro c hc; simp only [List.mem_singleton] at hc; subst hc; exact ⟨by decide, by decide⟩, by intro c hc; cases hc⟩
theorem f1004  : F1004 [] = some [⟨.bool, true⟩] := by
  have h1005 := s1005 (lc := [c1005, c1019, c1008, c1010]) rfl
  have h1019 := s1019 (lc := [c1005, c1019, c1008, c1010]) rfl
  have h1008 := s1008 (lc := [c1005, c1019, c1008, c1010]) rfl
  have h1010 := s1010 (lc := [c1005, c1019, c1008, c1010]) rfl
  simp only [F1004, Fof, ir1004]
  generalize Phi [c1005, c1019, c1008, c1010] = Φ at *
  have k1 := h1005 [itA] 100 (by simp) sumsA bytesA
  have hmk : mayMake [itA] 100 = true := by decide
  unfold resMk at k1
  rw [if_pos hmk] at k1
  have hb := made_bytes (size := 100) srtA sumsA bytesA (by simp)
  have hl := made_len (size := 100) srtA sumsA bytesA (by simp)
  have hi := made_is (size := 100) srtA sumsA bytesA (by simp) (by simp)
  have ho := made_open hi
  have k2 := h1019 _ hb (by omega)
  have k3 := h1008 _ hb (by omega)
  rw [ho] at k3
  simp only [resO] at k3
  have k4 := h1010 (some (tblOf (parted 100 [itA])))
  have hsc : scanF (tabPut (parted 100 [itA])) = frBs (parted 100 [itA]) ++ tailF (parted 100 [itA]) (parted 100 [itA]).flatten := by
    have hfr := tab_fr (ps := parted 100 [itA]) (goodP_fr hi.good) hi.len (by have := hi.items; omega)
    have h3 := scanF_put (r := []) hfr firstF_nil
    rwa [List.append_nil] at h3
  have hln : lenT (some (tblOf (parted 100 [itA]))) = 1 := by
    show (((parted 100 [itA]).flatten.length : Nat) : Int) = 1
    rw [parted_flat]; rfl
  rw [hln] at k4
  have hend : (putFs (scanF (tabPut (parted 100 [itA])))).length = (tabPut (parted 100 [itA])).length := by rw [hsc]; rfl
  have hfour : (scanF (tabPut (parted 100 [itA]))).length = 4 := by rw [hsc, partA]; rfl
  simp only [resS, List.nil_append, Nat.zero_add] at k2
  have hne : (some (tblOf (parted 100 [itA]))).isNone = false := rfl
  generalize tabPut (parted 100 [itA]) = tb at *
  generalize scanF tb = sc at *
  generalize placesF 0 sc = pl at *
  generalize tblOf (parted 100 [itA]) = tt at *
  have hend' : ((putFs sc).length : Int) = tb.length := by omega
  have hfour' : (sc.length : Int) = 4 := by omega
  simp -implicitDefEqProofs [k1, k2, k3, k4, hend, hend', hfour, hfour']
theorem s1004 {lc : List Ct} (hl0 : look (lc.map fun c => (c.sig.id, c)) 1004 = some c1004) : ∀ _u : Unit, Does1 (Phi lc) 1004 [] [⟨.bool, true⟩] :=
  fun _ => Does1.of hl0 f1004 rfl
theorem light_len {l : List It} (h : lightL l = true) : l.length ≤ 100 ∧ ∀ x ∈ l, x.1.length ≤ 200 ∧ x.2.2.2.1.length ≤ 200 := by
  simp only [lightL, Bool.and_eq_true, decide_eq_true_eq, List.all_eq_true] at h
  exact h
theorem f1000 (l : List It) (size : Int) (hm : sumsOk l) (hb : bytesOk l) : F1000 [⟨.sl ItT, l⟩, ⟨.int .i64, size⟩] = some [⟨.bool, true⟩] := by
  have h28 := s28 (lc := [c28, c1004, c1005, c77, c1007, c1006, c21]) rfl
  have h1004 := s1004 (lc := [c28, c1004, c1005, c77, c1007, c1006, c21]) rfl
  have h1005 := s1005 (lc := [c28, c1004, c1005, c77, c1007, c1006, c21]) rfl
  have h77 := s77 (lc := [c28, c1004, c1005, c77, c1007, c1006, c21]) rfl
  have h1007 := s1007 (lc := [c28, c1004, c1005, c77, c1007, c1006, c21]) rfl
  have h1006 := s1006 (lc := [c28, c1004, c1005, c77, c1007, c1006, c21]) rfl
  have h21 := s21 (lc := [c28, c1004, c1005, c77, c1007, c1006, c21]) rfl
  simp only [F1000, Fof, ir1000]
  generalize Phi [c28, c1004, c1005, c77, c1007, c1006, c21] = Φ at *
  have kA := h1004
  have k28 := h28 l
  cases hL : lightL l <;> rw [hL] at k28
  · simp -implicitDefEqProofs [k28, kA ()]
  obtain ⟨h100, hx⟩ := light_len hL
  have k1 := h1005 l size (by omega) hm hb
  have k77 := h77 l (by omega) (fun x hxl => by have := hx x hxl; omega)
  have kA' := kA ()
  cases hmk : mayMake l size
  · unfold resMk at k1
    rw [if_neg (by simp [hmk])] at k1
    by_cases c1 : l.length = 0
    · have c1' : (l.length : Int) = 0 := by omega
      simp -implicitDefEqProofs [k28, k1, c1, c1', kA']
    have c1' : ¬ (l.length : Int) = 0 := by omega
    by_cases c2 : size < 1
    · simp -implicitDefEqProofs [k28, k1, c1, c1', c2, kA']
    by_cases c3 : 65536 < size
    · simp -implicitDefEqProofs [k28, k1, c1, c1', c2, c3, kA']
    have hs : srt none l = false := by
      cases hs : srt none l with
      | false => rfl
      | true =>
        have : mayMake l size = true := by
          simp only [mayMake, Bool.and_eq_true, decide_eq_true_eq]
          exact ⟨⟨by omega, by omega⟩, hs⟩
        rw [hmk] at this; cases this
    rw [hs] at k77
    simp -implicitDefEqProofs [k28, k1, c1, c1', c2, c3, k77, kA']
  · unfold resMk at k1
    rw [if_pos hmk] at k1
    simp only [mayMake, Bool.and_eq_true, decide_eq_true_eq] at hmk
    obtain ⟨⟨q1, q2⟩, q3⟩ := hmk
    rw [q3] at k77
    have k7 := h1007 l size (by omega) (fun x hxl => by have := hx x hxl; omega)
    have hi := made_is (size := size) q3 hm hb (by omega) (by omega)
    have k6 := h1006 (parted size l) hi.good hi.len hi.items
    have hl := made_len (size := size) q3 hm hb h100
    have k21 := h21 (tabPut (parted size l)) (tabPut (parted size l)) (by omega)
    rw [decide_eq_true rfl] at k21
    generalize parted size l = ps at *
    generalize tabPut ps = tb at *
    have c1 : ¬ l.length = 0 := by omega
    have c1' : ¬ (l.length : Int) = 0 := by omega
    have c2 : ¬ size < 1 := by omega
    have c3 : ¬ 65536 < size := by omega
    simp -implicitDefEqProofs [k28, k1, c1, c1', c2, c3, k77, k7, k6, k21, kA']
theorem s1000 {lc : List Ct} (hl0 : look (lc.map fun c => (c.sig.id, c)) 1000 = some c1000) : ∀ (l : List It) (size : Int) (hm : sumsOk l) (hb : bytesOk l), Does1 (Phi lc) 1000 [⟨.sl ItT, l⟩, ⟨.int .i64, size⟩] [⟨.bool, true⟩] :=
  fun l size hm hb => by
    have eFc : c1000.F = F1000 := rfl
    have eFh := f1000 l size hm hb
    rw [← eFc] at eFh
    exact Does1.of hl0 eFh rfl
theorem f1001 (l : List It) (x y : Int) (hx : 0 ≤ x ∧ x < 65536) (hy : 0 ≤ y ∧ y < 65536) (hm : sumsOk l) (hb : bytesOk l) : F1001 [⟨.sl ItT, l⟩, ⟨.int .u16, x⟩, ⟨.int .u16, y⟩] = some [⟨.bool, true⟩] := by
  have h28 := s28 (lc := [c28, c1004, c77, c1005, c1008, c1009, c50, c1010]) rfl
  have h1004 := s1004 (lc := [c28, c1004, c77, c1005, c1008, c1009, c50, c1010]) rfl
  have h77 := s77 (lc := [c28, c1004, c77, c1005, c1008, c1009, c50, c1010]) rfl
  have h1005 := s1005 (lc := [c28, c1004, c77, c1005, c1008, c1009, c50, c1010]) rfl
  have h1008 := s1008 (lc := [c28, c1004, c77, c1005, c1008, c1009, c50, c1010]) rfl
  have h1009 := s1009 (lc := [c28, c1004, c77, c1005, c1008, c1009, c50, c1010]) rfl
  have h50 := s50 (lc := [c28, c1004, c77, c1005, c1008, c1009, c50, c1010]) rfl
  have h1010 := s1010 (lc := [c28, c1004, c77, c1005, c1008, c1009, c50, c1010]) rfl
  simp only [F1001, Fof, ir1001]
  generalize Phi [c28, c1004, c77, c1005, c1008, c1009, c50, c1010] = Φ at *
  have kA' := h1004 ()
  have k28 := h28 l
  cases hL : lightL l <;> rw [hL] at k28
  · simp -implicitDefEqProofs [k28, kA']
  obtain ⟨h100, hxl⟩ := light_len hL
  have k77 := h77 l (by omega) (fun x hx => by have := hxl x hx; omega)
  by_cases c1 : l.length = 0
  · have c1' : (l.length : Int) = 0 := by omega
    simp -implicitDefEqProofs [k28, c1, c1', kA']
  have c1' : ¬ (l.length : Int) = 0 := by omega
  cases hs : srt none l <;> rw [hs] at k77
  · simp -implicitDefEqProofs [k28, c1, c1', k77, kA']
  have wx : IntKind.i64.wrap x = x := wi64 _ (by omega) (by omega)
  have wx1 : IntKind.i64.wrap (1 + x) = 1 + x := wi64 _ (by omega) (by omega)
  have wy : IntKind.i64.wrap y = y := wi64 _ (by omega) (by omega)
  have wy1 : IntKind.i64.wrap (1 + y) = 1 + y := wi64 _ (by omega) (by omega)
  have key : ∀ z : Int, 0 ≤ z ∧ z < 65536 → ∃ (b : List Int) (t : Tbl), Does1 Φ 1005 [⟨.sl ItT, l⟩, ⟨.int .i64, 1 + z⟩] [⟨.sl (.int .u8), b⟩, ⟨.int .i64, 0⟩] ∧ Does1 Φ 1008 [⟨.sl (.int .u8), b⟩] [⟨.pt TblT, some t⟩, ⟨.int .i64, 0⟩] ∧ Does1 Φ 1009 [⟨.pt TblT, some t⟩] [⟨.sl ItT, l⟩] ∧ Does1 Φ 1010 [⟨.pt TblT, some t⟩] [⟨.int .i64, l.length⟩] := by
    intro z hz
    have k1 := h1005 l (1 + z) (by omega) hm hb
    have hmk : mayMake l (1 + z) = true := by
      simp only [mayMake, Bool.and_eq_true, decide_eq_true_eq]
      exact ⟨⟨by omega, by omega⟩, hs⟩
    unfold resMk at k1
    rw [if_pos hmk] at k1
    have hi := made_is (size := 1 + z) hs hm hb (by omega) (by omega)
    have hbb := made_bytes (size := 1 + z) hs hm hb (by omega)
    have hl := made_len (size := 1 + z) hs hm hb h100
    have k3 := h1008 _ hbb (by omega)
    rw [made_open hi] at k3
    simp only [resO] at k3
    have hg : TabGood (some (tblOf (parted (1 + z) l))) := .inr ⟨_, rfl, hi⟩
    have k4 := h1009 _ hg
    rw [items_tbl hi.good, parted_flat] at k4
    have k5 := h1010 (some (tblOf (parted (1 + z) l)))
    have hln : lenT (some (tblOf (parted (1 + z) l))) = l.length := by
      show (((parted (1 + z) l).flatten.length : Nat) : Int) = l.length
      rw [parted_flat]
    rw [hln] at k5
    exact ⟨_, _, k1, k3, k4, k5⟩
  obtain ⟨b1, t1, p1, p2, p3, p4⟩ := key x hx
  obtain ⟨b2, t2, q1, q2, q3, q4⟩ := key y hy
  have k50 := h50 l l (by omega) (fun z hz => by have := hxl z hz; omega)
  rw [decide_eq_true rfl] at k50
  clear key
  simp -implicitDefEqProofs [k28, c1, c1', k77, wx, wx1, wy, wy1, p1, p2, p3, p4, q1, q2, q3, q4, k50, kA']
theorem s1001 {lc : List Ct} (hl0 : look (lc.map fun c => (c.sig.id, c)) 1001 = some c1001) : ∀ (l : List It) (x y : Int) (hx : 0 ≤ x ∧ x < 65536) (hy : 0 ≤ y ∧ y < 65536) (hm : sumsOk l) (hb : bytesOk l), Does1 (Phi lc) 1001 [⟨.sl ItT, l⟩, ⟨.int .u16, x⟩, ⟨.int .u16, y⟩] [⟨.bool, true⟩] :=
  fun l x y hx hy hm hb => by
    have eFc : c1001.F = F1001 := rfl
    have eFh := f1001 l x y hx hy hm hb
    rw [← eFc] at eFh
    exact Does1.of hl0 eFh rfl
theorem f1002 (key : List Int) (hkb : ∀ c ∈ key, 0 ≤ c ∧ c < 256) : F1002 [⟨.str, key⟩] = some [⟨.bool, true⟩] := by
  have h1011 := s1011 (lc := [c1011, c1012, c1013, c1014, c1009, c1010, c1004]) rfl
  have h1012 := s1012 (lc := [c1011, c1012, c1013, c1014, c1009, c1010, c1004]) rfl
  have h1013 := s1013 (lc := [c1011, c1012, c1013, c1014, c1009, c1010, c1004]) rfl
  have h1014 := s1014 (lc := [c1011, c1012, c1013, c1014, c1009, c1010, c1004]) rfl
  have h1009 := s1009 (lc := [c1011, c1012, c1013, c1014, c1009, c1010, c1004]) rfl
  have h1010 := s1010 (lc := [c1011, c1012, c1013, c1014, c1009, c1010, c1004]) rfl
  have h1004 := s1004 (lc := [c1011, c1012, c1013, c1014, c1009, c1010, c1004]) rfl
  simp only [F1002, Fof, ir1002]
  generalize Phi [c1011, c1012, c1013, c1014, c1009, c1010, c1004] = Φ at *
  have kA' := h1004 ()
  have zz : ∀ t : Option Tbl, deadT t = true → lenT t = 0 → Does1 Φ 1011 [⟨.pt TblT, t⟩, ⟨.str, key⟩] (resFd none) ∧ Does1 Φ 1012 [⟨.pt TblT, t⟩] [⟨.str, []⟩, ⟨.str, []⟩] ∧ Does1 Φ 1013 [⟨.pt TblT, t⟩, ⟨.str, key⟩] [⟨.bool, false⟩] ∧ Does1 Φ 1014 [⟨.pt TblT, t⟩, ⟨.str, []⟩, ⟨.str, []⟩, ⟨.int .i64, 9⟩] [⟨.sl ItT, []⟩] ∧ Does1 Φ 1009 [⟨.pt TblT, t⟩] [⟨.sl ItT, []⟩] ∧ Does1 Φ 1010 [⟨.pt TblT, t⟩] [⟨.int .i64, 0⟩] := by
    intro t hd hn
    have hi : itemsT t = [] := by
      unfold itemsT
      split
      · simp [deadT] at hd
      · rfl
    have he : endsT t = ([], []) := by
      unfold endsT
      split
      · simp [deadT] at hd
      · rfl
    have hmy : mayB t key = false := by
      unfold mayB
      split
      · simp [deadT] at hd
      · rfl
    have k1 := h1011 t key (.inl hd) (.inl hd) hkb
    have k2 := h1012 t (.inl hd)
    have k3 := h1013 t key (.inl hd) hkb
    have k4 := h1014 t [] [] 9 (.inl hd)
    have k5 := h1009 t (.inl hd)
    have k6 := h1010 t
    rw [hi] at k1 k4 k5
    rw [he] at k2
    rw [hmy] at k3
    rw [hn] at k6
    rw [scanR_nil] at k4
    exact ⟨k1, k2, k3, k4, k5, k6⟩
  obtain ⟨a1, a2, a3, a4, a5, a6⟩ := zz none rfl rfl
  obtain ⟨b1, b2, b3, b4, b5, b6⟩ := zz (some (([], [], 0, []), false)) rfl rfl
  clear zz
  simp only [resFd, itD, List.cons_append, List.nil_append] at a1 b1
  simp -implicitDefEqProofs
  rw [iter_again (s' := 1) (by simp -implicitDefEqProofs [a1, a2, a3, a4, a5, a6, show IntKind.i64.wrap 1 = 1 from by decide]), iter_again (s' := 2) (by simp -implicitDefEqProofs [b1, b2, b3, b4, b5, b6, show IntKind.i64.wrap 2 = 2 from by decide])]
  refine iter_out ?_
  simp -implicitDefEqProofs [kA']
theorem s1002 {lc : List Ct} (hl0 : look (lc.map fun c => (c.sig.id, c)) 1002 = some c1002) : ∀ (key : List Int) (hkb : ∀ c ∈ key, 0 ≤ c ∧ c < 256), Does1 (Phi lc) 1002 [⟨.str, key⟩] [⟨.bool, true⟩] :=
  fun key hkb => by
    have eFc : c1002.F = F1002 := rfl
    have eFh := f1002 key hkb
    rw [← eFc] at eFh
    exact Does1.of hl0 eFh rfl
theorem wf_u16 {x : Int} (h0 : Wf (.int .u16) x) : 0 ≤ x ∧ x < 65536 := by
  have h : IntKind.u16.min ≤ x ∧ x ≤ IntKind.u16.max := h0
  simp [IntKind.min, IntKind.max, IntKind.signed, IntKind.bits] at h; omega
end Go.Proofs.Ytolcekkcenedjaa.Sx
