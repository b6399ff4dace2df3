/-
  The laws, of the functions' texts, within the bounds that each statement names.
-/
import Derived.Test.YtolcekkcenedjaaGreatT3
set_option linter.unusedVariables false
set_option linter.unusedSimpArgs false
namespace Go.Proofs.YtolcekkcenedjaaGreat.Sx
def sig1004 : Sig := { id := 1004, ins := [], outs := [(false, [(Ty.bool, none)])] }
def ir1004 : IR := .op (.mk ItT 1) [.l (.str [Int.ofNat 97]), .l (.bool true), .l (.bool false), .l (.nil (Ty.int .u8)), .l (.int .i64 0), .l (.int .i64 0), .l (.int .i64 0), .l (.int .u32 0)] (.op (.call 1005) [.v 0, .l (.int .i64 100)] (.op (.call 1019) [.v 1] (.op (.call 1008) [.v 1] (.op (.icmp .eql) [.v 2, .l (.int .i64 0)] (.ite (.v 8) (.op .len [.v 3] (.op (.icmp .eql) [.v 9, .l (.int .i64 4)] (.ite (.v 10) (.op .len [.v 1] (.op (.icmp .eql) [.v 5, .v 11] (.ite (.v 12) (.op (.icmp .eql) [.v 7, .l (.int .i64 0)] (.ite (.v 13) (.op (.isp true) [.v 6] (.ite (.v 14) (.op (.call 1010) [.v 6] (.op (.icmp .eql) [.v 15, .l (.int .i64 1)] (.ret [.v 16]))) (.ret [.l (.bool false)]))) (.ret [.l (.bool false)]))) (.ret [.l (.bool false)])))) (.ret [.l (.bool false)])))) (.ret [.l (.bool false)]))))))
noncomputable def F1004 : List D → Option (List D) := Fof [c1005, c1019, c1008, c1010] ir1004
noncomputable def c1004 : Ct := ⟨sig1004, F1004⟩
end Go.Proofs.YtolcekkcenedjaaGreat.Sx

set_option maxHeartbeats 8000000
namespace Go.Proofs.YtolcekkcenedjaaGreat.Sx
attribute [local simp] mkp_tbl d_np_tbl o_pod_tbl mk_mark mk_it

theorem frBs_len2 : ∀ (ps : List (List It)), goodP ps → (putFs (frBs ps)).length ≤ 200 * ps.flatten.length + 20 * ps.length
  | [], _ => by simp [frBs, putFs]
  | p :: ps, h => by
    have h1 := blk_len (h p (by simp)).2.1 (h p (by simp)).2.2.1
    have h0 := (h p (by simp)).2.1
    have h2 : (putF (frB p)).length ≤ (blkPut p).length + 10 := putF_le (f := frB p) (by show (blkPut p).length < _; omega)
    have h4 := frBs_len2 ps (fun q hq => h q (by simp [hq]))
    simp only [frBs, List.map_cons, putFs, List.length_append, List.length_cons, List.flatten_cons] at h4 ⊢
    omega
theorem tab_len {ps : List (List It)} (h : goodP ps) (hl : ps.length ≤ 10000) (hn : ps.flatten.length ≤ 16384) : (tabPut ps).length ≤ 202 * ps.flatten.length + 94 * ps.length + 60 := by
  have h1 := frBs_len2 ps h
  have hix := idx_len ps 0 (goodP_fr h) (by omega)
  have hfr := tab_fr (ps := ps) (goodP_fr h) hl (by omega)
  have hft : ∀ f ∈ tailF ps ps.flatten, okF f = true := fun f hf => hfr f (List.mem_append_right _ hf)
  have f1 := hft (2, idxG 0 ps) (by simp [tailF])
  have f2 := hft (3, sieveOf (keysOf ps.flatten)) (by simp [tailF])
  have f3 := hft (4, one ps.flatten.length) (by simp [tailF])
  simp only [okF, decide_eq_true_eq] at f1 f2 f3
  have l1 : (putF (2, idxG 0 ps)).length ≤ (idxG 0 ps).length + 10 := putF_le (by show (idxG 0 ps).length < _; omega)
  have l2 : (putF (3, sieveOf (keysOf ps.flatten))).length ≤ (sieveOf (keysOf ps.flatten)).length + 10 := putF_le (by show (sieveOf (keysOf ps.flatten)).length < _; omega)
  have l3 : (putF (4, one ps.flatten.length)).length ≤ (one ps.flatten.length).length + 10 := putF_le (by show (one ps.flatten.length).length < _; omega)
  have l4 := one_len5 (n := ps.flatten.length) (by omega)
  have l5 := sieve_len (keysOf ps.flatten)
  have l6 : (keysOf ps.flatten).length = ps.flatten.length := by simp only [keysOf, List.length_map]
  rw [l6] at l5
  rw [tab_split, List.length_append]
  simp only [tailF, putFs, List.length_append, List.length_nil] at l1 l2 l3 ⊢
  unfold sieveN at l5
  omega
theorem idx_bytes' {ps : List (List It)} (h : goodP ps) (hl : ps.length ≤ 10000) (hn : ps.flatten.length ≤ 16384) : ∀ c ∈ tabPut ps, 0 ≤ c ∧ c < 256 := by
  have hfr := tab_fr (ps := ps) (goodP_fr h) hl (by omega)
  refine putFs_byte (fun f hf => ⟨hfr f hf, ?_⟩)
  rcases List.mem_append.1 hf with hf | hf
  · obtain ⟨p, hp, rfl⟩ := List.mem_map.1 hf
    exact blk_bytes (h p hp).2.2.2.2
  · exact tail_bytes h f hf
theorem made_is {l : List It} {size : Int} (hs : srt none l = true) (hm : sumsOk l) (hb : bytesOk l) (h1 : 1 ≤ l.length) (h2 : l.length ≤ 10000) : TabIs (parted size l) where
  good := parted_good hs hm hb
  srt := by rw [parted_flat]; exact hs
  ne := parted_ne (by intro e; rw [e] at h1; simp at h1)
  len := by have := parted_count size l; omega
  items := by rw [parted_flat]; omega
theorem made_open {ps : List (List It)} (h : TabIs ps) : openT (tabPut ps) = some ps :=
  openT_put (fun p hp => ⟨(h.good p hp).1, (h.good p hp).2.1, (h.good p hp).2.2.2.1⟩) h.srt h.ne h.len h.items
theorem made_len {l : List It} {size : Int} (hs : srt none l = true) (hm : sumsOk l) (hb : bytesOk l) (h2 : l.length ≤ 100) : (tabPut (parted size l)).length ≤ 30000 := by
  have hpc := parted_count size l
  have := tab_len (parted_good (size := size) hs hm hb) (by omega) (by rw [parted_flat]; omega)
  rw [parted_flat] at this
  omega
theorem made_bytes {l : List It} {size : Int} (hs : srt none l = true) (hm : sumsOk l) (hb : bytesOk l) (h2 : l.length ≤ 10000) : ∀ c ∈ tabPut (parted size l), 0 ≤ c ∧ c < 256 :=
  idx_bytes' (parted_good hs hm hb) (by have := parted_count size l; omega) (by rw [parted_flat]; omega)

abbrev itA : It := ([97], true, false, [], 0, 0, 0, 0)
theorem srtA : srt none [itA] = true := by decide
theorem partA : parted 100 [itA] = [[itA]] := by decide
theorem sumsA : sumsOk [itA] := by intro x hx; simp only [List.mem_singleton] at hx; subst hx; exact ⟨by decide, by decide⟩
theorem bytesA : bytesOk [itA] := by
  intro x hx; simp only [List.mem_singleton] at hx; subst hx
  exact ⟨by intro c hc; simp only [List.mem_singleton] at hc; subst hc; exact ⟨by decide, by decide⟩, by intro c hc; cases hc⟩
theorem f1004  : F1004 [] = some [⟨.bool, true⟩] := by
  have h1005 := s1005 (lc := [c1005, c1019, c1008, c1010]) rfl
  have h1019 := s1019 (lc := [c1005, c1019, c1008, c1010]) rfl
  have h1008 := s1008 (lc := [c1005, c1019, c1008, c1010]) rfl
  have h1010 := s1010 (lc := [c1005, c1019, c1008, c1010]) rfl
  simp only [F1004, Fof, ir1004]
  generalize Phi [c1005, c1019, c1008, c1010] = Φ at *
  have k1 := h1005 [itA] 100 (by simp) sumsA bytesA
  have hmk : mayMake [itA] 100 = true := by decide
  unfold resMk at k1
  rw [if_pos hmk] at k1
  have hb := made_bytes (size := 100) srtA sumsA bytesA (by simp)
  have hl := made_len (size := 100) srtA sumsA bytesA (by simp)
  have hi := made_is (size := 100) srtA sumsA bytesA (by simp) (by simp)
  have ho := made_open hi
  have k2 := h1019 _ hb (by omega)
  have k3 := h1008 _ hb (by omega)
  rw [ho] at k3
  simp only [resO] at k3
  have k4 := h1010 (some (tblOf (parted 100 [itA])))
  have hsc : scanF (tabPut (parted 100 [itA])) = frBs (parted 100 [itA]) ++ tailF (parted 100 [itA]) (parted 100 [itA]).flatten := by
    have hfr := tab_fr (ps := parted 100 [itA]) (goodP_fr hi.good) hi.len (by have := hi.items; omega)
    have h3 := scanF_put (r := []) hfr firstF_nil
    rwa [List.append_nil] at h3
  have hln : lenT (some (tblOf (parted 100 [itA]))) = 1 := by
    show (((parted 100 [itA]).flatten.length : Nat) : Int) = 1
    rw [parted_flat]; rfl
  rw [hln] at k4
  have hend : (putFs (scanF (tabPut (parted 100 [itA])))).length = (tabPut (parted 100 [itA])).length := by rw [hsc]; rfl
  have hfour : (scanF (tabPut (parted 100 [itA]))).length = 4 := by rw [hsc, partA]; rfl
  simp only [resS, List.nil_append, Nat.zero_add] at k2
  have hne : (some (tblOf (parted 100 [itA]))).isNone = false := rfl
  generalize tabPut (parted 100 [itA]) = tb at *
  generalize scanF tb = sc at *
  generalize placesF 0 sc = pl at *
  generalize tblOf (parted 100 [itA]) = tt at *
  have hend' : ((putFs sc).length : Int) = tb.length := by omega
  have hfour' : (sc.length : Int) = 4 := by omega
  simp -implicitDefEqProofs [k1, k2, k3, k4, hend, hend', hfour, hfour']
theorem s1004 {lc : List Ct} (hl0 : look (lc.map fun c => (c.sig.id, c)) 1004 = some c1004) : ∀ _u : Unit, Does1 (Phi lc) 1004 [] [⟨.bool, true⟩] :=
  fun _ => Does1.of hl0 f1004 rfl
theorem light_len {l : List It} (h : lightL l = true) : l.length ≤ 100 ∧ ∀ x ∈ l, x.1.length ≤ 200 ∧ x.2.2.2.1.length ≤ 200 := by
  simp only [lightL, Bool.and_eq_true, decide_eq_true_eq, List.all_eq_true] at h
  exact h
theorem wf_u16 {x : Int} (h0 : Wf (.int .u16) x) : 0 ≤ x ∧ x < 65536 := by
  have h : IntKind.u16.min ≤ x ∧ x ≤ IntKind.u16.max := h0
  simp [IntKind.min, IntKind.max, IntKind.signed, IntKind.bits] at h; omega
end Go.Proofs.YtolcekkcenedjaaGreat.Sx

namespace Go.Proofs.YtolcekkcenedjaaGreat.Sx
end Go.Proofs.YtolcekkcenedjaaGreat.Sx

set_option maxHeartbeats 8000000
namespace Go.Proofs.YtolcekkcenedjaaGreat.Sx
attribute [local simp] mkp_tbl d_np_tbl o_pod_tbl mk_mark mk_it

end Go.Proofs.YtolcekkcenedjaaGreat.Sx

set_option maxHeartbeats 8000000
namespace Go.Proofs.YtolcekkcenedjaaGreat.Sx
attribute [local simp] mkp_tbl d_np_tbl o_pod_tbl mk_mark mk_it

theorem enc_ge3 : ∀ (l : List It) (last : List Int), 3 * l.length ≤ (encL last l).length
  | [], _ => by simp
  | x :: l, last => by
    have h0 := one_pos (alike last x.1 : Int).toNat
    have h1 := one_pos ((x.1.length : Int) - alike last x.1).toNat
    have h2 := enc_ge3 l x.1
    have h3 : 1 ≤ (if x.2.1 = true then [(1 : Int)] else 0 :: putC x.2.2.1 x.2.2.2.1 x.2.2.2.2.1 x.2.2.2.2.2.1 x.2.2.2.2.2.2.1 x.2.2.2.2.2.2.2).length := by
      split <;> simp
    simp only [encL, encI, putL, List.map_cons, List.map_nil, List.flatten_cons, List.flatten_nil, List.length_append, List.length_cons, List.length_nil] at h0 h1 h2 h3 ⊢
    omega
theorem blk_ge3 (p : List It) : 3 * p.length ≤ (blkPut p).length := by
  have := enc_ge3 p []
  simp only [blkPut, List.length_append]; omega
theorem openT_good {b : List Int} (hb : ∀ c ∈ b, 0 ≤ c ∧ c < 256) (hl : b.length ≤ 60000) {ps : List (List It)} (h : openT b = some ps) : TabIs ps ∧ 3 * ps.flatten.length ≤ b.length ∧ tabPut ps = b := by
  obtain ⟨o1, o2, o3, o4, o5, o6⟩ := openT_inv hb h
  have ho' := h
  unfold openT at ho'
  split at ho'
  · cases ho'
  rename_i qs hq
  split at ho'
  rotate_left
  · cases ho'
  simp only [Option.some.injEq] at ho'; subst ho'
  have key : ∀ (l : List Fr) (ps : List (List It)), (∀ f ∈ l, ∀ c ∈ f.2, 0 ≤ c ∧ c < 256) → partsB l = some ps → goodP ps ∧ 3 * ps.flatten.length ≤ (putFs l).length := by
    intro l
    induction l with
    | nil => intro ps _ h; simp only [partsB, Option.some.injEq] at h; subst h; exact ⟨(by intro p hp; cases hp), by simp⟩
    | cons f l ih =>
      intro ps hf h
      rw [partsB] at h
      split at h
      · split at h
        · cases h
        rename_i p hp
        split at h
        · cases h
        rename_i qs hq
        simp only [Option.some.injEq] at h; subst h
        have hg := blkGet_good (hf f (by simp)) hp
        have hi := ih qs (fun g hg => hf g (by simp [hg])) hq
        refine ⟨?_, ?_⟩
        · intro q hq2
          rcases List.mem_cons.1 hq2 with rfl | hq2
          · exact ⟨hg.2.1, hg.2.2.1, hg.2.2.2.1, hg.2.2.2.2.1, hg.2.2.2.2.2⟩
          · exact hi.1 q hq2
        · have h1 := blk_ge3 p
          rw [← hg.1] at h1
          have h2 := putF_len f
          have h3 := hi.2
          simp only [List.flatten_cons, List.length_append, putFs]
          omega
      · simp only [Option.some.injEq] at h; subst h; exact ⟨(by intro p hp; cases hp), by simp⟩
  obtain ⟨g1, g2⟩ := key _ _ (fun f hf => (scan_bytes hb f hf).1) hq
  have hsl := scan_len hb
  have hle : qs.length ≤ 10000 := by
    obtain ⟨⟨m, e, _⟩, _⟩ := partsB_inv _ _ (fun f hf => (scan_bytes hb f hf).1) hq
    have : qs.length ≤ (scanF b).length := by rw [e]; simp only [List.length_append, frBs, List.length_map]; omega
    omega
  exact ⟨⟨g1, o2, o5, hle, o4⟩, by omega, o1⟩
end Go.Proofs.YtolcekkcenedjaaGreat.Sx

namespace Go.Proofs.YtolcekkcenedjaaGreat.Sx
def sig2004 : Sig := { id := 2004, ins := [(false, (Ty.int .u8).sl)], outs := [(false, [(ItT.sl, some 44)])] }
def ir2004 : IR := .op (.call 1019) [.v 0] (.op (.mk ItT.sl 0) [] (.loop [.v 4, .l (.int .i64 0)] [ItT.sl.sl, Ty.int .i64] (.op .len [.v 1] (.op (.icmp .lss) [.v 6, .v 7] (.ite (.v 8) (.op .inb [.v 1, .v 6] (.op (.idx ((Ty.int .i64).pair (Ty.int .u8).sl)) [.v 1, .v 6] (.op (.icmp .eql) [.v 9, .l (.int .i64 1)] (.ite (.v 11) (.op .inb [.v 1, .v 6] (.op (.idx ((Ty.int .i64).pair (Ty.int .u8).sl)) [.v 1, .v 6] (.op (.call 48) [.v 13] (.op .len [.v 14] (.op (.icmp .eql) [.v 15, .l (.int .i64 0)] (.ite (.v 16) (.ret [.l (.nil ItT)]) (.op (.mk ItT.sl 1) [.v 14] (.op .app [.v 5, .v 17] (.op (.ibin .add .i64) [.v 6, .l (.int .i64 1)] (.jump 0 [.v 18, .v 19])))))))))) (.op (.call 1022) [.v 5] (.op .len [.v 12] (.op (.icmp .lss) [.v 13, .l (.int .i64 1)] (.ite (.v 14) (.ret [.l (.nil ItT)]) (.op .len [.v 12] (.op (.icmp .gtr) [.v 15, .l (.int .i64 16384)] (.ite (.v 16) (.ret [.l (.nil ItT)]) (.op (.call 77) [.v 12] (.op .not [.v 17] (.ite (.v 18) (.ret [.l (.nil ItT)]) (.op (.call 1006) [.v 5] (.op (.call 21) [.v 19, .v 0] (.op .not [.v 20] (.ite (.v 21) (.ret [.l (.nil ItT)]) (.ret [.v 12]))))))))))))))))))) (.op (.call 1022) [.v 5] (.op .len [.v 9] (.op (.icmp .lss) [.v 10, .l (.int .i64 1)] (.ite (.v 11) (.ret [.l (.nil ItT)]) (.op .len [.v 9] (.op (.icmp .gtr) [.v 12, .l (.int .i64 16384)] (.ite (.v 13) (.ret [.l (.nil ItT)]) (.op (.call 77) [.v 9] (.op .not [.v 14] (.ite (.v 15) (.ret [.l (.nil ItT)]) (.op (.call 1006) [.v 5] (.op (.call 21) [.v 16, .v 0] (.op .not [.v 17] (.ite (.v 18) (.ret [.l (.nil ItT)]) (.ret [.v 9]))))))))))))))))))))
def sig2005 : Sig := { id := 2005, ins := [(false, TblT.pt), (false, ItT.sl)], outs := [(false, [(Ty.bool, none)])] }
def ir2005 : IR := .op (.call 1012) [.v 0] (.op (.call 1010) [.v 0] (.op .len [.v 1] (.op (.icmp .eql) [.v 4, .v 5] (.ite (.v 6) (.op (.call 1009) [.v 0] (.op (.call 50) [.v 7, .v 1] (.ite (.v 8) (.op .inb [.v 1, .l (.int .i64 0)] (.op (.idx ItT) [.v 1, .l (.int .i64 0)] (.op (.scmp .eql) [.v 2, .v 9] (.ite (.v 17) (.op .len [.v 1] (.op (.ibin .sub .i64) [.v 18, .l (.int .i64 1)] (.op .inb [.v 1, .v 19] (.op (.idx ItT) [.v 1, .v 19] (.op (.scmp .eql) [.v 3, .v 20] (.ret [.v 28])))))) (.ret [.l (.bool false)]))))) (.ret [.l (.bool false)])))) (.ret [.l (.bool false)])))))
def sig2006 : Sig := { id := 2006, ins := [(false, ItT.sl), (false, Ty.str), (false, Ty.str), (false, Ty.int .i64)], outs := [(false, [(ItT.sl, some 44)])] }
def ir2006 : IR := .op (.mk ItT 0) [] (.loop [.v 4, .l (.int .i64 0)] [ItT.sl, Ty.int .i64] (.op .len [.v 0] (.op (.icmp .lss) [.v 6, .v 7] (.ite (.v 8) (.op .len [.v 5] (.op (.icmp .lss) [.v 9, .v 3] (.ite (.v 10) (.op .inb [.v 0, .v 6] (.op (.idx ItT) [.v 0, .v 6] (.op (.scmp .geq) [.v 11, .v 1] (.ite (.v 19) (.op (.scmp .eql) [.v 2, .l (.str [])] (.ite (.v 20) (.op .inb [.v 0, .v 6] (.op (.idx ItT) [.v 0, .v 6] (.op (.mk ItT 1) [.v 21, .v 22, .v 23, .v 24, .v 25, .v 26, .v 27, .v 28] (.op .app [.v 5, .v 29] (.op (.ibin .add .i64) [.v 6, .l (.int .i64 1)] (.jump 0 [.v 30, .v 31])))))) (.op .inb [.v 0, .v 6] (.op (.idx ItT) [.v 0, .v 6] (.op (.scmp .lss) [.v 21, .v 2] (.ite (.v 29) (.op .inb [.v 0, .v 6] (.op (.idx ItT) [.v 0, .v 6] (.op (.mk ItT 1) [.v 30, .v 31, .v 32, .v 33, .v 34, .v 35, .v 36, .v 37] (.op .app [.v 5, .v 38] (.op (.ibin .add .i64) [.v 6, .l (.int .i64 1)] (.jump 0 [.v 39, .v 40])))))) (.op (.ibin .add .i64) [.v 6, .l (.int .i64 1)] (.jump 0 [.v 5, .v 30])))))))) (.op (.ibin .add .i64) [.v 6, .l (.int .i64 1)] (.jump 0 [.v 5, .v 20])))))) (.ret [.v 5])))) (.ret [.v 5])))))
def sig2000 : Sig := { id := 2000, ins := [(false, (Ty.int .u8).sl)], outs := [(false, [(Ty.bool, none)])] }
def ir2000 : IR := .op .len [.v 0] (.op (.icmp .gtr) [.v 1, .l (.int .i64 3000)] (.ite (.v 2) (.op (.call 1004) [] (.ret [.v 3])) (.op (.mk (Ty.int .u8) 0) [] (.op .app [.v 3, .v 0] (.op (.call 1008) [.v 4] (.op (.call 2004) [.v 0] (.op .len [.v 7] (.op (.icmp .eql) [.v 8, .l (.int .i64 0)] (.ite (.v 9) (.op (.icmp .eql) [.v 6, .l (.int .i64 2)] (.ite (.v 10) (.op (.isp false) [.v 5] (.ite (.v 11) (.op (.call 1004) [] (.ret [.v 12])) (.ret [.l (.bool false)]))) (.ret [.l (.bool false)]))) (.op (.icmp .eql) [.v 6, .l (.int .i64 0)] (.ite (.v 10) (.op (.isp true) [.v 5] (.ite (.v 11) (.op (.call 2005) [.v 5, .v 7] (.ite (.v 12) (.op (.call 1004) [] (.ret [.v 13])) (.ret [.l (.bool false)]))) (.ret [.l (.bool false)]))) (.ret [.l (.bool false)]))))))))))))
def sig2001 : Sig := { id := 2001, ins := [(false, ItT.sl), (false, Ty.int .u16), (true, Ty.str.pair (Ty.str.pair (Ty.int .i64)))], outs := [(false, [(Ty.bool, none)])] }
def ir2001 : IR := .op (.call 28) [.v 0] (.op .not [.v 5] (.ite (.v 6) (.op (.call 1004) [] (.ret [.v 7])) (.op .len [.v 0] (.op (.icmp .eql) [.v 7, .l (.int .i64 0)] (.ite (.v 8) (.op (.call 1004) [] (.ret [.v 9])) (.op (.call 77) [.v 0] (.op .not [.v 9] (.ite (.v 10) (.op (.call 1004) [] (.ret [.v 11])) (.op .len [.v 2] (.op (.icmp .gtr) [.v 11, .l (.int .i64 200)] (.ite (.v 12) (.op (.call 1004) [] (.ret [.v 13])) (.op .len [.v 3] (.op (.icmp .gtr) [.v 13, .l (.int .i64 200)] (.ite (.v 14) (.op (.call 1004) [] (.ret [.v 15])) (.op (.conv .i64) [.v 1] (.op (.ibin .add .i64) [.l (.int .i64 1), .v 15] (.op (.call 1005) [.v 0, .v 16] (.op (.call 1008) [.v 17] (.op (.icmp .neq) [.v 18, .l (.int .i64 0)] (.ite (.v 21) (.ret [.l (.bool false)]) (.op (.icmp .neq) [.v 20, .l (.int .i64 0)] (.ite (.v 22) (.ret [.l (.bool false)]) (.op (.isp false) [.v 19] (.ite (.v 23) (.ret [.l (.bool false)]) (.op (.call 2005) [.v 19, .v 0] (.op .not [.v 24] (.ite (.v 25) (.ret [.l (.bool false)]) (.loop [.l (.int .i64 0)] [Ty.int .i64] (.op .len [.v 0] (.op (.icmp .lss) [.v 26, .v 27] (.ite (.v 28) (.op .inb [.v 0, .v 26] (.op (.idx ItT) [.v 0, .v 26] (.op (.call 1011) [.v 19, .v 29] (.op .not [.v 45] (.ite (.v 46) (.ret [.l (.bool false)]) (.op .inb [.v 0, .v 26] (.op (.idx ItT) [.v 0, .v 26] (.op (.call 52) [.v 37, .v 38, .v 39, .v 40, .v 41, .v 42, .v 43, .v 44, .v 47, .v 48, .v 49, .v 50, .v 51, .v 52, .v 53, .v 54] (.op .not [.v 55] (.ite (.v 56) (.ret [.l (.bool false)]) (.op .inb [.v 0, .v 26] (.op (.idx ItT) [.v 0, .v 26] (.op (.call 1013) [.v 19, .v 57] (.op .not [.v 65] (.ite (.v 66) (.ret [.l (.bool false)]) (.op (.ibin .add .i64) [.v 26, .l (.int .i64 1)] (.jump 0 [.v 67]))))))))))))))))) (.op (.call 1011) [.v 19, .v 2] (.op (.call 51) [.v 0, .v 2] (.op (.call 52) [.v 29, .v 30, .v 31, .v 32, .v 33, .v 34, .v 35, .v 36, .v 38, .v 39, .v 40, .v 41, .v 42, .v 43, .v 44, .v 45] (.op .not [.v 46] (.ite (.v 47) (.ret [.l (.bool false)]) (.op (.scmp .neq) [.v 38, .l (.str [])] (.op (.bcmp .neq) [.v 37, .v 48] (.ite (.v 49) (.ret [.l (.bool false)]) (.op (.call 1014) [.v 19, .v 2, .v 3, .v 4] (.op (.call 2006) [.v 0, .v 2, .v 3, .v 4] (.op (.call 50) [.v 50, .v 51] (.ite (.v 52) (.op (.call 1004) [] (.ret [.v 53])) (.ret [.l (.bool false)]))))))))))))))))))))))))))))))))))))))))))))
noncomputable def F2004 : List D → Option (List D) := Fof [c1019, c48, c1022, c77, c1006, c21] ir2004
noncomputable def c2004 : Ct := ⟨sig2004, F2004⟩
noncomputable def F2005 : List D → Option (List D) := Fof [c1012, c1010, c1009, c50] ir2005
noncomputable def c2005 : Ct := ⟨sig2005, F2005⟩
noncomputable def F2006 : List D → Option (List D) := Fof [] ir2006
noncomputable def c2006 : Ct := ⟨sig2006, F2006⟩
noncomputable def F2000 : List D → Option (List D) := Fof [c1004, c1008, c2004, c2005] ir2000
noncomputable def F2001 : List D → Option (List D) := Fof [c28, c1004, c77, c1005, c1008, c2005, c1011, c52, c1013, c51, c1014, c2006, c50] ir2001
end Go.Proofs.YtolcekkcenedjaaGreat.Sx

set_option maxHeartbeats 8000000
namespace Go.Proofs.YtolcekkcenedjaaGreat.Sx
attribute [local simp] mkp_tbl d_np_tbl o_pod_tbl mk_mark mk_it

def refTab (b : List Int) : List It := ((openT b).map List.flatten).getD []
def finR (b : List Int) (all : List (List It)) : Option (List (List It)) → List D
  | some ps => [⟨.sl ItT, if tabOk (all ++ ps) b = true then (all ++ ps).flatten else []⟩]
  | none => [⟨.sl ItT, []⟩]
theorem refTab_fin (b : List Int) : ([⟨.sl ItT, refTab b⟩] : List D) = finR b [] (partsB (scanF b)) := by
  unfold refTab openT finR
  cases partsB (scanF b) with
  | none => rfl
  | some ps =>
    simp only [List.nil_append]
    split <;> rfl
theorem finR_step (b : List Int) (all : List (List It)) (p : List It) (o : Option (List (List It))) : finR b (all ++ [p]) o = finR b all (match o with | none => none | some ps => some (p :: ps)) := by
  cases o with
  | none => rfl
  | some ps => simp [finR]

theorem f2004 (b : List Int) (hb : ∀ c ∈ b, 0 ≤ c ∧ c < 256) (hl : b.length ≤ 60000) : F2004 [⟨.sl (.int .u8), b⟩] = some [⟨.sl ItT, refTab b⟩] := by
  have h1019 := s1019 (lc := [c1019, c48, c1022, c77, c1006, c21]) rfl
  have h48 := s48 (lc := [c1019, c48, c1022, c77, c1006, c21]) rfl
  have h1022 := s1022 (lc := [c1019, c48, c1022, c77, c1006, c21]) rfl
  have h77 := s77 (lc := [c1019, c48, c1022, c77, c1006, c21]) rfl
  have h1006 := s1006 (lc := [c1019, c48, c1022, c77, c1006, c21]) rfl
  have h21 := s21 (lc := [c1019, c48, c1022, c77, c1006, c21]) rfl
  simp only [F2004, Fof, ir2004]
  generalize Phi [c1019, c48, c1022, c77, c1006, c21] = Φ at *
  have k0 := h1019 b hb (by omega)
  simp only [resS, List.nil_append, Nat.zero_add] at k0
  rw [refTab_fin]
  have hfb := scan_bytes hb
  have hf6 := scan_len hb
  generalize scanF b = fs at *
  generalize placesF 0 fs = pl at *
  simp -implicitDefEqProofs [k0]
  refine (iter_meas (fun s : List (List It) × Int => (fs.length - s.2).toNat) (fun s => finR b s.1 (partsB (fs.drop s.2.toNat))) (fun s => 0 ≤ s.2 ∧ s.2 ≤ fs.length ∧ s.1.length = s.2.toNat ∧ goodP s.1 ∧ s.1.flatten.length ≤ (putFs (fs.take s.2.toNat)).length) (by exact ⟨by simp, by simp, by simp, (by intro p hp; cases hp), by simp⟩) ?_).trans (by simp)
  rintro ⟨all, i⟩ ⟨h1, h2, h5, h6, h7⟩
  simp only at h1 h2 h5 h6 h7 ⊢
  have hfl := flat_len all h6
  have hff := goodP_flat h6
  have h8 := putFs_take fs i.toNat
  have k22 := h1022 all (by omega) (by omega)
  have k77 := h77 all.flatten (by omega) (fun x hx => by have := hff.2.2 x hx; omega)
  by_cases hi : i < fs.length
  · have b1 : 0 ≤ i ∧ i < (fs.length : Int) := ⟨h1, hi⟩
    have g1 := getG (l := fs) (d := dflt FrT) h1 (by omega)
    have hxm := hfb _ (List.getElem_mem (l := fs) (n := i.toNat) (by omega))
    have wi : IntKind.i64.wrap (i + 1) = i + 1 := wi64 _ (by omega) (by omega)
    rw [dropI h1 hi]
    generalize hcx : fs[i.toNat]'(by omega) = x at *
    obtain ⟨k, y⟩ := x
    simp only at hxm
    by_cases hk : k = 1
    · subst hk
      have hyl : y.length ≤ 1048576 := by have := hxm.2; simp only [okF, decide_eq_true_eq] at this; omega
      have k48 := h48 y hxm.1 (by omega)
      rw [refGet_eq hxm.1] at k48
      cases hg : blkGet y with
      | none =>
        rw [hg] at k48
        simp only [Option.getD_none] at k48
        refine .inr ?_
        simp only [partsB, if_true, hg, finR]
        generalize all.flatten = fl at *
        simp -implicitDefEqProofs [hi, b1, g1, hcx, k48]
      | some p =>
        rw [hg] at k48
        simp only [Option.getD_some] at k48
        obtain ⟨p0, p1, p2, p3, p4, p5⟩ := blkGet_good hxm.1 hg
        have hstep := finR_step b all p (partsB (fs.drop (i + 1).toNat))
        have hB1 : all.length + 1 ≤ BIG := by simp only [BIG]; omega
        have hp0 : ¬ p.length = 0 := by omega
        have hp0' : ¬ (p.length : Int) = 0 := by omega
        have hpn : ¬ p = [] := by intro e; rw [e] at p1; simp at p1
        refine .inl ⟨(all ++ [p], i + 1), ?_, ⟨by (try simp only); omega, by (try simp only); omega, by simp; omega, ?_, ?_⟩, by (try simp only); omega, ?_⟩
        · generalize all.flatten = fl at *
          simp -implicitDefEqProofs [hi, b1, g1, hcx, k48, wi, hB1, hp0, hp0', hpn]
        · intro q hq
          rcases List.mem_append.1 hq with hq | hq
          · exact h6 q hq
          · simp only [List.mem_singleton] at hq
            subst hq
            exact ⟨p1, p2, p3, p4, p5⟩
        · have e : fs.take (i + 1).toNat = fs.take i.toNat ++ [(1, y)] := by
            rw [show (i + 1).toNat = i.toNat + 1 by omega, List.take_add_one, List.getElem?_eq_getElem (by omega), hcx]; rfl
          have hge := blk_ge p
          rw [← p0] at hge
          have hpf : (putF (1, y)).length = (one y.length).length + 1 + y.length + 4 := putF_len (1, y)
          simp only [e, putFs_app, putFs, List.length_append, List.append_nil, List.flatten_append, List.flatten_cons, List.flatten_nil]
          omega
        · simp only [partsB, if_true, hg]
          rw [hstep]
          cases partsB (fs.drop (i + 1).toNat) <;> rfl
    · refine .inr ?_
      have hpb : partsB ((k, y) :: fs.drop (i + 1).toNat) = some [] := by simp only [partsB, if_neg hk]
      rw [hpb]
      simp only [finR, List.append_nil]
      generalize hfe : all.flatten = l at *
      by_cases c2 : (l.length : Int) < 1
      · have ht : tabOk all b = false := by
          simp only [tabOk, hfe]
          rw [decide_eq_false (by omega)]; rfl
        have c2' : l.length = 0 := by omega
        rw [ht]
        simp -implicitDefEqProofs [hi, b1, g1, hcx, hk, k22, c2, c2']
      by_cases c3 : 16384 < (l.length : Int)
      · have ht : tabOk all b = false := by
          simp only [tabOk, hfe]
          rw [decide_eq_false (by omega)]; rfl
        rw [ht]
        simp -implicitDefEqProofs [hi, b1, g1, hcx, hk, k22, c2, c3]
      cases hs : srt none l with
      | false =>
        rw [hs] at k77
        have ht : tabOk all b = false := by
          simp only [tabOk, hfe, hs, Bool.and_false, Bool.false_and]
        rw [ht]
        simp -implicitDefEqProofs [hi, b1, g1, hcx, hk, k22, c2, c3, k77]
      | true =>
        rw [hs] at k77
        have k6 := h1006 all h6 (by omega) (by rw [hfe]; omega)
        have htl := tab_len h6 (by omega) (by rw [hfe]; omega)
        rw [hfe] at htl
        have k21 := h21 (tabPut all) b (by omega)
        have ht : tabOk all b = decide (tabPut all = b) := by
          simp only [tabOk, hfe, hs, Bool.and_true]
          rw [decide_eq_true (by omega), Bool.true_and]
        rw [ht]
        generalize tabPut all = tb at *
        by_cases c4 : tb = b
        · rw [decide_eq_true c4] at k21 ⊢
          simp -implicitDefEqProofs [hi, b1, g1, hcx, hk, k22, c2, c3, k77, k6, k21]
        · rw [decide_eq_false c4] at k21 ⊢
          simp -implicitDefEqProofs [hi, b1, g1, hcx, hk, k22, c2, c3, k77, k6, k21]
  · refine .inr ?_
    rw [List.drop_eq_nil_of_le (by omega)]
    simp only [partsB, finR, List.append_nil]
    generalize hfe : all.flatten = l at *
    by_cases c2 : (l.length : Int) < 1
    · have ht : tabOk all b = false := by
        simp only [tabOk, hfe]
        rw [decide_eq_false (by omega)]; rfl
      have c2' : l.length = 0 := by omega
      rw [ht]
      simp -implicitDefEqProofs [hi, k22, c2, c2']
    by_cases c3 : 16384 < (l.length : Int)
    · have ht : tabOk all b = false := by
        simp only [tabOk, hfe]
        rw [decide_eq_false (by omega)]; rfl
      rw [ht]
      simp -implicitDefEqProofs [hi, k22, c2, c3]
    cases hs : srt none l with
    | false =>
      rw [hs] at k77
      have ht : tabOk all b = false := by
        simp only [tabOk, hfe, hs, Bool.and_false, Bool.false_and]
      rw [ht]
      simp -implicitDefEqProofs [hi, k22, c2, c3, k77]
    | true =>
      rw [hs] at k77
      have k6 := h1006 all h6 (by omega) (by rw [hfe]; omega)
      have htl := tab_len h6 (by omega) (by rw [hfe]; omega)
      rw [hfe] at htl
      have k21 := h21 (tabPut all) b (by omega)
      have ht : tabOk all b = decide (tabPut all = b) := by
        simp only [tabOk, hfe, hs, Bool.and_true]
        rw [decide_eq_true (by omega), Bool.true_and]
      rw [ht]
      generalize tabPut all = tb at *
      by_cases c4 : tb = b
      · rw [decide_eq_true c4] at k21 ⊢
        simp -implicitDefEqProofs [hi, k22, c2, c3, k77, k6, k21]
      · rw [decide_eq_false c4] at k21 ⊢
        simp -implicitDefEqProofs [hi, k22, c2, c3, k77, k6, k21]
theorem s2004 {lc : List Ct} (hl0 : look (lc.map fun c => (c.sig.id, c)) 2004 = some c2004) : ∀ (b : List Int) (hb : ∀ c ∈ b, 0 ≤ c ∧ c < 256) (hl : b.length ≤ 60000), Does1 (Phi lc) 2004 [⟨.sl (.int .u8), b⟩] [⟨.sl ItT, refTab b⟩] :=
  fun b hb hl => by
    have eFc : c2004.F = F2004 := rfl
    have eFh := f2004 b hb hl
    rw [← eFc] at eFh
    exact Does1.of hl0 eFh rfl

theorem f2005 (ps : List (List It)) (h : TabIs ps) : F2005 [⟨.pt TblT, some (tblOf ps)⟩, ⟨.sl ItT, ps.flatten⟩] = some [⟨.bool, true⟩] := by
  have h1012 := s1012 (lc := [c1012, c1010, c1009, c50]) rfl
  have h1010 := s1010 (lc := [c1012, c1010, c1009, c50]) rfl
  have h1009 := s1009 (lc := [c1012, c1010, c1009, c50]) rfl
  have h50 := s50 (lc := [c1012, c1010, c1009, c50]) rfl
  simp only [F2005, Fof, ir2005]
  generalize Phi [c1012, c1010, c1009, c50] = Φ at *
  have hg : TabGood (some (tblOf ps)) := .inr ⟨ps, rfl, h⟩
  have k1 := h1012 _ hg
  have k2 := h1010 (some (tblOf ps))
  have k3 := h1009 _ hg
  rw [items_tbl h.good] at k3
  have hff := goodP_flat h.good
  have k50 := h50 ps.flatten ps.flatten (by have := h.items; omega) (fun x hx => by have := hff.2.2 x hx; omega)
  rw [decide_eq_true rfl] at k50
  have hne : 1 ≤ ps.flatten.length := by
    have := flat_ge ps (fun p hp => (h.good p hp).1)
    have : ps.length ≠ 0 := fun e => h.ne (List.length_eq_zero_iff.1 e)
    omega
  have hit := h.items
  have hz0 : 0 < ps.flatten.length := by omega
  have hz1 : ps.flatten.length - 1 < ps.flatten.length := by omega
  have he : endsT (some (tblOf ps)) = ((ps.flatten[0]'hz0).1, lastKey ps.flatten) := by
    have hps := h.ne
    have hg2 := h.good
    cases ps with
    | nil => exact absurd rfl hps
    | cons p r =>
      have hp := (hg2 p (by simp)).1
      cases p with
      | nil => simp at hp
      | cons y q => rfl
  have k1' : Does1 Φ 1012 [⟨.pt TblT, some (tblOf ps)⟩] [⟨.str, (ps.flatten[0]'hz0).1⟩, ⟨.str, lastKey ps.flatten⟩] := by rw [he] at k1; exact k1
  have k2' : Does1 Φ 1010 [⟨.pt TblT, some (tblOf ps)⟩] [⟨.int .i64, ps.flatten.length⟩] := k2
  have hlk2 := lastKey_eq (l := ps.flatten) hne
  have hlk : (ps.flatten[ps.flatten.length - 1]'hz1).1 = lastKey ps.flatten := by
    rw [List.getElem?_eq_getElem hz1] at hlk2
    exact hlk2
  clear k1 k2 he hg hff
  generalize lastKey ps.flatten = lk at *
  generalize tblOf ps = tt at *
  generalize ps.flatten = l at *
  have wl : IntKind.i64.wrap ((l.length : Int) - 1) = l.length - 1 := wi64 _ (by omega) (by omega)
  have b2 : 0 ≤ (l.length : Int) - 1 ∧ (l.length : Int) - 1 < l.length := by omega
  have b2' : 1 ≤ (l.length : Int) := by omega
  have b2'' : 0 < l.length := by omega
  simp -implicitDefEqProofs [k1', k2', k3, k50, wl, b2, b2', b2'', hlk, hlk2]
theorem s2005 {lc : List Ct} (hl0 : look (lc.map fun c => (c.sig.id, c)) 2005 = some c2005) : ∀ (ps : List (List It)) (h : TabIs ps), Does1 (Phi lc) 2005 [⟨.pt TblT, some (tblOf ps)⟩, ⟨.sl ItT, ps.flatten⟩] [⟨.bool, true⟩] :=
  fun ps h => by
    have eFc : c2005.F = F2005 := rfl
    have eFh := f2005 ps h
    rw [← eFc] at eFh
    exact Does1.of hl0 eFh rfl
theorem f2006 (l : List It) (lo hi : List Int) (most : Int) (hl : l.length ≤ 1000000) : F2006 [⟨.sl ItT, l⟩, ⟨.str, lo⟩, ⟨.str, hi⟩, ⟨.int .i64, most⟩] = some [⟨.sl ItT, scanR lo hi most l⟩] := by
  simp only [F2006, Fof, ir2006]
  simp -implicitDefEqProofs
  refine (iter_meas (fun s : List It × Int => (l.length - s.2).toNat) (fun s => ([⟨.sl ItT, s.1 ++ ((l.drop s.2.toNat).filter (inR lo hi)).take (most - s.1.length).toNat⟩] : List D)) (fun s => 0 ≤ s.2 ∧ s.2 ≤ l.length ∧ s.1.length ≤ s.2.toNat) (by exact ⟨by simp, by simp, by simp⟩) ?_).trans (by simp [scanR])
  rintro ⟨o, i⟩ ⟨h1, h2, h3⟩
  simp only at h1 h2 h3 ⊢
  by_cases hi2 : i < l.length
  rotate_left
  · refine .inr ?_
    rw [List.drop_eq_nil_of_le (by omega)]
    simp -implicitDefEqProofs [hi2]
  by_cases hm : (o.length : Int) < most
  rotate_left
  · refine .inr ?_
    rw [show (most - (o.length : Int)).toNat = 0 by omega]
    simp -implicitDefEqProofs [hi2, hm]
  rw [dropI h1 hi2]
  have g1 := getG (l := l) (d := dflt ItT) h1 (by omega)
  have b1 : 0 ≤ i ∧ i < (l.length : Int) := ⟨h1, hi2⟩
  have wi : IntKind.i64.wrap (i + 1) = i + 1 := wi64 _ (by omega) (by omega)
  have hB : o.length + 1 ≤ BIG := by simp only [BIG]; omega
  generalize hcx : l[i.toNat]'(by omega) = x at *
  have hone : (most - (o.length : Int)).toNat = (most - ((o ++ [x]).length : Int)).toNat + 1 := by simp only [List.length_append, List.length_cons, List.length_nil]; omega
  by_cases hin : inR lo hi x = true
  · have hin' := hin
    simp only [inR, Bool.and_eq_true, Bool.not_eq_true', Bool.or_eq_true, decide_eq_true_eq] at hin'
    refine .inl ⟨(o ++ [x], i + 1), ?_, ⟨by (try simp only); omega, by (try simp only); omega, by simp; omega⟩, by (try simp only); omega, ?_⟩
    · by_cases e1 : hi = []
      · simp -implicitDefEqProofs [hi2, hm, b1, g1, hcx, wi, hB, hin'.1, e1]
      · simp -implicitDefEqProofs [hi2, hm, b1, g1, hcx, wi, hB, hin'.1, e1, hin'.2.resolve_left e1]
    · simp only [List.filter_cons, hin, if_true, hone, List.take_succ_cons, List.append_assoc, List.cons_append, List.nil_append]
  · refine .inl ⟨(o, i + 1), ?_, ⟨by (try simp only); omega, by (try simp only); omega, by (try simp only); omega⟩, by (try simp only); omega, ?_⟩
    · cases e0 : ltL x.1 lo
      · by_cases e1 : hi = []
        · exact absurd (by simp [inR, e0, e1]) hin
        · cases e2 : ltL x.1 hi
          · simp -implicitDefEqProofs [hi2, hm, b1, g1, hcx, wi, e0, e1, e2]
          · exact absurd (by simp [inR, e0, e2]) hin
      · simp -implicitDefEqProofs [hi2, hm, b1, g1, hcx, wi, e0]
    · simp only [List.filter_cons, if_neg hin]
theorem s2006 {lc : List Ct} (hl0 : look (lc.map fun c => (c.sig.id, c)) 2006 = some c2006) : ∀ (l : List It) (lo hi : List Int) (most : Int) (hl : l.length ≤ 1000000), Does1 (Phi lc) 2006 [⟨.sl ItT, l⟩, ⟨.str, lo⟩, ⟨.str, hi⟩, ⟨.int .i64, most⟩] [⟨.sl ItT, scanR lo hi most l⟩] :=
  fun l lo hi most hl => by
    have eFc : c2006.F = F2006 := rfl
    have eFh := f2006 l lo hi most hl
    rw [← eFc] at eFh
    exact Does1.of hl0 eFh rfl
theorem f2000 (b : List Int) (hb : ∀ c ∈ b, 0 ≤ c ∧ c < 256) : F2000 [⟨.sl (.int .u8), b⟩] = some [⟨.bool, true⟩] := by
  have h1004 := s1004 (lc := [c1004, c1008, c2004, c2005]) rfl
  have h1008 := s1008 (lc := [c1004, c1008, c2004, c2005]) rfl
  have h2004 := s2004 (lc := [c1004, c1008, c2004, c2005]) rfl
  have h2005 := s2005 (lc := [c1004, c1008, c2004, c2005]) rfl
  simp only [F2000, Fof, ir2000]
  generalize Phi [c1004, c1008, c2004, c2005] = Φ at *
  have kA := h1004 ()
  by_cases c1 : 3000 < (b.length : Int)
  · simp -implicitDefEqProofs [c1, kA]
  have k1 := h1008 b hb (by omega)
  have k2 := h2004 b hb (by omega)
  have hB : b.length ≤ BIG := by simp only [BIG]; omega
  unfold refTab at k2
  cases ho : openT b with
  | none =>
    rw [ho] at k1 k2
    simp only [resO, Option.map_none, Option.getD_none] at k1 k2
    simp -implicitDefEqProofs [c1, hB, k1, k2, kA]
  | some ps =>
    rw [ho] at k1 k2
    simp only [resO, Option.map_some, Option.getD_some] at k1 k2
    obtain ⟨i1, i2, i3⟩ := openT_good hb (by omega) ho
    have k3 := h2005 ps i1
    have hne : 1 ≤ ps.flatten.length := by
      have := flat_ge ps (fun p hp => (i1.good p hp).1)
      have : ps.length ≠ 0 := fun e => i1.ne (List.length_eq_zero_iff.1 e)
      omega
    generalize ps.flatten = l at *
    generalize tblOf ps = tt at *
    have c2 : ¬ l.length = 0 := by omega
    have c2' : ¬ (l.length : Int) = 0 := by omega
    have c2'' : ¬ l = [] := by intro e; rw [e] at hne; simp at hne
    simp -implicitDefEqProofs [c1, hB, k1, k2, k3, c2, c2', c2'', kA]
theorem find_mem {l : List It} (hs : srt none l = true) : ∀ x ∈ l, findI x.1 l = some x := fun x hx => find_srt none l hs x hx
theorem f2001 (l : List It) (size : Int) (lo hi : List Int) (most : Int) (hsz : 0 ≤ size ∧ size < 65536) (hm : sumsOk l) (hb : bytesOk l) (hlo : ∀ c ∈ lo, 0 ≤ c ∧ c < 256) : F2001 [⟨.sl ItT, l⟩, ⟨.int .u16, size⟩, ⟨.str, lo⟩, ⟨.str, hi⟩, ⟨.int .i64, most⟩] = some [⟨.bool, true⟩] := by
  have h28 := s28 (lc := [c28, c1004, c77, c1005, c1008, c2005, c1011, c52, c1013, c51, c1014, c2006, c50]) rfl
  have h1004 := s1004 (lc := [c28, c1004, c77, c1005, c1008, c2005, c1011, c52, c1013, c51, c1014, c2006, c50]) rfl
  have h77 := s77 (lc := [c28, c1004, c77, c1005, c1008, c2005, c1011, c52, c1013, c51, c1014, c2006, c50]) rfl
  have h1005 := s1005 (lc := [c28, c1004, c77, c1005, c1008, c2005, c1011, c52, c1013, c51, c1014, c2006, c50]) rfl
  have h1008 := s1008 (lc := [c28, c1004, c77, c1005, c1008, c2005, c1011, c52, c1013, c51, c1014, c2006, c50]) rfl
  have h2005 := s2005 (lc := [c28, c1004, c77, c1005, c1008, c2005, c1011, c52, c1013, c51, c1014, c2006, c50]) rfl
  have h1011 := s1011 (lc := [c28, c1004, c77, c1005, c1008, c2005, c1011, c52, c1013, c51, c1014, c2006, c50]) rfl
  have h52 := s52 (lc := [c28, c1004, c77, c1005, c1008, c2005, c1011, c52, c1013, c51, c1014, c2006, c50]) rfl
  have h1013 := s1013 (lc := [c28, c1004, c77, c1005, c1008, c2005, c1011, c52, c1013, c51, c1014, c2006, c50]) rfl
  have h51 := s51 (lc := [c28, c1004, c77, c1005, c1008, c2005, c1011, c52, c1013, c51, c1014, c2006, c50]) rfl
  have h1014 := s1014 (lc := [c28, c1004, c77, c1005, c1008, c2005, c1011, c52, c1013, c51, c1014, c2006, c50]) rfl
  have h2006 := s2006 (lc := [c28, c1004, c77, c1005, c1008, c2005, c1011, c52, c1013, c51, c1014, c2006, c50]) rfl
  have h50 := s50 (lc := [c28, c1004, c77, c1005, c1008, c2005, c1011, c52, c1013, c51, c1014, c2006, c50]) rfl
  simp only [F2001, Fof, ir2001]
  generalize Phi [c28, c1004, c77, c1005, c1008, c2005, c1011, c52, c1013, c51, c1014, c2006, c50] = Φ at *
  have kA := h1004 ()
  have k28 := h28 l
  cases hL : lightL l <;> rw [hL] at k28
  · simp -implicitDefEqProofs [k28, kA]
  obtain ⟨h100, hxl⟩ := light_len hL
  have k77 := h77 l (by omega) (fun x hx => by have := hxl x hx; omega)
  by_cases c1 : l.length = 0
  · have c1' : (l.length : Int) = 0 := by omega
    simp -implicitDefEqProofs [k28, c1, c1', kA]
  have c1' : ¬ (l.length : Int) = 0 := by omega
  cases hs : srt none l <;> rw [hs] at k77
  · simp -implicitDefEqProofs [k28, c1, c1', k77, kA]
  by_cases c2 : 200 < (lo.length : Int)
  · simp -implicitDefEqProofs [k28, c1, c1', k77, c2, kA]
  by_cases c3 : 200 < (hi.length : Int)
  · simp -implicitDefEqProofs [k28, c1, c1', k77, c2, c3, kA]
  have wx : IntKind.i64.wrap size = size := wi64 _ (by omega) (by omega)
  have wx1 : IntKind.i64.wrap (1 + size) = 1 + size := wi64 _ (by omega) (by omega)
  have k1 := h1005 l (1 + size) (by omega) hm hb
  have hmk : mayMake l (1 + size) = true := by
    simp only [mayMake, Bool.and_eq_true, decide_eq_true_eq]
    exact ⟨⟨by omega, by omega⟩, hs⟩
  unfold resMk at k1
  rw [if_pos hmk] at k1
  have hi1 := made_is (size := 1 + size) hs hm hb (by omega) (by omega)
  have hbb := made_bytes (size := 1 + size) hs hm hb (by omega)
  have hlen := made_len (size := 1 + size) hs hm hb h100
  have k3 := h1008 _ hbb (by omega)
  rw [made_open hi1] at k3
  simp only [resO] at k3
  have hfl : (parted (1 + size) l).flatten = l := parted_flat _ _
  have k4 := h2005 _ hi1
  rw [hfl] at k4
  have hg : TabGood (some (tblOf (parted (1 + size) l))) := .inr ⟨_, rfl, hi1⟩
  have hdead : deadT (some (tblOf (parted (1 + size) l))) = false := rfl
  have hitems : itemsT (some (tblOf (parted (1 + size) l))) = l := by rw [items_tbl hi1.good, hfl]
  have kf : ∀ key : List Int, key.length < 1000000000 → (∀ c ∈ key, 0 ≤ c ∧ c < 256) → Does1 Φ 1011 [⟨.pt TblT, some (tblOf (parted (1 + size) l))⟩, ⟨.str, key⟩] (resFd (findI key l)) := by
    intro key q1 q2
    have := h1011 _ key hg (.inr q1) q2
    rw [hitems] at this
    exact this
  have km : ∀ x ∈ l, Does1 Φ 1013 [⟨.pt TblT, some (tblOf (parted (1 + size) l))⟩, ⟨.str, x.1⟩] [⟨.bool, true⟩] := by
    intro x hx
    have := h1013 (some (tblOf (parted (1 + size) l))) x.1 (.inr ⟨by have := hxl x hx; omega, by
      intro y hy
      simp only [tblOf, Option.some.injEq] at hy
      subst hy
      exact tab_sieve hi1⟩) (hb x hx).1
    have e : mayB (some (tblOf (parted (1 + size) l))) x.1 = true := by
      show hasB (sieveOf (keysOf (parted (1 + size) l).flatten)) x.1 = true
      rw [hfl]
      exact has_sieve (List.mem_map.2 ⟨x, hx, rfl⟩) (by simp only [keysOf, List.length_map]; omega)
    rw [e] at this
    exact this
  have k14 := h1014 (some (tblOf (parted (1 + size) l))) lo hi most hg
  rw [hitems] at k14
  have k06 := h2006 l lo hi most (by omega)
  have hsub : ∀ x ∈ scanR lo hi most l, x ∈ l := by
    intro x hx
    exact (List.mem_filter.1 (List.mem_of_mem_take hx)).1
  have hslen : (scanR lo hi most l).length ≤ l.length := by
    unfold scanR
    rw [List.length_take]
    have := List.length_filter_le (inR lo hi) l
    omega
  have k50 := h50 (scanR lo hi most l) (scanR lo hi most l) (by omega) (fun x hx => by have := hxl x (hsub x hx); omega)
  rw [decide_eq_true rfl] at k50
  have k51 := h51 l lo (by omega)
  have klo := kf lo (by omega) hlo
  generalize scanR lo hi most l = sr at *
  generalize tblOf (parted (1 + size) l) = tt at *
  generalize tabPut (parted (1 + size) l) = tb at *
  have hkey : ∀ x ∈ l, x.1 ≠ [] := by
    intro x hx e
    have := srt_len hs x hx
    rw [e] at this; simp at this
  simp -implicitDefEqProofs [k28, c1, c1', k77, c2, c3, wx, wx1, k1, k3, k4]
  refine iter_meas (fun s : Int => (l.length - s).toNat) (fun _ => ([⟨.bool, true⟩] : List D)) (fun s => 0 ≤ s ∧ s ≤ l.length) (by exact ⟨by omega, by omega⟩) ?_
  rintro i ⟨h1, h2⟩
  by_cases hi2 : i < l.length
  · have g1 := getG (l := l) (d := dflt ItT) h1 hi2
    have b1 : 0 ≤ i ∧ i < (l.length : Int) := ⟨h1, hi2⟩
    have wi : IntKind.i64.wrap (i + 1) = i + 1 := wi64 _ (by omega) (by omega)
    have hmem := List.getElem_mem (l := l) (n := i.toNat) (by omega)
    generalize hcx : l[i.toNat]'(by omega) = x at *
    have q1 := kf x.1 (by have := hxl x hmem; omega) (hb x hmem).1
    rw [find_mem hs x hmem] at q1
    have q2 := km x hmem
    have q3 := h52 x x (by have := hxl x hmem; omega)
    rw [decide_eq_true rfl] at q3
    simp only [resFd, itD, List.cons_append, List.nil_append] at q1 q3
    refine .inl ⟨i + 1, ?_, ⟨by omega, by omega⟩, by omega, by first | rfl | trivial⟩
    simp -implicitDefEqProofs [hi2, b1, g1, hcx, q1, q2, q3, wi]
  · refine .inr ?_
    cases hf : findI lo l with
    | none =>
      rw [hf] at klo k51
      have q3 := h52 zI zI (by simp)
      rw [decide_eq_true rfl] at q3
      simp only [resFd, itD, Option.getD_none, List.cons_append, List.nil_append] at klo k51 q3
      simp -implicitDefEqProofs [hi2, klo, k51, q3, k14, k06, k50, kA]
    | some y =>
      rw [hf] at klo k51
      obtain ⟨ye, ym⟩ := find_key lo l y hf
      have q3 := h52 y y (by have := hxl y ym; omega)
      rw [decide_eq_true rfl] at q3
      have hyn := hkey y ym
      simp only [resFd, itD, Option.getD_some, List.cons_append, List.nil_append] at klo k51 q3
      simp -implicitDefEqProofs [hi2, klo, k51, q3, hyn, k14, k06, k50, kA]
end Go.Proofs.YtolcekkcenedjaaGreat.Sx
