/-
  Tables made, opened and read: what the functions answer.
-/
import Derived.Test.YtolcekkcenedjaaGreatT2
set_option linter.unusedVariables false
set_option linter.unusedSimpArgs false
namespace Go.Proofs.YtolcekkcenedjaaGreat.Sx
def sig1020 : Sig := { id := 1020, ins := [(false, ItT.sl.sl), (false, ItT.sl)], outs := [(false, [((Ty.int .u8).sl, some 5)])] }
def ir1020 : IR := .op .len [.v 0] (.loop [.l (.nil (Ty.int .u8)), .l (.nil (Ty.int .u8)), .l (.int .i64 0)] [(Ty.int .u8).sl, (Ty.int .u8).sl, Ty.int .i64] (.op (.icmp .lss) [.v 5, .v 2] (.ite (.v 6) (.op .inb [.v 0, .v 5] (.op (.idx ItT.sl) [.v 0, .v 5] (.op (.call 32) [.v 7] (.op .inb [.v 7, .l (.int .i64 0)] (.op (.idx ItT) [.v 7, .l (.int .i64 0)] (.op .len [.v 10] (.op (.conv .u64) [.v 18] (.op (.mk (Ty.int .u64) 1) [.v 19] (.op (.call 66) [.v 20] (.op .app [.v 4, .v 21] (.op .inb [.v 7, .l (.int .i64 0)] (.op (.idx ItT) [.v 7, .l (.int .i64 0)] (.op .apps [.v 22, .v 23] (.op .len [.v 3] (.op .len [.v 8] (.op (.call 1039) [.v 33] (.op (.ibin .add .i64) [.v 32, .v 34] (.op (.conv .u64) [.v 35] (.op (.mk (Ty.int .u64) 1) [.v 36] (.op (.call 66) [.v 37] (.op .app [.v 31, .v 38] (.op (.mk ((Ty.int .i64).pair (Ty.int .u8).sl) 1) [.l (.int .i64 1), .v 8] (.op (.call 1035) [.v 40] (.op .app [.v 3, .v 41] (.op (.ibin .add .i64) [.v 5, .l (.int .i64 1)] (.jump 0 [.v 43, .v 39, .v 44])))))))))))))))))))))))))) (.op (.call 1029) [.v 1] (.op (.call 1028) [.v 7] (.op .len [.v 1] (.op (.conv .u64) [.v 9] (.op (.mk (Ty.int .u64) 1) [.v 10] (.op (.call 66) [.v 11] (.op (.mk ((Ty.int .i64).pair (Ty.int .u8).sl) 3) [.l (.int .i64 2), .v 4, .l (.int .i64 3), .v 8, .l (.int .i64 4), .v 12] (.op (.call 1035) [.v 13] (.op .app [.v 3, .v 14] (.ret [.v 16])))))))))))))
def sig1006 : Sig := { id := 1006, ins := [(false, ItT.sl.sl)], outs := [(false, [((Ty.int .u8).sl, some 5)])] }
def ir1006 : IR := .op (.mk (Ty.int .u8) 0) [] (.op (.mk (Ty.int .u8) 0) [] (.op (.mk Ty.str 0) [] (.op (.call 1022) [.v 0] (.loop [.v 3, .l (.int .i64 0)] [Ty.str.sl, Ty.int .i64] (.op .len [.v 4] (.op (.icmp .lss) [.v 6, .v 7] (.ite (.v 8) (.op .inb [.v 4, .v 6] (.op (.idx ItT) [.v 4, .v 6] (.op (.mk Ty.str 1) [.v 9] (.op .app [.v 5, .v 17] (.op (.ibin .add .i64) [.v 6, .l (.int .i64 1)] (.jump 0 [.v 18, .v 19])))))) (.loop [.v 1, .v 2, .l (.int .i64 0)] [(Ty.int .u8).sl, (Ty.int .u8).sl, Ty.int .i64] (.op .len [.v 0] (.op (.icmp .lss) [.v 11, .v 12] (.ite (.v 13) (.op .inb [.v 0, .v 11] (.op (.idx ItT.sl) [.v 0, .v 11] (.op .inb [.v 14, .l (.int .i64 0)] (.op (.idx ItT) [.v 14, .l (.int .i64 0)] (.op .inb [.v 0, .v 11] (.op (.idx ItT.sl) [.v 0, .v 11] (.op (.call 34) [.v 23] (.op (.call 1023) [.l (.int .i64 1), .v 24] (.op .len [.v 15] (.op (.conv .u64) [.v 26] (.op (.call 71) [.v 27] (.op .app [.v 10, .v 28] (.op .apps [.v 29, .v 15] (.op .len [.v 9] (.op .len [.v 25] (.op (.ibin .add .i64) [.v 31, .v 32] (.op (.ibin .sub .i64) [.v 33, .l (.int .i64 4)] (.op .len [.v 24] (.op (.ibin .sub .i64) [.v 34, .v 35] (.op (.conv .u64) [.v 36] (.op (.call 71) [.v 37] (.op .app [.v 30, .v 38] (.op .app [.v 9, .v 25] (.op (.ibin .add .i64) [.v 11, .l (.int .i64 1)] (.jump 1 [.v 40, .v 39, .v 41]))))))))))))))))))))))))) (.op .len [.v 4] (.op (.conv .u64) [.v 14] (.op (.call 71) [.v 15] (.op (.call 1025) [.v 5] (.op (.mk ((Ty.int .i64).pair (Ty.int .u8).sl) 3) [.l (.int .i64 2), .v 10, .l (.int .i64 3), .v 17, .l (.int .i64 4), .v 16] (.op (.call 1024) [.v 18] (.op .app [.v 9, .v 19] (.ret [.v 20])))))))))))))))))))
def sig1005 : Sig := { id := 1005, ins := [(false, ItT.sl), (false, Ty.int .i64)], outs := [(false, [((Ty.int .u8).sl, some 5)]), (false, [(Ty.int .i64, none)])] }
def ir1005 : IR := .op .len [.v 0] (.op (.icmp .lss) [.v 2, .l (.int .i64 1)] (.ite (.v 3) (.ret [.l (.nil (Ty.int .u8)), .l (.int .i64 1)]) (.op .len [.v 0] (.op (.icmp .gtr) [.v 4, .l (.int .i64 16384)] (.ite (.v 5) (.ret [.l (.nil (Ty.int .u8)), .l (.int .i64 1)]) (.op (.icmp .lss) [.v 1, .l (.int .i64 1)] (.ite (.v 6) (.ret [.l (.nil (Ty.int .u8)), .l (.int .i64 1)]) (.op (.icmp .gtr) [.v 1, .l (.int .i64 65536)] (.ite (.v 7) (.ret [.l (.nil (Ty.int .u8)), .l (.int .i64 1)]) (.op (.call 75) [.v 0] (.op .not [.v 8] (.ite (.v 9) (.ret [.l (.nil (Ty.int .u8)), .l (.int .i64 1)]) (.op (.call 1021) [.v 0, .v 1] (.op (.call 1020) [.v 10, .v 0] (.ret [.v 11, .l (.int .i64 0)])))))))))))))))
noncomputable def F1020 : List D → Option (List D) := Fof [c32, c66, c1039, c1035, c1029, c1028] ir1020
noncomputable def c1020 : Ct := ⟨sig1020, F1020⟩
noncomputable def F1006 : List D → Option (List D) := Fof [c1022, c34, c1023, c71, c1025, c1024] ir1006
noncomputable def c1006 : Ct := ⟨sig1006, F1006⟩
noncomputable def F1005 : List D → Option (List D) := Fof [c75, c1021, c1020] ir1005
noncomputable def c1005 : Ct := ⟨sig1005, F1005⟩
end Go.Proofs.YtolcekkcenedjaaGreat.Sx

set_option maxHeartbeats 4000000
namespace Go.Proofs.YtolcekkcenedjaaGreat.Sx

def goodP (ps : List (List It)) : Prop := ∀ p ∈ ps, 1 ≤ p.length ∧ p.length ≤ 256 ∧ srt none p = true ∧ sumsOk p ∧ bytesOk p
theorem goodP_fr {ps : List (List It)} (h : goodP ps) : ∀ p ∈ ps, p.length ≤ 256 ∧ srt none p = true := fun p hp => ⟨(h p hp).2.1, (h p hp).2.2.1⟩
theorem frBs_len : ∀ (ps : List (List It)), goodP ps → (putFs (frBs ps)).length ≤ 52000 * ps.length
  | [], _ => by simp [frBs, putFs]
  | p :: ps, h => by
    have h1 := blk_len (h p (by simp)).2.1 (h p (by simp)).2.2.1
    have h0 := (h p (by simp)).2.1
    have h2 := putF_le (f := frB p) (by show (blkPut p).length < _; omega)
    have h3 : (frB p).2.length = (blkPut p).length := rfl
    have h4 := frBs_len ps (fun q hq => h q (by simp [hq]))
    simp only [frBs, List.map_cons, putFs, List.length_append, List.length_cons] at h4 ⊢
    omega
theorem blk_bytes {p : List It} (h : bytesOk p) : ∀ c ∈ blkPut p, 0 ≤ c ∧ c < 256 := by
  intro c hc
  simp only [blkPut, List.mem_append] at hc
  rcases hc with hc | hc
  · simp only [putL_1] at hc
    have := one_byte _ c hc; omega
  · exact enc_bytes h [] c hc
theorem key_bytes {p : List It} (h : bytesOk p) : ∀ c ∈ keyOf p, 0 ≤ c ∧ c < 256 := by
  cases p with
  | nil => intro c hc; cases hc
  | cons y r => exact (h y (by simp)).1
theorem idx_bytes : ∀ (ps : List (List It)) (n : Nat), goodP ps → ∀ c ∈ idxG n ps, 0 ≤ c ∧ c < 256
  | [], _, _, c, hc => by cases hc
  | p :: ps, n, h, c, hc => by
    simp only [idxG, List.mem_append] at hc
    rcases hc with (hc | hc | hc) | hc
    · have := one_byte _ c hc; omega
    · exact key_bytes (h p (by simp)).2.2.2.2 c hc
    · have := one_byte _ c hc; omega
    · exact idx_bytes ps _ (fun q hq => h q (by simp [hq])) c hc
theorem goodP_flat {ps : List (List It)} (h : goodP ps) : bytesOk ps.flatten ∧ sumsOk ps.flatten ∧ ∀ x ∈ ps.flatten, x.1.length ≤ 64 ∧ x.2.2.2.1.length ≤ 32 := by
  refine ⟨fun x hx => ?_, fun x hx => ?_, fun x hx => ?_⟩ <;> obtain ⟨p, hp, hxp⟩ := List.mem_flatten.1 hx
  · exact (h p hp).2.2.2.2 x hxp
  · exact (h p hp).2.2.2.1 x hxp
  · have := srt_len (h p hp).2.2.1 x hxp
    exact ⟨this.2.1, this.2.2⟩
theorem keysOf_ok {l : List It} (h : bytesOk l) (h2 : ∀ x ∈ l, x.1.length ≤ 64 ∧ x.2.2.2.1.length ≤ 32) : ∀ k ∈ keysOf l, k.length < 1000000000 ∧ ∀ c ∈ k, 0 ≤ c ∧ c < 256 := by
  intro k hk
  obtain ⟨x, hx, rfl⟩ := List.mem_map.1 hk
  exact ⟨by have := h2 x hx; omega, (h x hx).1⟩
theorem tail_bytes {ps : List (List It)} (h : goodP ps) : ∀ f ∈ tailF ps ps.flatten, ∀ c ∈ f.2, 0 ≤ c ∧ c < 256 := by
  intro f hf
  simp only [tailF, List.mem_cons, List.not_mem_nil, or_false] at hf
  rcases hf with rfl | rfl | rfl
  · exact idx_bytes ps 0 h
  · exact sieve_byte _
  · intro c hc; have := one_byte _ c hc; omega
theorem resFr_one (l : List Fr) (h : ∀ f ∈ l, okF f = true) : resFr (l.all okF) l [] = [⟨.sl (.int .u8), putFs l⟩, ⟨.int .i64, 0⟩] := by
  unfold resFr
  rw [if_pos (List.all_eq_true.2 h)]; rfl
theorem tab_split (ps : List (List It)) : tabPut ps = putFs (frBs ps) ++ putFs (tailF ps ps.flatten) := putFs_app _ _
theorem flat_len : ∀ (ps : List (List It)), goodP ps → ps.flatten.length ≤ 256 * ps.length
  | [], _ => by simp
  | p :: ps, h => by
    have h0 := (h p (by simp)).2.1
    have h4 := flat_len ps (fun q hq => h q (by simp [hq]))
    simp only [List.flatten_cons, List.length_append, List.length_cons]; omega
theorem idx_step (ps : List (List It)) (i : Nat) (p : List It) (h : ps[i]? = some p) : putFs (frBs (ps.take (i + 1))) = putFs (frBs (ps.take i)) ++ putF (frB p) ∧
    idxG 0 (ps.take (i + 1)) = idxG 0 (ps.take i) ++ (one (keyOf p).length ++ (keyOf p ++ one ((putFs (frBs (ps.take i))).length + headN (blkPut p).length))) := by
  rw [List.take_add_one, h]
  constructor
  · simp only [frBs, Option.toList_some, List.map_append, List.map_cons, List.map_nil, putFs_app, putFs, List.append_nil]
  · rw [idxG_app]
    simp only [Option.toList_some, idxG, List.append_nil, Nat.zero_add]

theorem f1020 (ps : List (List It)) (h : goodP ps) (hl : ps.length ≤ 10000) (hn : ps.flatten.length ≤ 16384) : F1020 [⟨.sl (.sl ItT), ps⟩, ⟨.sl ItT, ps.flatten⟩] = some [⟨.sl (.int .u8), tabPut ps⟩] := by
  have h32 := s32 (lc := [c32, c66, c1039, c1035, c1029, c1028]) rfl
  have h66 := s66 (lc := [c32, c66, c1039, c1035, c1029, c1028]) rfl
  have h1039 := s1039 (lc := [c32, c66, c1039, c1035, c1029, c1028]) rfl
  have h1035 := s1035 (lc := [c32, c66, c1039, c1035, c1029, c1028]) rfl
  have h1029 := s1029 (lc := [c32, c66, c1039, c1035, c1029, c1028]) rfl
  have h1028 := s1028 (lc := [c32, c66, c1039, c1035, c1029, c1028]) rfl
  simp only [F1020, Fof, ir1020]
  generalize Phi [c32, c66, c1039, c1035, c1029, c1028] = Φ at *
  simp -implicitDefEqProofs
  refine iter_meas (fun s : List Int × List Int × Int => (ps.length - s.2.2).toNat) (fun s => ([⟨.sl (.int .u8), tabPut ps⟩] : List D)) (fun s => 0 ≤ s.2.2 ∧ s.2.2 ≤ ps.length ∧ s.1 = putFs (frBs (ps.take s.2.2.toNat)) ∧ s.2.1 = idxG 0 (ps.take s.2.2.toNat)) (by exact ⟨by simp, by simp, by simp [frBs, putFs], by simp [idxG]⟩) ?_
  rintro ⟨b, idx, i⟩ ⟨h1, h2, h3, h4⟩
  simp only at h1 h2 h3 h4 ⊢
  have hgt : goodP (ps.take i.toNat) := fun p hp => h p (List.mem_of_mem_take hp)
  have hbl := frBs_len _ hgt
  have hix := idx_len (ps.take i.toNat) 0 (goodP_fr hgt) (by rw [List.length_take]; omega)
  rw [List.length_take] at hbl hix
  rw [← h3] at hbl
  rw [← h4] at hix
  by_cases hi : i < ps.length
  · have g1 := getG (l := ps) (d := dflt (.sl ItT)) h1 (by omega)
    have g2 : ps[i.toNat]? = some (ps[i.toNat]'(by omega)) := List.getElem?_eq_getElem (by omega)
    have b1 : 0 ≤ i ∧ i < (ps.length : Int) := ⟨h1, hi⟩
    have wi : IntKind.i64.wrap (i + 1) = i + 1 := wi64 _ (by omega) (by omega)
    have hg := h _ (List.getElem_mem (l := ps) (n := i.toNat) (by omega))
    obtain ⟨e1, e2⟩ := idx_step ps i.toNat _ g2
    rw [← h3, ← h4] at e2
    rw [← h3] at e1
    generalize hcx : ps[i.toNat]'(by omega) = p at *
    obtain ⟨q1, q2, q3, q4, q5⟩ := hg
    have hpb := blk_len q2 q3
    have k1 : Does1 Φ 32 [⟨.sl ItT, p⟩] [⟨.sl (.int .u8), blkPut p⟩, ⟨.int .i64, 0⟩] := by
      have := h32 p (by omega) q4
      rw [if_pos ⟨q1, q2, q3⟩, if_pos ⟨q1, q2, q3⟩] at this
      exact this
    have k3 := h1039 ((blkPut p).length : Int)
    have hz : headI ((blkPut p).length : Int) = headN (blkPut p).length := by unfold headI; rw [if_neg (by omega), Int.toNat_natCast]
    rw [hz] at k3
    have hhr := headN_r (n := (blkPut p).length) (by omega)
    have hok : okF (frB p) = true := by
      unfold okF
      exact decide_eq_true ⟨by show (1 : Int) ≤ 1; omega, by show (1 : Int) ≤ 250; omega, by show (blkPut p).length ≤ 1048576; omega⟩
    have k5 : Does1 Φ 1035 [⟨.sl FrT, [(1, blkPut p)]⟩] [⟨.sl (.int .u8), putF (frB p)⟩, ⟨.int .i64, 0⟩] := by
      have := h1035 [frB p] (by simp) (by intro f hf; simp only [List.mem_singleton] at hf; subst hf; show (blkPut p).length < _; omega) (by intro f hf; simp only [List.mem_singleton] at hf; subst hf; exact blk_bytes q5)
      rw [resFr_one _ (by intro f hf; simp only [List.mem_singleton] at hf; subst hf; exact hok)] at this
      simp only [putFs, List.append_nil] at this
      exact this
    have hmk : mkD FrT 1 [⟨.int .i64, 1⟩, ⟨.sl (.int .u8), blkPut p⟩] = some ⟨.sl FrT, [(1, blkPut p)]⟩ := rfl
    have hpf := putF_le (f := frB p) (by show (blkPut p).length < _; omega)
    have hpf2 : (frB p).2.length = (blkPut p).length := rfl
    have hkl := key_len q3
    have o1 := one_len5 (n := (keyOf p).length) (by omega)
    have o2 := one_len5 (n := b.length + headN (blkPut p).length) (by omega)
    cases p with
    | nil => simp at q1
    | cons y r =>
    have hky : keyOf (y :: r) = y.1 := rfl
    rw [hky] at e2 hkl o1
    have w1 : IntKind.u64.wrap (y.1.length : Int) = y.1.length := wu64 _ (by omega) (by omega)
    have k2 := h66 [(y.1.length : Int)] (by intro u hu; simp only [List.mem_singleton] at hu; omega) (by simp)
    rw [putL_1, Int.toNat_natCast] at k2
    have w2 : IntKind.i64.wrap ((b.length : Int) + headN (blkPut (y :: r)).length) = ((b.length + headN (blkPut (y :: r)).length : Nat) : Int) := by rw [wi64 _ (by omega) (by omega)]; omega
    have w3 : IntKind.u64.wrap ((b.length + headN (blkPut (y :: r)).length : Nat) : Int) = ((b.length + headN (blkPut (y :: r)).length : Nat) : Int) := wu64 _ (by omega) (by omega)
    have k4 := h66 [((b.length + headN (blkPut (y :: r)).length : Nat) : Int)] (by intro u hu; simp only [List.mem_singleton] at hu; omega) (by simp)
    rw [putL_1, Int.toNat_natCast] at k4
    refine .inl ⟨(b ++ putF (frB (y :: r)), idx ++ (one y.1.length ++ (y.1 ++ one (b.length + headN (blkPut (y :: r)).length))), i + 1), ?_, ⟨by (try simp only); omega, by (try simp only); omega, ?_, ?_⟩, by (try simp only); omega, by first | rfl | trivial⟩
    · generalize hzz : headN (blkPut (y :: r)).length = zz at *
      generalize hBB : b.length + zz = bz at *
      simp -implicitDefEqProofs [hi, b1, g1, hcx, k1, w1, k2, k3, w2, w3, k4, hmk, k5, wi]
      repeat (refine And.intro (by (first | omega | (simp only [List.length_append, List.length_cons, List.length_nil, List.length_drop, List.length_take, BIG]; omega))) ?_)
      all_goals (first | trivial | (first | omega | (simp only [List.length_append, List.length_cons, List.length_nil, List.length_drop, List.length_take, BIG]; omega)))
    · simp only [show (i + 1).toNat = i.toNat + 1 by omega, e1]
    · simp only [show (i + 1).toNat = i.toNat + 1 by omega, e2]
  · refine .inr ?_
    rw [List.take_of_length_le (by omega)] at h3 h4
    have hfl := (goodP_flat h)
    have k6 := h1029 ps.flatten (by omega)
    have hkl : (keysOf ps.flatten).length = ps.flatten.length := by simp only [keysOf, List.length_map]
    have k7 := h1028 (keysOf ps.flatten) (by omega) (keysOf_ok hfl.1 hfl.2.2)
    have w4 : IntKind.u64.wrap (ps.flatten.length : Int) = ps.flatten.length := wu64 _ (by omega) (by omega)
    have k8 := h66 [(ps.flatten.length : Int)] (by intro u hu; simp only [List.mem_singleton] at hu; omega) (by simp)
    rw [putL_1, Int.toNat_natCast] at k8
    have hfr := tab_fr (ps := ps) (goodP_fr h) hl (by omega)
    have hft : ∀ f ∈ tailF ps ps.flatten, okF f = true := fun f hf => hfr f (List.mem_append_right _ hf)
    have k9 := h1035 (tailF ps ps.flatten) (by simp [tailF]) (fun f hf => by have := hft f hf; simp only [okF, decide_eq_true_eq] at this; omega) (tail_bytes h)
    rw [resFr_one _ hft] at k9
    have hmk : mkD FrT 3 [⟨.int .i64, 2⟩, ⟨.sl (.int .u8), idx⟩, ⟨.int .i64, 3⟩, ⟨.sl (.int .u8), sieveOf (keysOf ps.flatten)⟩, ⟨.int .i64, 4⟩, ⟨.sl (.int .u8), one ps.flatten.length⟩] = some ⟨.sl FrT, tailF ps ps.flatten⟩ := by rw [h4]; rfl
    have hlt : (putFs (tailF ps ps.flatten)).length ≤ 5000000 := by
      have f1 := hft (2, idxG 0 ps) (by simp [tailF])
      have f2 := hft (3, sieveOf (keysOf ps.flatten)) (by simp [tailF])
      have f3 := hft (4, one ps.flatten.length) (by simp [tailF])
      simp only [okF, decide_eq_true_eq] at f1 f2 f3
      have l1 : (putF (2, idxG 0 ps)).length ≤ (idxG 0 ps).length + 10 := putF_le (by show (idxG 0 ps).length < _; omega)
      have l2 : (putF (3, sieveOf (keysOf ps.flatten))).length ≤ (sieveOf (keysOf ps.flatten)).length + 10 := putF_le (by show (sieveOf (keysOf ps.flatten)).length < _; omega)
      have l3 : (putF (4, one ps.flatten.length)).length ≤ (one ps.flatten.length).length + 10 := putF_le (by show (one ps.flatten.length).length < _; omega)
      simp only [tailF, putFs, List.length_append, List.length_nil] at l1 l2 l3 ⊢
      omega
    rw [tab_split, ← h3]
    have hB : b.length + (putFs (tailF ps ps.flatten)).length ≤ BIG := by simp only [BIG]; omega
    generalize tailF ps ps.flatten = tf at *
    generalize ps.flatten = fl at *
    simp -implicitDefEqProofs [hi, k6, k7, w4, k8, hmk, k9, hB]
theorem s1020 {lc : List Ct} (hl0 : look (lc.map fun c => (c.sig.id, c)) 1020 = some c1020) : ∀ (ps : List (List It)) (h : goodP ps) (hl : ps.length ≤ 10000) (hn : ps.flatten.length ≤ 16384), Does1 (Phi lc) 1020 [⟨.sl (.sl ItT), ps⟩, ⟨.sl ItT, ps.flatten⟩] [⟨.sl (.int .u8), tabPut ps⟩] :=
  fun ps h hl hn => by
    have eFc : c1020.F = F1020 := rfl
    have eFh := f1020 ps h hl hn
    rw [← eFc] at eFh
    exact Does1.of hl0 eFh rfl
end Go.Proofs.YtolcekkcenedjaaGreat.Sx

set_option maxHeartbeats 4000000
namespace Go.Proofs.YtolcekkcenedjaaGreat.Sx

theorem f1006 (ps : List (List It)) (h : goodP ps) (hl : ps.length ≤ 10000) (hn : ps.flatten.length ≤ 16384) : F1006 [⟨.sl (.sl ItT), ps⟩] = some [⟨.sl (.int .u8), tabPut ps⟩] := by
  have h1022 := s1022 (lc := [c1022, c34, c1023, c71, c1025, c1024]) rfl
  have h34 := s34 (lc := [c1022, c34, c1023, c71, c1025, c1024]) rfl
  have h1023 := s1023 (lc := [c1022, c34, c1023, c71, c1025, c1024]) rfl
  have h71 := s71 (lc := [c1022, c34, c1023, c71, c1025, c1024]) rfl
  have h1025 := s1025 (lc := [c1022, c34, c1023, c71, c1025, c1024]) rfl
  have h1024 := s1024 (lc := [c1022, c34, c1023, c71, c1025, c1024]) rfl
  simp only [F1006, Fof, ir1006]
  generalize Phi [c1022, c34, c1023, c71, c1025, c1024] = Φ at *
  have hfl := (goodP_flat h)
  have k0 := h1022 ps (by omega) (by omega)
  generalize hfe : ps.flatten = fl at *
  simp -implicitDefEqProofs [k0]
  refine iter_meas (fun s : List (List Int) × Int => (fl.length - s.2).toNat) (fun s => ([⟨.sl (.int .u8), tabPut ps⟩] : List D)) (fun s => 0 ≤ s.2 ∧ s.2 ≤ fl.length ∧ s.1 = keysOf (fl.take s.2.toNat)) (by exact ⟨by simp, by simp, by simp [keysOf]⟩) ?_
  rintro ⟨ks, i⟩ ⟨h1, h2, h3⟩
  simp only at h1 h2 h3 ⊢
  by_cases hi : i < fl.length
  · have g1 := getG (l := fl) (d := dflt ItT) h1 (by omega)
    have g2 : fl[i.toNat]? = some (fl[i.toNat]'(by omega)) := List.getElem?_eq_getElem (by omega)
    have b1 : 0 ≤ i ∧ i < (fl.length : Int) := ⟨h1, hi⟩
    have wi : IntKind.i64.wrap (i + 1) = i + 1 := wi64 _ (by omega) (by omega)
    have hks : ks.length ≤ 16384 := by rw [h3]; simp only [keysOf, List.length_map, List.length_take]; omega
    have hB : ks.length + 1 ≤ BIG := by simp only [BIG]; omega
    generalize hcx : fl[i.toNat]'(by omega) = x at *
    refine .inl ⟨(ks ++ [x.1], i + 1), ?_, ⟨by (try simp only); omega, by (try simp only); omega, ?_⟩, by (try simp only); omega, by first | rfl | trivial⟩
    · simp -implicitDefEqProofs [hi, b1, g1, hcx, wi, hB]
    · simp only [show (i + 1).toNat = i.toNat + 1 by omega, List.take_add_one, g2, Option.toList_some, keysOf, List.map_append, List.map_cons, List.map_nil, h3]
  refine .inr ?_
  rw [List.take_of_length_le (by omega)] at h3
  subst h3
  have hkl : (keysOf fl).length = fl.length := by simp only [keysOf, List.length_map]
  have k7 := h1025 (keysOf fl) (by omega) (keysOf_ok hfl.1 hfl.2.2)
  have w4 : IntKind.u64.wrap (fl.length : Int) = fl.length := wu64 _ (by omega) (by omega)
  have k8 := h71 (fl.length : Int) (by omega)
  rw [Int.toNat_natCast] at k8
  have hfr := tab_fr (ps := ps) (goodP_fr h) hl (by rw [hfe]; omega)
  rw [hfe] at hfr
  have hft : ∀ f ∈ tailF ps fl, okF f = true := fun f hf => hfr f (List.mem_append_right _ hf)
  have htb := tail_bytes h
  rw [hfe] at htb
  have k9 := h1024 (tailF ps fl) (by simp [tailF]) (fun f hf => by have := hft f hf; simp only [okF, decide_eq_true_eq] at this; omega) (fun f hf => by have := hft f hf; simp only [okF, decide_eq_true_eq] at this; omega) htb
  have hmk : mkD FrT 3 [⟨.int .i64, 2⟩, ⟨.sl (.int .u8), idxG 0 ps⟩, ⟨.int .i64, 3⟩, ⟨.sl (.int .u8), sieveOf (keysOf fl)⟩, ⟨.int .i64, 4⟩, ⟨.sl (.int .u8), one fl.length⟩] = some ⟨.sl FrT, tailF ps fl⟩ := rfl
  have hlt : (putFs (tailF ps fl)).length ≤ 5000000 := by
    have f1 := hft (2, idxG 0 ps) (by simp [tailF])
    have f2 := hft (3, sieveOf (keysOf fl)) (by simp [tailF])
    have f3 := hft (4, one fl.length) (by simp [tailF])
    simp only [okF, decide_eq_true_eq] at f1 f2 f3
    have l1 : (putF (2, idxG 0 ps)).length ≤ (idxG 0 ps).length + 10 := putF_le (by show (idxG 0 ps).length < _; omega)
    have l2 : (putF (3, sieveOf (keysOf fl))).length ≤ (sieveOf (keysOf fl)).length + 10 := putF_le (by show (sieveOf (keysOf fl)).length < _; omega)
    have l3 : (putF (4, one fl.length)).length ≤ (one fl.length).length + 10 := putF_le (by show (one fl.length).length < _; omega)
    simp only [tailF, putFs, List.length_append, List.length_nil] at l1 l2 l3 ⊢
    omega
  have hts := tab_split ps
  rw [hfe] at hts
  rw [hts]
  generalize tailF ps fl = tf at *
  generalize sieveOf (keysOf fl) = sv at *
  simp -implicitDefEqProofs [hi, w4, k8, k7]
  refine iter_meas (fun s : List Int × List Int × Int => (ps.length - s.2.2).toNat) (fun s => (LS.out [⟨.sl (.int .u8), putFs (frBs ps) ++ putFs tf⟩] : LS (List (List Int) × Int) (List D))) (fun s => 0 ≤ s.2.2 ∧ s.2.2 ≤ ps.length ∧ s.1 = putFs (frBs (ps.take s.2.2.toNat)) ∧ s.2.1 = idxG 0 (ps.take s.2.2.toNat)) (by exact ⟨by simp, by simp, by simp [frBs, putFs], by simp [idxG]⟩) ?_
  clear h1 h2 hi
  rintro ⟨b, idx, i⟩ ⟨h1, h2, h3, h4⟩
  simp only at h1 h2 h3 h4 ⊢
  have hgt : goodP (ps.take i.toNat) := fun p hp => h p (List.mem_of_mem_take hp)
  have hbl := frBs_len _ hgt
  have hix := idx_len (ps.take i.toNat) 0 (goodP_fr hgt) (by rw [List.length_take]; omega)
  rw [List.length_take] at hbl hix
  rw [← h3] at hbl
  rw [← h4] at hix
  by_cases hi : i < ps.length
  · have g1 := getG (l := ps) (d := dflt (.sl ItT)) h1 (by omega)
    have g2 : ps[i.toNat]? = some (ps[i.toNat]'(by omega)) := List.getElem?_eq_getElem (by omega)
    have b1 : 0 ≤ i ∧ i < (ps.length : Int) := ⟨h1, hi⟩
    have wi : IntKind.i64.wrap (i + 1) = i + 1 := wi64 _ (by omega) (by omega)
    have hg := h _ (List.getElem_mem (l := ps) (n := i.toNat) (by omega))
    obtain ⟨e1, e2⟩ := idx_step ps i.toNat _ g2
    rw [← h3, ← h4] at e2
    rw [← h3] at e1
    generalize hcx : ps[i.toNat]'(by omega) = p at *
    obtain ⟨q1, q2, q3, q4, q5⟩ := hg
    have hpb := blk_len q2 q3
    have k1 : Does1 Φ 34 [⟨.sl ItT, p⟩] [⟨.sl (.int .u8), blkPut p⟩] := h34 p q2 q3 q4
    have hhr := headN_r (n := (blkPut p).length) (by omega)
    have k5 : Does1 Φ 1023 [⟨.int .i64, 1⟩, ⟨.sl (.int .u8), blkPut p⟩] [⟨.sl (.int .u8), putF (frB p)⟩] := h1023 1 (blkPut p) (by omega) (by omega) (blk_bytes q5) (by omega)
    have hpf : (putF (frB p)).length = (one (blkPut p).length).length + 1 + (blkPut p).length + 4 := putF_len (frB p)
    have hkl := key_len q3
    have o1 := one_len5 (n := (keyOf p).length) (by omega)
    have hhd : headN (blkPut p).length = (one (blkPut p).length).length + 1 := rfl
    have o2 := one_len5 (n := b.length + headN (blkPut p).length) (by omega)
    cases p with
    | nil => simp at q1
    | cons y r =>
    have hky : keyOf (y :: r) = y.1 := rfl
    rw [hky] at e2 hkl o1
    have w1 : IntKind.u64.wrap (y.1.length : Int) = y.1.length := wu64 _ (by omega) (by omega)
    have k2 := h71 (y.1.length : Int) (by omega)
    rw [Int.toNat_natCast] at k2
    generalize hbp : blkPut (y :: r) = bp at *
    generalize hpp : putF (frB (y :: r)) = pp at *
    have w2 : IntKind.i64.wrap ((b.length : Int) + pp.length) = b.length + pp.length := wi64 _ (by omega) (by omega)
    have w3 : IntKind.i64.wrap ((b.length : Int) + pp.length - 4) = b.length + pp.length - 4 := wi64 _ (by omega) (by omega)
    have w5 : IntKind.i64.wrap ((b.length : Int) + pp.length - 4 - bp.length) = ((b.length + headN bp.length : Nat) : Int) := by rw [wi64 _ (by omega) (by omega)]; omega
    have w6 : IntKind.u64.wrap ((b.length + headN bp.length : Nat) : Int) = ((b.length + headN bp.length : Nat) : Int) := wu64 _ (by omega) (by omega)
    have k4 := h71 ((b.length + headN bp.length : Nat) : Int) (by omega)
    rw [Int.toNat_natCast] at k4
    generalize hzz : headN bp.length = zz at *
    generalize hBB : b.length + zz = bz at *
    refine .inl ⟨(b ++ pp, idx ++ (one y.1.length ++ (y.1 ++ one bz)), i + 1), ?_, ⟨by (try simp only); omega, by (try simp only); omega, ?_, ?_⟩, by (try simp only); omega, by first | rfl | trivial⟩
    · simp -implicitDefEqProofs [hi, b1, g1, hcx, k1, w1, k2, w2, w3, w5, w6, k4, k5, wi]
      repeat (refine And.intro (by (first | omega | (simp only [List.length_append, List.length_cons, List.length_nil, List.length_drop, List.length_take, BIG]; omega))) ?_)
      all_goals (first | trivial | (first | omega | (simp only [List.length_append, List.length_cons, List.length_nil, List.length_drop, List.length_take, BIG]; omega)))
    · simp only [show (i + 1).toNat = i.toNat + 1 by omega, e1]
    · simp only [show (i + 1).toNat = i.toNat + 1 by omega, e2]
  · refine .inr ?_
    rw [List.take_of_length_le (by omega)] at h3 h4
    rw [← h4] at hmk
    rw [← h3]
    have hB : b.length + (putFs tf).length ≤ BIG := by simp only [BIG]; omega
    simp -implicitDefEqProofs [hi, hmk, k9, hB]
theorem s1006 {lc : List Ct} (hl0 : look (lc.map fun c => (c.sig.id, c)) 1006 = some c1006) : ∀ (ps : List (List It)) (h : goodP ps) (hl : ps.length ≤ 10000) (hn : ps.flatten.length ≤ 16384), Does1 (Phi lc) 1006 [⟨.sl (.sl ItT), ps⟩] [⟨.sl (.int .u8), tabPut ps⟩] :=
  fun ps h hl hn => by
    have eFc : c1006.F = F1006 := rfl
    have eFh := f1006 ps h hl hn
    rw [← eFc] at eFh
    exact Does1.of hl0 eFh rfl
theorem parted_good {size : Int} {l : List It} (hs : srt none l = true) (hm : sumsOk l) (hb : bytesOk l) : goodP (parted size l) := by
  intro p hp
  have hlen := parted_len size l p hp
  have hsub : ∀ x ∈ p, x ∈ l := by
    intro x hx
    rw [← parted_flat size l]
    exact List.mem_flatten.2 ⟨p, hp, hx⟩
  refine ⟨hlen.1, by omega, ?_, fun x hx => hm x (hsub x hx), fun x hx => hb x (hsub x hx)⟩
  exact srt_flat _ (by rw [parted_flat]; exact hs) p hp
theorem flat_ge : ∀ (ps : List (List It)), (∀ p ∈ ps, 1 ≤ p.length) → ps.length ≤ ps.flatten.length
  | [], _ => by simp
  | p :: ps, h => by
    have h1 := h p (by simp)
    have h2 := flat_ge ps (fun q hq => h q (by simp [hq]))
    simp only [List.flatten_cons, List.length_append, List.length_cons]; omega
theorem parted_count (size : Int) (l : List It) : (parted size l).length ≤ l.length := by
  have := flat_ge (parted size l) (fun p hp => (parted_len size l p hp).1)
  rwa [parted_flat] at this
def mayMake (l : List It) (size : Int) : Bool := decide (1 ≤ l.length ∧ l.length ≤ 16384) && decide (1 ≤ size ∧ size ≤ 65536) && srt none l
def resMk (l : List It) (size : Int) : List D := if mayMake l size = true then [⟨.sl (.int .u8), tabPut (parted size l)⟩, ⟨.int .i64, 0⟩] else [⟨.sl (.int .u8), []⟩, ⟨.int .i64, 1⟩]
theorem f1005 (l : List It) (size : Int) (hl : l.length ≤ 10000) (hm : sumsOk l) (hb : bytesOk l) : F1005 [⟨.sl ItT, l⟩, ⟨.int .i64, size⟩] = some (resMk l size) := by
  have h75 := s75 (lc := [c75, c1021, c1020]) rfl
  have h1021 := s1021 (lc := [c75, c1021, c1020]) rfl
  have h1020 := s1020 (lc := [c75, c1021, c1020]) rfl
  simp only [F1005, Fof, ir1005]
  generalize Phi [c75, c1021, c1020] = Φ at *
  have k1 := h75 l (by omega)
  have c2 : ¬ 16384 < (l.length : Int) := by omega
  unfold resMk mayMake
  by_cases c1 : (l.length : Int) < 1
  · have c1' : ¬ (1 ≤ l.length ∧ l.length ≤ 16384) := by omega
    have c1'' : l.length = 0 := by omega
    simp -implicitDefEqProofs [c1, c1', c1'']
  by_cases c3 : size < 1
  · have c3' : ¬ (1 ≤ size ∧ size ≤ 65536) := by omega
    have c1' : ¬ l.length < 1 := by omega
    simp -implicitDefEqProofs [c1, c1', c2, c3, c3']
  by_cases c4 : 65536 < size
  · have c4' : ¬ (1 ≤ size ∧ size ≤ 65536) := by omega
    have c1' : ¬ l.length < 1 := by omega
    simp -implicitDefEqProofs [c1, c1', c2, c3, c4, c4']
  cases hs : srt none l <;> rw [hs] at k1
  · simp -implicitDefEqProofs [c1, c2, c3, c4, k1]
  have k2 := h1021 l size (by omega) hs
  have hpc := parted_count size l
  have k3 := h1020 (parted size l) (parted_good hs hm hb) (by omega) (by rw [parted_flat]; omega)
  rw [parted_flat] at k3
  have c5 : (1 ≤ l.length ∧ l.length ≤ 16384) ∧ 1 ≤ size ∧ size ≤ 65536 := by omega
  simp -implicitDefEqProofs [c1, c2, c3, c4, k1, k2, k3, c5]
theorem s1005 {lc : List Ct} (hl0 : look (lc.map fun c => (c.sig.id, c)) 1005 = some c1005) : ∀ (l : List It) (size : Int) (hl : l.length ≤ 10000) (hm : sumsOk l) (hb : bytesOk l), Does1 (Phi lc) 1005 [⟨.sl ItT, l⟩, ⟨.int .i64, size⟩] (resMk l size) :=
  fun l size hl hm hb => by
    have eFc : c1005.F = F1005 := rfl
    have eFh := f1005 l size hl hm hb
    rw [← eFc] at eFh
    exact Does1.of hl0 eFh (by unfold resMk; split <;> rfl)
end Go.Proofs.YtolcekkcenedjaaGreat.Sx

namespace Go.Proofs.YtolcekkcenedjaaGreat.Sx
def cmpL (x y : List Int) : Int := if ltL x y then -1 else if x = y then 0 else 1

def F138 : List D → Option (List D)
  | [⟨.str, x⟩, ⟨.str, y⟩] => some [⟨.int .i64, cmpL x y⟩]
  | _ => none
def sig138 : Sig := ⟨138, [(false, .str), (false, .str)], [(false, [(.int .i64, none)])]⟩
def c138 : Ct := ⟨sig138, F138⟩
theorem s138 {lc : List Ct} (hl0 : look (lc.map fun c => (c.sig.id, c)) 138 = some c138) : ∀ (x y : List Int), Does1 (Phi lc) 138 [⟨.str, x⟩, ⟨.str, y⟩] [⟨.int .i64, cmpL x y⟩] :=
  fun x y => Does1.of hl0 rfl rfl
theorem cmpL_wf (x y : List Int) : IntKind.i64.min ≤ cmpL x y ∧ cmpL x y ≤ IntKind.i64.max := by
  unfold cmpL
  split
  · decide
  · split <;> decide
abbrev MkT : Ty := .pair .str (.sl (.int .u8))
abbrev TblT : Ty := .pair (.pair (.sl MkT) (.pair (.sl (.int .u8)) (.pair (.int .i64) .str))) .bool
abbrev Mk : Type := List Int × List Int
abbrev Tbl : Type := (List Mk × List Int × Int × List Int) × Bool
end Go.Proofs.YtolcekkcenedjaaGreat.Sx

namespace Go.Proofs.YtolcekkcenedjaaGreat.Sx
def sig1008 : Sig := { id := 1008, ins := [(false, (Ty.int .u8).sl)], outs := [(false, [(TblT.pt, none)]), (false, [(Ty.int .i64, none)])] }
def ir1008 : IR := .op (.call 1027) [.v 0] (.op .len [.v 1] (.loop [.l (.nil ItT.sl), .l (.nil ItT), .l (.int .i64 0), .l (.nil MkT)] [ItT.sl.sl, ItT.sl, Ty.int .i64, MkT.sl] (.op (.icmp .lss) [.v 7, .v 4] (.ite (.v 9) (.op .inb [.v 1, .v 7] (.op (.idx ((Ty.int .i64).pair (Ty.int .u8).sl)) [.v 1, .v 7] (.op (.icmp .neq) [.v 10, .l (.int .i64 1)] (.ite (.v 12) (.op .len [.v 0] (.op (.icmp .neq) [.v 3, .v 13] (.ite (.v 14) (.ret [.l (L.np TblT), .l (.int .i64 2)]) (.op .len [.v 6] (.op (.icmp .lss) [.v 15, .l (.int .i64 1)] (.ite (.v 16) (.ret [.l (L.np TblT), .l (.int .i64 2)]) (.op .len [.v 6] (.op (.icmp .gtr) [.v 17, .l (.int .i64 16384)] (.ite (.v 18) (.ret [.l (L.np TblT), .l (.int .i64 2)]) (.op (.call 75) [.v 6] (.op .not [.v 19] (.ite (.v 20) (.ret [.l (L.np TblT), .l (.int .i64 2)]) (.op (.call 1020) [.v 5, .v 6] (.op (.call 67) [.v 21, .v 0] (.op .not [.v 22] (.ite (.v 23) (.ret [.l (L.np TblT), .l (.int .i64 2)]) (.op (.call 1029) [.v 6] (.op (.call 1028) [.v 24] (.op .len [.v 6] (.op .len [.v 6] (.op (.ibin .sub .i64) [.v 27, .l (.int .i64 1)] (.op .inb [.v 6, .v 28] (.op (.idx ItT) [.v 6, .v 28] (.op (.mkp TblT) [.v 8, .v 25, .v 26, .v 29, .l (.bool true)] (.ret [.v 37, .l (.int .i64 0)]))))))))))))))))))))))))) (.op (.call 47) [.v 11] (.op (.icmp .neq) [.v 14, .l (.int .i64 0)] (.ite (.v 15) (.ret [.l (L.np TblT), .v 14]) (.op (.mk ItT.sl 1) [.v 13] (.op .app [.v 5, .v 16] (.op .app [.v 6, .v 13] (.op .inb [.v 13, .l (.int .i64 0)] (.op (.idx ItT) [.v 13, .l (.int .i64 0)] (.op (.mk MkT 1) [.v 19, .v 11] (.op .app [.v 8, .v 27] (.op (.ibin .add .i64) [.v 7, .l (.int .i64 1)] (.jump 0 [.v 17, .v 18, .v 29, .v 28])))))))))))))))) (.op .len [.v 0] (.op (.icmp .neq) [.v 3, .v 10] (.ite (.v 11) (.ret [.l (L.np TblT), .l (.int .i64 2)]) (.op .len [.v 6] (.op (.icmp .lss) [.v 12, .l (.int .i64 1)] (.ite (.v 13) (.ret [.l (L.np TblT), .l (.int .i64 2)]) (.op .len [.v 6] (.op (.icmp .gtr) [.v 14, .l (.int .i64 16384)] (.ite (.v 15) (.ret [.l (L.np TblT), .l (.int .i64 2)]) (.op (.call 75) [.v 6] (.op .not [.v 16] (.ite (.v 17) (.ret [.l (L.np TblT), .l (.int .i64 2)]) (.op (.call 1020) [.v 5, .v 6] (.op (.call 67) [.v 18, .v 0] (.op .not [.v 19] (.ite (.v 20) (.ret [.l (L.np TblT), .l (.int .i64 2)]) (.op (.call 1029) [.v 6] (.op (.call 1028) [.v 21] (.op .len [.v 6] (.op .len [.v 6] (.op (.ibin .sub .i64) [.v 24, .l (.int .i64 1)] (.op .inb [.v 6, .v 25] (.op (.idx ItT) [.v 6, .v 25] (.op (.mkp TblT) [.v 8, .v 22, .v 23, .v 26, .l (.bool true)] (.ret [.v 34, .l (.int .i64 0)])))))))))))))))))))))))))))))
def sig1010 : Sig := { id := 1010, ins := [(false, TblT.pt)], outs := [(false, [(Ty.int .i64, none)])] }
def ir1010 : IR := .op (.isp false) [.v 0] (.ite (.v 1) (.ret [.l (.int .i64 0)]) (.op .npp [.v 0] (.op (.pod TblT) [.v 0] (.ret [.v 4]))))
def sig1014 : Sig := { id := 1014, ins := [(false, TblT.pt), (false, Ty.str), (false, Ty.str), (false, Ty.int .i64)], outs := [(false, [(ItT.sl, some 44)])] }
def ir1014 : IR := .op (.isp false) [.v 0] (.ite (.v 4) (.ret [.l (.nil ItT)]) (.op .npp [.v 0] (.op (.pod TblT) [.v 0] (.op .not [.v 9] (.ite (.v 10) (.ret [.l (.nil ItT)]) (.op .npp [.v 0] (.op (.pod TblT) [.v 0] (.op .len [.v 11] (.loop [.l (.int .i64 0), .v 16] [Ty.int .i64, Ty.int .i64] (.op (.icmp .lss) [.v 17, .v 18] (.ite (.v 19) (.op (.ibin .add .i64) [.v 17, .v 18] (.op (.conv .u64) [.v 20] (.op (.ibin .shr .u64) [.v 21, .l (.int .u64 1)] (.op (.conv .i64) [.v 22] (.op .inb [.v 11, .v 23] (.op (.idx MkT) [.v 11, .v 23] (.op (.call 138) [.v 24, .v 1] (.op (.icmp .lss) [.v 26, .l (.int .i64 0)] (.ite (.v 27) (.op (.ibin .add .i64) [.v 23, .l (.int .i64 1)] (.jump 0 [.v 28, .v 18])) (.jump 0 [.v 17, .v 23])))))))))) (.op (.icmp .lss) [.v 17, .v 16] (.ite (.v 20) (.op .inb [.v 11, .v 17] (.op (.idx MkT) [.v 11, .v 17] (.op (.call 138) [.v 21, .v 1] (.op (.icmp .eql) [.v 23, .l (.int .i64 0)] (.ite (.v 24) (.op .max [.v 17, .l (.int .i64 0)] (.loop [.l (.nil ItT), .v 25] [ItT.sl, Ty.int .i64] (.op .npp [.v 0] (.op (.pod TblT) [.v 0] (.op .len [.v 28] (.op (.icmp .lss) [.v 27, .v 33] (.ite (.v 34) (.op .len [.v 26] (.op (.icmp .lss) [.v 35, .v 3] (.ite (.v 36) (.op .npp [.v 0] (.op (.pod TblT) [.v 0] (.op .inb [.v 37, .v 27] (.op (.idx MkT) [.v 37, .v 27] (.op (.call 47) [.v 43] (.op .len [.v 44] (.loop [.v 26, .l (.int .i64 0)] [ItT.sl, Ty.int .i64] (.op (.icmp .lss) [.v 48, .v 46] (.ite (.v 49) (.op .inb [.v 44, .v 48] (.op (.idx ItT) [.v 44, .v 48] (.op (.scmp .neq) [.v 2, .l (.str [])] (.ite (.v 58) (.op (.scmp .geq) [.v 50, .v 2] (.ite (.v 59) (.ret [.v 47]) (.op .len [.v 47] (.op (.icmp .geq) [.v 60, .v 3] (.ite (.v 61) (.ret [.v 47]) (.op (.scmp .geq) [.v 50, .v 1] (.ite (.v 62) (.op (.mk ItT 1) [.v 50, .v 51, .v 52, .v 53, .v 54, .v 55, .v 56, .v 57] (.op .app [.v 47, .v 63] (.op (.ibin .add .i64) [.v 48, .l (.int .i64 1)] (.jump 2 [.v 64, .v 65])))) (.op (.ibin .add .i64) [.v 48, .l (.int .i64 1)] (.jump 2 [.v 47, .v 63]))))))))) (.op .len [.v 47] (.op (.icmp .geq) [.v 59, .v 3] (.ite (.v 60) (.ret [.v 47]) (.op (.scmp .geq) [.v 50, .v 1] (.ite (.v 61) (.op (.mk ItT 1) [.v 50, .v 51, .v 52, .v 53, .v 54, .v 55, .v 56, .v 57] (.op .app [.v 47, .v 62] (.op (.ibin .add .i64) [.v 48, .l (.int .i64 1)] (.jump 2 [.v 63, .v 64])))) (.op (.ibin .add .i64) [.v 48, .l (.int .i64 1)] (.jump 2 [.v 47, .v 62]))))))))))) (.op (.ibin .add .i64) [.v 27, .l (.int .i64 1)] (.jump 1 [.v 47, .v 50]))))))))))) (.ret [.v 26])))) (.ret [.v 26])))))))) (.op (.ibin .sub .i64) [.v 17, .l (.int .i64 1)] (.op .max [.v 25, .l (.int .i64 0)] (.loop [.l (.nil ItT), .v 26] [ItT.sl, Ty.int .i64] (.op .npp [.v 0] (.op (.pod TblT) [.v 0] (.op .len [.v 29] (.op (.icmp .lss) [.v 28, .v 34] (.ite (.v 35) (.op .len [.v 27] (.op (.icmp .lss) [.v 36, .v 3] (.ite (.v 37) (.op .npp [.v 0] (.op (.pod TblT) [.v 0] (.op .inb [.v 38, .v 28] (.op (.idx MkT) [.v 38, .v 28] (.op (.call 47) [.v 44] (.op .len [.v 45] (.loop [.v 27, .l (.int .i64 0)] [ItT.sl, Ty.int .i64] (.op (.icmp .lss) [.v 49, .v 47] (.ite (.v 50) (.op .inb [.v 45, .v 49] (.op (.idx ItT) [.v 45, .v 49] (.op (.scmp .neq) [.v 2, .l (.str [])] (.ite (.v 59) (.op (.scmp .geq) [.v 51, .v 2] (.ite (.v 60) (.ret [.v 48]) (.op .len [.v 48] (.op (.icmp .geq) [.v 61, .v 3] (.ite (.v 62) (.ret [.v 48]) (.op (.scmp .geq) [.v 51, .v 1] (.ite (.v 63) (.op (.mk ItT 1) [.v 51, .v 52, .v 53, .v 54, .v 55, .v 56, .v 57, .v 58] (.op .app [.v 48, .v 64] (.op (.ibin .add .i64) [.v 49, .l (.int .i64 1)] (.jump 2 [.v 65, .v 66])))) (.op (.ibin .add .i64) [.v 49, .l (.int .i64 1)] (.jump 2 [.v 48, .v 64]))))))))) (.op .len [.v 48] (.op (.icmp .geq) [.v 60, .v 3] (.ite (.v 61) (.ret [.v 48]) (.op (.scmp .geq) [.v 51, .v 1] (.ite (.v 62) (.op (.mk ItT 1) [.v 51, .v 52, .v 53, .v 54, .v 55, .v 56, .v 57, .v 58] (.op .app [.v 48, .v 63] (.op (.ibin .add .i64) [.v 49, .l (.int .i64 1)] (.jump 2 [.v 64, .v 65])))) (.op (.ibin .add .i64) [.v 49, .l (.int .i64 1)] (.jump 2 [.v 48, .v 63]))))))))))) (.op (.ibin .add .i64) [.v 28, .l (.int .i64 1)] (.jump 1 [.v 48, .v 51]))))))))))) (.ret [.v 27])))) (.ret [.v 27])))))))))))))) (.op (.ibin .sub .i64) [.v 17, .l (.int .i64 1)] (.op .max [.v 21, .l (.int .i64 0)] (.loop [.l (.nil ItT), .v 22] [ItT.sl, Ty.int .i64] (.op .npp [.v 0] (.op (.pod TblT) [.v 0] (.op .len [.v 25] (.op (.icmp .lss) [.v 24, .v 30] (.ite (.v 31) (.op .len [.v 23] (.op (.icmp .lss) [.v 32, .v 3] (.ite (.v 33) (.op .npp [.v 0] (.op (.pod TblT) [.v 0] (.op .inb [.v 34, .v 24] (.op (.idx MkT) [.v 34, .v 24] (.op (.call 47) [.v 40] (.op .len [.v 41] (.loop [.v 23, .l (.int .i64 0)] [ItT.sl, Ty.int .i64] (.op (.icmp .lss) [.v 45, .v 43] (.ite (.v 46) (.op .inb [.v 41, .v 45] (.op (.idx ItT) [.v 41, .v 45] (.op (.scmp .neq) [.v 2, .l (.str [])] (.ite (.v 55) (.op (.scmp .geq) [.v 47, .v 2] (.ite (.v 56) (.ret [.v 44]) (.op .len [.v 44] (.op (.icmp .geq) [.v 57, .v 3] (.ite (.v 58) (.ret [.v 44]) (.op (.scmp .geq) [.v 47, .v 1] (.ite (.v 59) (.op (.mk ItT 1) [.v 47, .v 48, .v 49, .v 50, .v 51, .v 52, .v 53, .v 54] (.op .app [.v 44, .v 60] (.op (.ibin .add .i64) [.v 45, .l (.int .i64 1)] (.jump 2 [.v 61, .v 62])))) (.op (.ibin .add .i64) [.v 45, .l (.int .i64 1)] (.jump 2 [.v 44, .v 60]))))))))) (.op .len [.v 44] (.op (.icmp .geq) [.v 56, .v 3] (.ite (.v 57) (.ret [.v 44]) (.op (.scmp .geq) [.v 47, .v 1] (.ite (.v 58) (.op (.mk ItT 1) [.v 47, .v 48, .v 49, .v 50, .v 51, .v 52, .v 53, .v 54] (.op .app [.v 44, .v 59] (.op (.ibin .add .i64) [.v 45, .l (.int .i64 1)] (.jump 2 [.v 60, .v 61])))) (.op (.ibin .add .i64) [.v 45, .l (.int .i64 1)] (.jump 2 [.v 44, .v 59]))))))))))) (.op (.ibin .add .i64) [.v 24, .l (.int .i64 1)] (.jump 1 [.v 44, .v 47]))))))))))) (.ret [.v 23])))) (.ret [.v 23]))))))))))))))))))))))
def sig1009 : Sig := { id := 1009, ins := [(false, TblT.pt)], outs := [(false, [(ItT.sl, some 44)])] }
def ir1009 : IR := .op (.call 1010) [.v 0] (.op (.call 1014) [.v 0, .l (.str []), .l (.str []), .v 1] (.ret [.v 2]))
noncomputable def F1008 : List D → Option (List D) := Fof [c1027, c75, c1020, c67, c1029, c1028, c47] ir1008
noncomputable def c1008 : Ct := ⟨sig1008, F1008⟩
noncomputable def F1010 : List D → Option (List D) := Fof [] ir1010
noncomputable def c1010 : Ct := ⟨sig1010, F1010⟩
noncomputable def F1014 : List D → Option (List D) := Fof [c138, c47] ir1014
noncomputable def c1014 : Ct := ⟨sig1014, F1014⟩
noncomputable def F1009 : List D → Option (List D) := Fof [c1010, c1014] ir1009
noncomputable def c1009 : Ct := ⟨sig1009, F1009⟩
end Go.Proofs.YtolcekkcenedjaaGreat.Sx

set_option maxHeartbeats 8000000
namespace Go.Proofs.YtolcekkcenedjaaGreat.Sx
section
variable {Φ : Nat → Cont} {R : Type} {lv n : Nat} {ρ : List (Nat × D)} {kr : List D → Option R} {kj : Nat → List D → Option R} {k : IR}
@[simp] theorem mkp_tbl (a : List Mk) (b : List Int) (m : Int) (s : List Int) (c : Bool) : mkpD TblT [⟨.sl MkT, a⟩, ⟨.sl (.int .u8), b⟩, ⟨.int .i64, m⟩, ⟨.str, s⟩, ⟨.bool, c⟩] = some ⟨.pt TblT, some (α := Tbl) (((a, b, m, s), c) : Tbl)⟩ := rfl
@[simp] theorem d_np_tbl : (L.np TblT).d = ⟨.pt TblT, (none : Option Tbl)⟩ := rfl
@[simp] theorem o_pod_tbl (a : List Mk) (b : List Int) (m : Int) (s : List Int) (c : Bool) : opD Φ (.pod TblT) [⟨.pt TblT, some (α := Tbl) (((a, b, m, s), c) : Tbl)⟩] k R lv n ρ kr kj =
    debP Φ k R lv n ρ [⟨.sl MkT, a⟩, ⟨.sl (.int .u8), b⟩, ⟨.int .i64, m⟩, ⟨.str, s⟩, ⟨.bool, c⟩] kr kj := o_pod TblT _
@[simp] theorem mk_mark (a b : List Int) : mkD MkT 1 [⟨.str, a⟩, ⟨.sl (.int .u8), b⟩] = some ⟨.sl MkT, ([(a, b)] : List Mk)⟩ := rfl
end

def marksOf (ps : List (List It)) : List Mk := ps.map fun p => (keyOf p, blkPut p)
def lastKey (l : List It) : List Int := (l.getLast?.map (·.1)).getD []
def tblOf (ps : List (List It)) : Tbl := ((marksOf ps, sieveOf (keysOf ps.flatten), (ps.flatten.length : Int), lastKey ps.flatten), true)
def resO : Option (List (List It)) → List D
  | some ps => [⟨.pt TblT, some (tblOf ps)⟩, ⟨.int .i64, 0⟩]
  | none => [⟨.pt TblT, (none : Option Tbl)⟩, ⟨.int .i64, 2⟩]
def finO (b : List Int) (all : List (List It)) : Option (List (List It)) → List D
  | some ps => resO (if tabOk (all ++ ps) b = true then some (all ++ ps) else none)
  | none => resO none

theorem putC_bytes_inv {far : Bool} {b : List Int} {s a n m : Int} (h : cErr far b s a n m = 0) (hb : ∀ c ∈ putC far b s a n m, 0 ≤ c ∧ c < 256) : ∀ c ∈ b, 0 ≤ c ∧ c < 256 := by
  cases far
  · intro c hc
    refine hb c ?_
    simp [putC, hc]
  · have : b = [] := by
      unfold cErr at h
      rw [if_pos rfl] at h
      split at h
      · cases h
      · exact List.length_eq_zero_iff.1 (by omega)
    subst this
    intro c hc; cases hc
theorem encL_bytes_inv : ∀ (l : List It) (last : List Int), (∀ x ∈ l, itErr x = 0) → (∀ c ∈ last, 0 ≤ c ∧ c < 256) → (∀ c ∈ encL last l, 0 ≤ c ∧ c < 256) → bytesOk l
  | [], _, _, _, _, x, hx => by cases hx
  | y :: l, last, he, hl, hb, x, hx => by
    simp only [encL, List.mem_append] at hb
    have h1 : ∀ c ∈ encI last y, 0 ≤ c ∧ c < 256 := fun c hc => hb c (.inl hc)
    obtain ⟨k, d, f, b, s, a, n, m⟩ := y
    have hy := he _ List.mem_cons_self
    simp only [itErr] at hy
    obtain ⟨q1, q2, q3⟩ := iErr_ok hy
    have hk : ∀ c ∈ k, 0 ≤ c ∧ c < 256 := by
      intro c hc
      rw [← List.take_append_drop (alike last k) k, ← alike_take] at hc
      rcases List.mem_append.1 hc with hc | hc
      · exact hl c (List.mem_of_mem_take hc)
      · exact h1 c (by simp only [encI, List.mem_append]; exact .inr (.inl hc))
    have hbb : ∀ c ∈ b, 0 ≤ c ∧ c < 256 := by
      cases d
      · refine putC_bytes_inv q3 (fun c hc => h1 c ?_)
        simp only [encI, List.mem_append]
        right; right; simp [hc]
      · have hz : f = false ∧ b = [] ∧ s = 0 ∧ a = 0 ∧ n = 0 ∧ m = 0 := by
          unfold iErr at hy
          split at hy
          · cases hy
          · rename_i hn
            exact Decidable.not_not.1 (fun h => hn (.inr (.inr ⟨rfl, h⟩)))
        rw [hz.2.1]; intro c hc; cases hc
    rcases List.mem_cons.1 hx with rfl | hx
    · exact ⟨hk, hbb⟩
    · exact encL_bytes_inv l k (fun z hz => he z (List.mem_cons_of_mem _ hz)) hk (fun c hc => hb c (.inr hc)) x hx
theorem blkGet_good {b : List Int} (hb : ∀ c ∈ b, 0 ≤ c ∧ c < 256) {p : List It} (h : blkGet b = some p) : b = blkPut p ∧ 1 ≤ p.length ∧ p.length ≤ 256 ∧ srt none p = true ∧ sumsOk p ∧ bytesOk p := by
  obtain ⟨h1, h2, h3, h4, h5⟩ := blkGet_inv hb h
  refine ⟨h1, h2, h3, h4, h5, encL_bytes_inv p [] (srt_ok none p h4) (by intro c hc; cases hc) (fun c hc => hb c ?_)⟩
  rw [h1]; exact List.mem_append_right _ hc
theorem scan_bytes {b : List Int} (hb : ∀ c ∈ b, 0 ≤ c ∧ c < 256) : ∀ f ∈ scanF b, (∀ c ∈ f.2, 0 ≤ c ∧ c < 256) ∧ okF f = true := by
  obtain ⟨r, e1, e2, e3⟩ := scanF_spec b hb
  have key : ∀ (l : List Fr) (f : Fr), f ∈ l → ∀ c ∈ f.2, c ∈ putFs l := by
    intro l
    induction l with
    | nil => intro f hf; cases hf
    | cons g l ih =>
      intro f hf c hc
      simp only [putFs, List.mem_append]
      rcases List.mem_cons.1 hf with rfl | hf
      · left; simp [putF, hc]
      · right; exact ih f hf c hc
  intro f hf
  refine ⟨fun c hc => hb c ?_, e3 f hf⟩
  rw [e1]; exact List.mem_append_left _ (key _ f hf c hc)
theorem putFs_len6 (l : List Fr) : 6 * l.length ≤ (putFs l).length := by
  induction l with
  | nil => simp
  | cons f l ih => simp only [putFs, List.length_cons, List.length_append]; have := putF_pos f; omega
theorem scan_len {b : List Int} (hb : ∀ c ∈ b, 0 ≤ c ∧ c < 256) : 6 * (scanF b).length ≤ b.length ∧ (putFs (scanF b)).length ≤ b.length := by
  obtain ⟨r, e1, e2, e3⟩ := scanF_spec b hb
  have := putFs_len6 (scanF b)
  have h2 := congrArg List.length e1
  rw [List.length_append] at h2
  omega

end Go.Proofs.YtolcekkcenedjaaGreat.Sx

set_option maxHeartbeats 8000000
namespace Go.Proofs.YtolcekkcenedjaaGreat.Sx
attribute [local simp] mkp_tbl d_np_tbl o_pod_tbl mk_mark

theorem putL_pos2 (a b : Int) : 1 ≤ (putL [a, b]).length := by
  have := one_pos a.toNat
  simp only [putL, List.map_cons, List.map_nil, List.flatten_cons, List.length_append]; omega
theorem enc_ge : ∀ (l : List It) (last : List Int), l.length ≤ (encL last l).length
  | [], _ => by simp
  | x :: l, last => by
    have h1 := putL_pos2 (alike last x.1 : Int) ((x.1.length : Int) - alike last x.1)
    have h2 := enc_ge l x.1
    simp only [encL, encI, List.length_append, List.length_cons] at h1 h2 ⊢
    omega
theorem blk_ge (p : List It) : p.length ≤ (blkPut p).length := by
  have := enc_ge p []
  simp only [blkPut, List.length_append]; omega
theorem putFs_take : ∀ (l : List Fr) (i : Nat), (putFs (l.take i)).length ≤ (putFs l).length
  | [], i => by simp
  | f :: l, 0 => by simp [putFs]
  | f :: l, i + 1 => by
    have := putFs_take l i
    simp only [List.take_succ_cons, putFs, List.length_append]; omega
theorem tab_end {ps : List (List It)} {b : List Int} (h : goodP ps) (hl : ps.length ≤ 10000) (ht : tabOk ps b = true) : (putFs (scanF b)).length = b.length := by
  simp only [tabOk, Bool.and_eq_true, decide_eq_true_eq] at ht
  have hfr := tab_fr (ps := ps) (goodP_fr h) hl (by omega)
  have h3 := scanF_put (r := []) hfr firstF_nil
  rw [List.append_nil] at h3
  have e : b = putFs (frBs ps ++ tailF ps ps.flatten) := ht.2.symm
  rw [e, h3]
theorem lastKey_eq {l : List It} (h : 1 ≤ l.length) : (l[l.length - 1]?.getD (dflt ItT)).1 = lastKey l := by
  unfold lastKey
  rw [List.getLast?_eq_getElem?, List.getElem?_eq_getElem (by omega)]
  rfl
theorem resO_open (b : List Int) : resO (openT b) = finO b [] (partsB (scanF b)) := by
  unfold openT finO
  cases partsB (scanF b) with
  | none => rfl
  | some ps => rfl
theorem finO_step (b : List Int) (all : List (List It)) (p : List It) (o : Option (List (List It))) : finO b (all ++ [p]) o = finO b all (match o with | none => none | some ps => some (p :: ps)) := by
  cases o with
  | none => rfl
  | some ps => simp [finO]

theorem f1008 (b : List Int) (hb : ∀ c ∈ b, 0 ≤ c ∧ c < 256) (hl : b.length ≤ 60000) : F1008 [⟨.sl (.int .u8), b⟩] = some (resO (openT b)) := by
  have h1027 := s1027 (lc := [c1027, c75, c1020, c67, c1029, c1028, c47]) rfl
  have h75 := s75 (lc := [c1027, c75, c1020, c67, c1029, c1028, c47]) rfl
  have h1020 := s1020 (lc := [c1027, c75, c1020, c67, c1029, c1028, c47]) rfl
  have h67 := s67 (lc := [c1027, c75, c1020, c67, c1029, c1028, c47]) rfl
  have h1029 := s1029 (lc := [c1027, c75, c1020, c67, c1029, c1028, c47]) rfl
  have h1028 := s1028 (lc := [c1027, c75, c1020, c67, c1029, c1028, c47]) rfl
  have h47 := s47 (lc := [c1027, c75, c1020, c67, c1029, c1028, c47]) rfl
  simp only [F1008, Fof, ir1008]
  generalize Phi [c1027, c75, c1020, c67, c1029, c1028, c47] = Φ at *
  have k0 := h1027 b hb (by omega)
  simp only [resS, List.nil_append, Nat.zero_add] at k0
  rw [resO_open]
  have hfb := scan_bytes hb
  have hf6 := scan_len hb
  have hend := fun (ps : List (List It)) (h : goodP ps) (hl : ps.length ≤ 10000) (ht : tabOk ps b = true) => tab_end h hl ht
  generalize scanF b = fs at *
  generalize placesF 0 fs = pl at *
  simp -implicitDefEqProofs [k0]
  refine (iter_meas (fun s : List (List It) × List It × Int × List Mk => (fs.length - s.2.2.1).toNat) (fun s => finO b s.1 (partsB (fs.drop s.2.2.1.toNat))) (fun s => 0 ≤ s.2.2.1 ∧ s.2.2.1 ≤ fs.length ∧ s.2.1 = s.1.flatten ∧ s.2.2.2 = marksOf s.1 ∧ s.1.length = s.2.2.1.toNat ∧ goodP s.1 ∧ s.2.1.length ≤ (putFs (fs.take s.2.2.1.toNat)).length) (by exact ⟨by simp, by simp, by simp, by simp [marksOf], by simp, (by intro p hp; cases hp), by simp⟩) ?_).trans (by simp)
  rintro ⟨all, l, i, ms⟩ ⟨h1, h2, h3, h4, h5, h6, h7⟩
  simp only at h1 h2 h3 h4 h5 h6 h7 ⊢
  subst h4
  have hfl := flat_len all h6
  have hff := goodP_flat h6
  rw [← h3] at hfl
  have hend' := hend all h6 (by omega)
  have h8 := putFs_take fs i.toNat
  have k75 := h75 l (by omega)
  by_cases hi : i < fs.length
  · have b1 : 0 ≤ i ∧ i < (fs.length : Int) := ⟨h1, hi⟩
    have g1 := getG (l := fs) (d := dflt FrT) h1 (by omega)
    have hxm := hfb _ (List.getElem_mem (l := fs) (n := i.toNat) (by omega))
    have wi : IntKind.i64.wrap (i + 1) = i + 1 := wi64 _ (by omega) (by omega)
    rw [dropI h1 hi]
    generalize hcx : fs[i.toNat]'(by omega) = x at *
    obtain ⟨k, y⟩ := x
    simp only at hxm
    by_cases hk : k = 1
    · subst hk
      have hyl : y.length ≤ 1048576 := by have := hxm.2; simp only [okF, decide_eq_true_eq] at this; omega
      have k47 := h47 y hxm.1 (by omega)
      cases hg : blkGet y with
      | none =>
        rw [hg] at k47
        simp only [resB] at k47
        refine .inr ?_
        simp only [partsB, if_true, hg]
        simp -implicitDefEqProofs [hi, b1, g1, hcx, k47, finO, resO]
      | some p =>
        rw [hg] at k47
        simp only [resB] at k47
        obtain ⟨p0, p1, p2, p3, p4, p5⟩ := blkGet_good hxm.1 hg
        have hstep := finO_step b all p (partsB (fs.drop (i + 1).toNat))
        have hB1 : all.length + 1 ≤ BIG := by simp only [BIG]; omega
        have hB2 : l.length + p.length ≤ BIG := by simp only [BIG]; omega
        have hB3 : (marksOf all).length + 1 ≤ BIG := by simp only [BIG, marksOf, List.length_map]; omega
        refine .inl ⟨(all ++ [p], l ++ p, i + 1, marksOf all ++ [(keyOf p, y)]), ?_, ⟨by (try simp only); omega, by (try simp only); omega, by simp [h3], ?_, by simp; omega, ?_, ?_⟩, by (try simp only); omega, ?_⟩
        · cases p with
          | nil => simp at p1
          | cons z r =>
            have hkz : keyOf (z :: r) = z.1 := rfl
            simp -implicitDefEqProofs [hi, b1, g1, hcx, k47, wi, hB1, hB2, hB3, hkz]
            try (simp only [List.length_cons] at hB2; exact hB2)
        · simp only [marksOf, List.map_append, List.map_cons, List.map_nil]
          rw [← p0]
        · intro q hq
          rcases List.mem_append.1 hq with hq | hq
          · exact h6 q hq
          · simp only [List.mem_singleton] at hq
            subst hq
            exact ⟨p1, p2, p3, p4, p5⟩
        · have e : fs.take (i + 1).toNat = fs.take i.toNat ++ [(1, y)] := by
            rw [show (i + 1).toNat = i.toNat + 1 by omega, List.take_add_one, List.getElem?_eq_getElem (by omega), hcx]; rfl
          have hge := blk_ge p
          rw [← p0] at hge
          have hpf : (putF (1, y)).length = (one y.length).length + 1 + y.length + 4 := putF_len (1, y)
          simp only [e, putFs_app, putFs, List.length_append, List.append_nil]
          omega
        · simp only [partsB, if_true, hg]
          rw [hstep]
          cases partsB (fs.drop (i + 1).toNat) <;> rfl
    · refine .inr ?_
      have hpb : partsB ((k, y) :: fs.drop (i + 1).toNat) = some [] := by simp only [partsB, if_neg hk]
      rw [hpb]
      simp only [finO, List.append_nil]
      by_cases c1 : ((putFs fs).length : Int) = b.length
      rotate_left
      · have ht : tabOk all b = false := by
          cases ht : tabOk all b with
          | false => rfl
          | true => have := hend' ht; omega
        have c1' : ¬ (putFs fs).length = b.length := by omega
        simp -implicitDefEqProofs [hi, b1, g1, hcx, hk, c1, c1', ht, resO]
      by_cases c2 : (l.length : Int) < 1
      · have ht : tabOk all b = false := by
          simp only [tabOk, ← h3]
          rw [decide_eq_false (by omega)]; rfl
        have c2' : l.length = 0 := by omega
        have c2'' : l = [] := List.length_eq_zero_iff.1 c2'
        have c1' : (putFs fs).length = b.length := by omega
        simp -implicitDefEqProofs [hi, b1, g1, hcx, hk, c1, c1', c2, c2', c2'', ht, resO]
      by_cases c3 : 16384 < (l.length : Int)
      · have ht : tabOk all b = false := by
          simp only [tabOk, ← h3]
          rw [decide_eq_false (by omega)]; rfl
        have c1' : (putFs fs).length = b.length := by omega
        simp -implicitDefEqProofs [hi, b1, g1, hcx, hk, c1, c1', c2, c3, ht, resO]
      have c1' : (putFs fs).length = b.length := by omega
      cases hs : srt none l with
      | false =>
        rw [hs] at k75
        have ht : tabOk all b = false := by
          simp only [tabOk, ← h3, hs, Bool.and_false, Bool.false_and]
        simp -implicitDefEqProofs [hi, b1, g1, hcx, hk, c1, c1', c2, c3, k75, ht, resO]
      | true =>
        rw [hs] at k75
        have k20 := h1020 all h6 (by omega) (by rw [← h3]; omega)
        rw [← h3] at k20
        have k67 := h67 (tabPut all) b
        have ht : tabOk all b = decide (tabPut all = b) := by
          simp only [tabOk, ← h3, hs, Bool.and_true]
          rw [decide_eq_true (by omega), Bool.true_and]
        by_cases c4 : tabPut all = b
        · rw [decide_eq_true c4] at k67
          have k29 := h1029 l (by omega)
          rw [← h3] at hff
          have k28 := h1028 (keysOf l) (by simp only [keysOf, List.length_map]; omega) (keysOf_ok hff.1 hff.2.2)
          have wl : IntKind.i64.wrap ((l.length : Int) - 1) = l.length - 1 := wi64 _ (by omega) (by omega)
          have b2 : 0 ≤ (l.length : Int) - 1 ∧ (l.length : Int) - 1 < l.length := by omega
          have b2' : 1 ≤ (l.length : Int) := by omega
          have b2'' : 0 < l.length := by omega
          have hlk : (l[l.length - 1]'(by omega)).1 = lastKey l := by
            have := lastKey_eq (l := l) (by omega)
            rw [List.getElem?_eq_getElem (by omega)] at this
            exact this
          have hR : (if tabOk all b = true then some all else none) = some all := by rw [ht, decide_eq_true c4]; rfl
          have hlk2 := lastKey_eq (l := l) (by omega)
          rw [hR]
          simp only [resO, tblOf, ← h3]
          have b2z : ¬ l = [] := by intro e; rw [e] at b2''; simp at b2''
          generalize marksOf all = mss at *
          generalize hka : keysOf l = ka at *
          simp -implicitDefEqProofs [hi, b1, g1, hcx, hk, c1, c1', c2, c3, k75, k20, k67, k29, k28, wl, b2, b2', b2'', hlk, hlk2]
        · rw [decide_eq_false c4] at k67
          have hR : (if tabOk all b = true then some all else none) = none := by rw [ht, decide_eq_false c4]; rfl
          rw [hR]
          simp -implicitDefEqProofs [hi, b1, g1, hcx, hk, c1, c1', c2, c3, k75, k20, k67, resO]
  · refine .inr ?_
    rw [List.drop_eq_nil_of_le (by omega)]
    simp only [partsB, finO, List.append_nil]
    by_cases c1 : ((putFs fs).length : Int) = b.length
    rotate_left
    · have ht : tabOk all b = false := by
        cases ht : tabOk all b with
        | false => rfl
        | true => have := hend' ht; omega
      have c1' : ¬ (putFs fs).length = b.length := by omega
      simp -implicitDefEqProofs [hi, c1, c1', ht, resO]
    by_cases c2 : (l.length : Int) < 1
    · have ht : tabOk all b = false := by
        simp only [tabOk, ← h3]
        rw [decide_eq_false (by omega)]; rfl
      have c2' : l.length = 0 := by omega
      have c2'' : l = [] := List.length_eq_zero_iff.1 c2'
      have c1' : (putFs fs).length = b.length := by omega
      simp -implicitDefEqProofs [hi, c1, c1', c2, c2', c2'', ht, resO]
    by_cases c3 : 16384 < (l.length : Int)
    · have ht : tabOk all b = false := by
        simp only [tabOk, ← h3]
        rw [decide_eq_false (by omega)]; rfl
      have c1' : (putFs fs).length = b.length := by omega
      simp -implicitDefEqProofs [hi, c1, c1', c2, c3, ht, resO]
    have c1' : (putFs fs).length = b.length := by omega
    cases hs : srt none l with
    | false =>
      rw [hs] at k75
      have ht : tabOk all b = false := by
        simp only [tabOk, ← h3, hs, Bool.and_false, Bool.false_and]
      simp -implicitDefEqProofs [hi, c1, c1', c2, c3, k75, ht, resO]
    | true =>
      rw [hs] at k75
      have k20 := h1020 all h6 (by omega) (by rw [← h3]; omega)
      rw [← h3] at k20
      have k67 := h67 (tabPut all) b
      have ht : tabOk all b = decide (tabPut all = b) := by
        simp only [tabOk, ← h3, hs, Bool.and_true]
        rw [decide_eq_true (by omega), Bool.true_and]
      by_cases c4 : tabPut all = b
      · rw [decide_eq_true c4] at k67
        have k29 := h1029 l (by omega)
        rw [← h3] at hff
        have k28 := h1028 (keysOf l) (by simp only [keysOf, List.length_map]; omega) (keysOf_ok hff.1 hff.2.2)
        have wl : IntKind.i64.wrap ((l.length : Int) - 1) = l.length - 1 := wi64 _ (by omega) (by omega)
        have b2 : 0 ≤ (l.length : Int) - 1 ∧ (l.length : Int) - 1 < l.length := by omega
        have b2' : 1 ≤ (l.length : Int) := by omega
        have b2'' : 0 < l.length := by omega
        have hlk : (l[l.length - 1]'(by omega)).1 = lastKey l := by
          have := lastKey_eq (l := l) (by omega)
          rw [List.getElem?_eq_getElem (by omega)] at this
          exact this
        have hR : (if tabOk all b = true then some all else none) = some all := by rw [ht, decide_eq_true c4]; rfl
        have hlk2 := lastKey_eq (l := l) (by omega)
        rw [hR]
        simp only [resO, tblOf, ← h3]
        have b2z : ¬ l = [] := by intro e; rw [e] at b2''; simp at b2''
        generalize marksOf all = mss at *
        generalize hka : keysOf l = ka at *
        simp -implicitDefEqProofs [hi, c1, c1', c2, c3, k75, k20, k67, k29, k28, wl, b2, b2', b2'', hlk, hlk2]
      · rw [decide_eq_false c4] at k67
        have hR : (if tabOk all b = true then some all else none) = none := by rw [ht, decide_eq_false c4]; rfl
        rw [hR]
        simp -implicitDefEqProofs [hi, c1, c1', c2, c3, k75, k20, k67, resO]
theorem s1008 {lc : List Ct} (hl0 : look (lc.map fun c => (c.sig.id, c)) 1008 = some c1008) : ∀ (b : List Int) (hb : ∀ c ∈ b, 0 ≤ c ∧ c < 256) (hl : b.length ≤ 60000), Does1 (Phi lc) 1008 [⟨.sl (.int .u8), b⟩] (resO (openT b)) :=
  fun b hb hl => by
    have eFc : c1008.F = F1008 := rfl
    have eFh := f1008 b hb hl
    rw [← eFc] at eFh
    exact Does1.of hl0 eFh (by unfold resO; split <;> rfl)
end Go.Proofs.YtolcekkcenedjaaGreat.Sx

set_option maxHeartbeats 8000000
namespace Go.Proofs.YtolcekkcenedjaaGreat.Sx

def deadT : Option Tbl → Bool
  | some (_, true) => false
  | _ => true
def itemsT : Option Tbl → List It
  | some ((ms, _, _, _), true) => (ms.map fun m => (blkGet m.2).getD []).flatten
  | _ => []
def lenT : Option Tbl → Int
  | some ((_, _, n, _), _) => n
  | none => 0
structure TabIs (ps : List (List It)) : Prop where
  good : goodP ps
  srt : srt none ps.flatten = true
  ne : ps ≠ []
  len : ps.length ≤ 10000
  items : ps.flatten.length ≤ 16384
def TabGood (t : Option Tbl) : Prop := deadT t = true ∨ ∃ ps, t = some (tblOf ps) ∧ TabIs ps

theorem items_tbl {ps : List (List It)} (h : goodP ps) : itemsT (some (tblOf ps)) = ps.flatten := by
  unfold itemsT tblOf
  simp only
  congr 1
  rw [marksOf, List.map_map]
  conv => rhs; rw [← List.map_id ps]
  refine List.map_congr_left (fun p hp => ?_)
  obtain ⟨h1, h2, h3, h4, h5⟩ := h p hp
  show (blkGet (blkPut p)).getD [] = p
  rw [blkPut, blkGet_enc h1 h2 h3 h4]
  rfl

theorem ltL_irrefl (x : List Int) : ltL x x = false := by
  cases h : ltL x x with
  | false => rfl
  | true => exact absurd rfl (ltL_asymm x x h).2
theorem srt_pw : ∀ (q : Option (List Int)) (l : List It), srt q l = true → l.Pairwise (fun x y => ltL x.1 y.1 = true)
  | _, [], _ => List.Pairwise.nil
  | q, x :: l, h => by
    simp only [srt, Bool.and_eq_true] at h
    exact List.pairwise_cons.2 ⟨fun y hy => srt_lt x.1 l h.2 y hy, srt_pw _ l h.2⟩
theorem key_mem {p : List It} (h : 1 ≤ p.length) : ∃ y ∈ p, keyOf p = y.1 ∧ p.head? = some y := by
  cases p with
  | nil => simp at h
  | cons y r => exact ⟨y, by simp, rfl, rfl⟩
theorem parts_lt {ps : List (List It)} (hs : srt none ps.flatten = true) {i j : Nat} {p q : List It} (hp : ps[i]? = some p) (hq : ps[j]? = some q) (hij : i < j) : ∀ x ∈ p, ∀ y ∈ q, ltL x.1 y.1 = true := by
  have h1 := (List.pairwise_flatten.1 (srt_pw none _ hs)).2
  obtain ⟨hi, e1⟩ := List.getElem?_eq_some_iff.1 hp
  obtain ⟨hj, e2⟩ := List.getElem?_eq_some_iff.1 hq
  have := List.pairwise_iff_getElem.1 h1 i j hi hj hij
  rw [e1, e2] at this
  exact this
def lbM (key : List Int) (ms : List Mk) : Nat := (ms.takeWhile fun m => ltL m.1 key).length
theorem lbM_le (key : List Int) (ms : List Mk) : lbM key ms ≤ ms.length := (List.takeWhile_prefix _).length_le
theorem lbM_uniq {key : List Int} {ms : List Mk} {i : Nat} (hi : i ≤ ms.length) (h1 : ∀ (h : Nat) (m : Mk), h < i → ms[h]? = some m → ltL m.1 key = true) (h2 : ∀ m : Mk, ms[i]? = some m → ltL m.1 key = false) : i = lbM key ms := by
  unfold lbM
  induction ms generalizing i with
  | nil => simp at hi; simp [hi]
  | cons m ms ih =>
    cases i with
    | zero =>
      have := h2 m rfl
      simp [List.takeWhile_cons, this]
    | succ i =>
      have := h1 0 m (by omega) rfl
      rw [List.takeWhile_cons, if_pos this, List.length_cons, ← ih (i := i) (by simpa using hi) (fun h z hh hz => h1 (h + 1) z (by omega) (by simpa using hz)) (fun z hz => h2 z (by simpa using hz))]
theorem lbM_lt {key : List Int} : ∀ {ms : List Mk} {h : Nat} {m : Mk}, h < lbM key ms → ms[h]? = some m → ltL m.1 key = true
  | [], h, m, hh, _ => by simp [lbM] at hh
  | z :: ms, h, m, hh, hm => by
    unfold lbM at hh
    rw [List.takeWhile_cons] at hh
    split at hh
    · rename_i hz
      cases h with
      | zero => simp only [List.getElem?_cons_zero, Option.some.injEq] at hm; subst hm; exact hz
      | succ h => exact lbM_lt (ms := ms) (h := h) (by unfold lbM; simpa using hh) (by simpa using hm)
    · simp at hh
theorem lbM_at {key : List Int} : ∀ {ms : List Mk} {m : Mk}, ms[lbM key ms]? = some m → ltL m.1 key = false
  | [], m, hm => by simp at hm
  | z :: ms, m, hm => by
    unfold lbM at hm
    rw [List.takeWhile_cons] at hm
    split at hm
    · exact lbM_at (ms := ms) (by unfold lbM; simpa using hm)
    · rename_i hz
      simp only [List.length_nil, List.getElem?_cons_zero, Option.some.injEq] at hm
      subst hm; simpa using hz

abbrev ordM (ms : List Mk) : Prop := ms.Pairwise fun a b => ltL a.1 b.1 = true
theorem ordM_get {ms : List Mk} (h : ordM ms) {i j : Nat} {a b : Mk} (ha : ms[i]? = some a) (hb : ms[j]? = some b) (hij : i < j) : ltL a.1 b.1 = true := by
  obtain ⟨hi, e1⟩ := List.getElem?_eq_some_iff.1 ha
  obtain ⟨hj, e2⟩ := List.getElem?_eq_some_iff.1 hb
  have := List.pairwise_iff_getElem.1 h i j hi hj hij
  rw [e1, e2] at this
  exact this

theorem bs_loop {R : Type} (ms : List Mk) (hs : ordM ms) (key : List Int) {st : Int × Int → Option (LS (Int × Int) R)} {r : R}
    (h1 : ∀ i j : Int, 0 ≤ i → i < j → j ≤ ms.length → st (i, j) = some (.again (if ltL (ms[((i + j) / 2).toNat]?.getD (dflt MkT)).1 key = true then ((i + j) / 2 + 1, j) else (i, (i + j) / 2))))
    (h2 : st ((lbM key ms : Int), (lbM key ms : Int)) = some (.out r)) : iter st (0, (ms.length : Int)) = some r := by
  refine iter_meas (fun s : Int × Int => (s.2 - s.1).toNat) (fun _ => r) (fun s => 0 ≤ s.1 ∧ s.1 ≤ s.2 ∧ s.2 ≤ ms.length ∧ (∀ (h : Nat) (m : Mk), (h : Int) < s.1 → ms[h]? = some m → ltL m.1 key = true) ∧ (∀ (h : Nat) (m : Mk), s.2 ≤ (h : Int) → ms[h]? = some m → ltL m.1 key = false))
    (by exact ⟨by simp, by simp, by simp, fun h m hh _ => by simp only at hh; omega, fun h m hh hm => by
      simp only at hh
      have := (List.getElem?_eq_some_iff.1 hm).1; omega⟩) ?_
  rintro ⟨i, j⟩ ⟨i1, i2, i3, i4, i5⟩
  simp only at i1 i2 i3 i4 i5 ⊢
  by_cases hij : i < j
  · rw [h1 i j i1 hij i3]
    have hlt : ((i + j) / 2).toNat < ms.length := by omega
    have hm : ms[((i + j) / 2).toNat]? = some (ms[((i + j) / 2).toNat]'hlt) := List.getElem?_eq_getElem hlt
    rw [hm, Option.getD_some]
    generalize ms[((i + j) / 2).toNat]'hlt = m at hm
    by_cases hc : ltL m.1 key = true
    · rw [if_pos hc]
      refine .inl ⟨_, rfl, ⟨by (try simp only); omega, by (try simp only); omega, by (try simp only); omega, fun h z hh hz => ?_, i5⟩, by (try simp only); omega, by first | rfl | trivial⟩
      simp only at hh
      by_cases he : h = ((i + j) / 2).toNat
      · subst he; rw [hm] at hz; cases hz; exact hc
      · exact ltL_trans _ _ _ (ordM_get hs hz hm (by omega)) hc
    · rw [if_neg hc]
      have hc' : ltL m.1 key = false := by simpa using hc
      refine .inl ⟨_, rfl, ⟨by (try simp only); omega, by (try simp only); omega, by (try simp only); omega, i4, fun h z hh hz => ?_⟩, by (try simp only); omega, by first | rfl | trivial⟩
      simp only at hh
      by_cases he : h = ((i + j) / 2).toNat
      · subst he; rw [hm] at hz; cases hz; exact hc'
      · cases hzz : ltL z.1 key with
        | false => rfl
        | true =>
          have := ltL_trans _ _ _ (ordM_get hs hm hz (by omega)) hzz
          rw [hc'] at this; cases this
  · have e : i = j := by omega
    subst e
    have hl : i.toNat = lbM key ms := lbM_uniq (by omega) (fun h m hh hm => i4 h m (by omega) hm) (fun m hm => i5 i.toNat m (by omega) hm)
    have : i = (lbM key ms : Int) := by omega
    rw [this]
    exact .inr h2

theorem marks_get {ps : List (List It)} {i : Nat} {p : List It} (h : ps[i]? = some p) : (marksOf ps)[i]? = some (keyOf p, blkPut p) := by
  simp only [marksOf, List.getElem?_map, h, Option.map_some]
theorem marks_inv {ps : List (List It)} {i : Nat} {m : Mk} (h : (marksOf ps)[i]? = some m) : ∃ p, ps[i]? = some p ∧ m = (keyOf p, blkPut p) := by
  simp only [marksOf, List.getElem?_map] at h
  cases hp : ps[i]? with
  | none => rw [hp] at h; cases h
  | some p => rw [hp] at h; simp only [Option.map_some, Option.some.injEq] at h; exact ⟨p, rfl, h.symm⟩
theorem marks_len (ps : List (List It)) : (marksOf ps).length = ps.length := by simp [marksOf]
theorem marks_ord {ps : List (List It)} (h : TabIs ps) : ordM (marksOf ps) := by
  refine List.pairwise_iff_getElem.2 (fun i j hi hj hij => ?_)
  have hi' : i < ps.length := by rw [marks_len] at hi; exact hi
  have hj' : j < ps.length := by rw [marks_len] at hj; exact hj
  have e1 := marks_get (List.getElem?_eq_getElem hi')
  have e2 := marks_get (List.getElem?_eq_getElem hj')
  rw [List.getElem?_eq_getElem hi] at e1
  rw [List.getElem?_eq_getElem hj] at e2
  simp only [Option.some.injEq] at e1 e2
  rw [e1, e2]
  obtain ⟨y, hy, ey, _⟩ := key_mem (h.good _ (List.getElem_mem hi')).1
  obtain ⟨z, hz, ez, _⟩ := key_mem (h.good _ (List.getElem_mem hj')).1
  simp only [ey, ez]
  exact parts_lt h.srt (List.getElem?_eq_getElem hi') (List.getElem?_eq_getElem hj') hij y hy z hz

def stopB (hi : List Int) (most : Int) (o : List It) (x : It) : Bool := (decide (hi ≠ []) && !ltL x.1 hi) || decide (most ≤ o.length)
def scanS (lo hi : List Int) (most : Int) : List It → List It → List It × Bool
  | o, [] => (o, false)
  | o, x :: r => if stopB hi most o x = true then (o, true) else scanS lo hi most (if ltL x.1 lo = true then o else o ++ [x]) r
def inR (lo hi : List Int) (x : It) : Bool := !ltL x.1 lo && (decide (hi = []) || ltL x.1 hi)
def scanR (lo hi : List Int) (most : Int) (l : List It) : List It := (l.filter (inR lo hi)).take most.toNat
theorem scanS_app (lo hi : List Int) (most : Int) : ∀ (p q o : List It), scanS lo hi most o (p ++ q) = if (scanS lo hi most o p).2 = true then scanS lo hi most o p else scanS lo hi most (scanS lo hi most o p).1 q
  | [], q, o => by simp [scanS]
  | x :: p, q, o => by
    rw [List.cons_append, scanS, scanS]
    split
    · rfl
    · exact scanS_app lo hi most p q _
theorem scanS_full {lo hi : List Int} {most : Int} {o : List It} (h : most ≤ o.length) : ∀ q, (scanS lo hi most o q).1 = o
  | [] => rfl
  | x :: q => by
    rw [scanS, if_pos (by simp only [stopB, Bool.or_eq_true, decide_eq_true_eq]; exact .inr h)]
theorem scanS_len (lo hi : List Int) (most : Int) : ∀ (p o : List It), (scanS lo hi most o p).1.length ≤ o.length + p.length
  | [], o => by simp [scanS]
  | x :: p, o => by
    rw [scanS]
    split
    · simp
    · have := scanS_len lo hi most p (if ltL x.1 lo = true then o else o ++ [x])
      split at this
      · rename_i hx; rw [if_pos hx]; simp only [List.length_cons]; omega
      · rename_i hx; rw [if_neg hx]; simp only [List.length_cons, List.length_append, List.length_nil] at this ⊢; omega
theorem scanS_R (lo hi : List Int) (most : Int) : ∀ (l o : List It), l.Pairwise (fun x y => ltL x.1 y.1 = true) → (scanS lo hi most o l).1 = o ++ (l.filter (inR lo hi)).take (most - o.length).toNat
  | [], o, _ => by simp [scanS]
  | x :: l, o, h => by
    obtain ⟨h1, h2⟩ := List.pairwise_cons.1 h
    rw [scanS]
    by_cases hm : most ≤ o.length
    · rw [if_pos (by simp only [stopB, Bool.or_eq_true, decide_eq_true_eq]; exact .inr hm), show (most - o.length).toNat = 0 by omega]
      simp
    by_cases hh : hi ≠ [] ∧ ltL x.1 hi = false
    · rw [if_pos (by simp only [stopB, Bool.or_eq_true, Bool.and_eq_true, decide_eq_true_eq, Bool.not_eq_true']; exact .inl hh)]
      have hnil : (x :: l).filter (inR lo hi) = [] := by
        refine List.filter_eq_nil_iff.2 (fun y hy => ?_)
        have hy2 : ltL y.1 hi = false := by
          rcases List.mem_cons.1 hy with rfl | hy
          · exact hh.2
          · cases hyy : ltL y.1 hi with
            | false => rfl
            | true => have := ltL_trans _ _ _ (h1 y hy) hyy; rw [hh.2] at this; cases this
        simp [inR, hy2, hh.1]
      rw [hnil]; simp
    · rw [if_neg (by simp only [stopB, Bool.or_eq_true, Bool.and_eq_true, decide_eq_true_eq, Bool.not_eq_true']; rintro (h | h); exact hh h; exact hm h)]
      have hok : (decide (hi = []) || ltL x.1 hi) = true := by
        by_cases he : hi = []
        · simp [he]
        · cases hxx : ltL x.1 hi with
          | true => simp
          | false => exact absurd ⟨he, hxx⟩ hh
      rw [scanS_R lo hi most l _ h2, List.filter_cons]
      by_cases hl : ltL x.1 lo = true
      · have : inR lo hi x = false := by simp [inR, hl]
        rw [if_pos hl, this]; rfl
      · have hl' : ltL x.1 lo = false := by simpa using hl
        have : inR lo hi x = true := by simp only [inR, hl', hok]; rfl
        rw [if_neg hl, this, if_pos rfl, List.append_assoc]
        congr 1
        rw [show (most - o.length).toNat = (most - ((o ++ [x]).length : Int)).toNat + 1 by simp only [List.length_append, List.length_cons, List.length_nil]; omega]
        rfl
theorem scan_drop {ps : List (List It)} (h : TabIs ps) (lo hi : List Int) (most : Int) {i : Nat} (h1 : ∀ (j : Nat) (q : List It), j < i → ps[j]? = some q → ∀ x ∈ q, ltL x.1 lo = true) :
    (scanS lo hi most [] (ps.drop i).flatten).1 = scanR lo hi most ps.flatten := by
  have hpw := srt_pw none _ h.srt
  have e : ps.flatten = (ps.take i).flatten ++ (ps.drop i).flatten := by rw [← List.flatten_append, List.take_append_drop]
  have hpd : (ps.drop i).flatten.Pairwise (fun x y => ltL x.1 y.1 = true) := by
    rw [e] at hpw; exact (List.pairwise_append.1 hpw).2.1
  rw [scanS_R lo hi most _ _ hpd]
  simp only [List.nil_append, List.length_nil, Int.ofNat_zero, Int.sub_zero, scanR, e, List.filter_append]
  have hnil : (ps.take i).flatten.filter (inR lo hi) = [] := by
    refine List.filter_eq_nil_iff.2 (fun x hx => ?_)
    obtain ⟨q, hq, hxq⟩ := List.mem_flatten.1 hx
    obtain ⟨j, hj, ej⟩ := List.mem_iff_getElem.1 hq
    rw [List.length_take] at hj
    rw [List.getElem_take] at ej
    have := h1 j q (by omega) (by rw [List.getElem?_eq_getElem (by omega), ej]) x hxq
    simp [inR, this]
  rw [hnil]
  simp

theorem scan_inner {R : Type} (p : List It) (lo hi : List Int) (most : Int) (o : List It) {st : List It × Int → Option (LS (List It × Int) R)} {a b : List It → R}
    (h1 : ∀ (z : List It) (j : Int) (x : It), 0 ≤ j → j < p.length → p[j.toNat]? = some x → z.length ≤ o.length + p.length → st (z, j) = if stopB hi most z x = true then some (.out (a z)) else some (.again (if ltL x.1 lo = true then z else z ++ [x], j + 1)))
    (h2 : ∀ z : List It, st (z, (p.length : Int)) = some (.out (b z))) : iter st (o, 0) = some (if (scanS lo hi most o p).2 = true then a (scanS lo hi most o p).1 else b (scanS lo hi most o p).1) := by
  refine (iter_meas (fun s : List It × Int => (p.length - s.2).toNat) (fun s => if (scanS lo hi most s.1 (p.drop s.2.toNat)).2 = true then a (scanS lo hi most s.1 (p.drop s.2.toNat)).1 else b (scanS lo hi most s.1 (p.drop s.2.toNat)).1) (fun s => 0 ≤ s.2 ∧ s.2 ≤ p.length ∧ s.1.length ≤ o.length + s.2.toNat) (by exact ⟨by simp, by simp, by simp⟩) ?_).trans (by simp)
  rintro ⟨z, j⟩ ⟨i1, i2, i3⟩
  simp only at i1 i2 i3 ⊢
  by_cases hj : j < p.length
  · have hx : p[j.toNat]? = some (p[j.toNat]'(by omega)) := List.getElem?_eq_getElem (by omega)
    rw [h1 z j _ i1 hj hx (by omega), dropI i1 hj]
    generalize p[j.toNat]'(by omega) = x at *
    by_cases hs : stopB hi most z x = true
    · rw [if_pos hs]
      refine .inr ?_
      rw [scanS, if_pos hs]
      simp
    · rw [if_neg hs]
      refine .inl ⟨_, rfl, ⟨by (try simp only); omega, by (try simp only); omega, ?_⟩, by (try simp only); omega, ?_⟩
      · simp only; split
        · omega
        · simp only [List.length_append, List.length_cons, List.length_nil]; omega
      · simp only
        rw [scanS, if_neg hs]
  · have : j = p.length := by omega
    subst this
    refine .inr ?_
    rw [h2, List.drop_eq_nil_of_le (by omega)]
    simp [scanS]
theorem scan_outer {R : Type} {ps : List (List It)} (a : List It → R) (hn : ps.flatten.length ≤ 16384) (lo hi : List Int) (most : Int) {i0 : Int} (hi0 : 0 ≤ i0) {st : List It × Int → Option (LS (List It × Int) R)}
    (h1 : ∀ (z : List It) (i : Int) (p : List It), 0 ≤ i → i < ps.length → ps[i.toNat]? = some p → (z.length : Int) < most → z.length + p.length ≤ 16384 → st (z, i) = some (if (scanS lo hi most z p).2 = true then .out (a (scanS lo hi most z p).1) else .again ((scanS lo hi most z p).1, i + 1)))
    (h2 : ∀ (z : List It) (i : Int), 0 ≤ i → (ps.length ≤ i ∨ most ≤ z.length) → st (z, i) = some (.out (a z))) : iter st ([], i0) = some (a (scanS lo hi most [] (ps.drop i0.toNat).flatten).1) := by
  refine (iter_meas (fun s : List It × Int => (ps.length - s.2).toNat) (fun s => a (scanS lo hi most s.1 (ps.drop s.2.toNat).flatten).1) (fun s => 0 ≤ s.2 ∧ s.1.length + (ps.drop s.2.toNat).flatten.length ≤ 16384) (by
    refine ⟨hi0, ?_⟩
    have e : ps.flatten = (ps.take i0.toNat).flatten ++ (ps.drop i0.toNat).flatten := by rw [← List.flatten_append, List.take_append_drop]
    have := congrArg List.length e
    rw [List.length_append] at this
    simp only [List.length_nil]; omega) ?_)
  rintro ⟨z, i⟩ ⟨i1, i2⟩
  simp only at i1 i2 ⊢
  by_cases hii : i < ps.length
  · by_cases hm : (z.length : Int) < most
    · have hx : ps[i.toNat]? = some (ps[i.toNat]'(by omega)) := List.getElem?_eq_getElem (by omega)
      rw [dropI i1 hii] at i2 ⊢
      have h3 := h1 z i _ i1 hii hx hm
      generalize ps[i.toNat]'(by omega) = p at *
      rw [List.flatten_cons, List.length_append] at i2
      rw [h3 (by omega), List.flatten_cons, scanS_app]
      have hlen := scanS_len lo hi most p z
      by_cases hs : (scanS lo hi most z p).2 = true
      · rw [if_pos hs, if_pos hs]
        exact .inr rfl
      · rw [if_neg hs, if_neg hs]
        exact .inl ⟨_, rfl, ⟨by (try simp only); omega, by (try simp only); omega⟩, by (try simp only); omega, rfl⟩
    · rw [h2 z i i1 (.inr (by omega)), scanS_full (by omega)]
      exact .inr rfl
  · rw [h2 z i i1 (.inl (by omega)), List.drop_eq_nil_of_le (by omega)]
    exact .inr rfl
theorem scan_from {ps : List (List It)} (h : TabIs ps) (lo hi : List Int) (most : Int) {i : Nat} (h1 : i = 0 ∨ ∃ p, ps[i]? = some p ∧ ltL lo (keyOf p) = false) :
    (scanS lo hi most [] (ps.drop i).flatten).1 = scanR lo hi most ps.flatten := by
  refine scan_drop h lo hi most (fun j q hj hq x hx => ?_)
  rcases h1 with h1 | ⟨p, hp, hl⟩
  · omega
  · obtain ⟨y, hy, ey, _⟩ := key_mem (h.good p (List.mem_of_getElem? hp)).1
    have h2 := parts_lt h.srt hq hp hj x hx y hy
    rw [← ey] at h2
    by_cases he : lo = keyOf p
    · rw [he]; exact h2
    · exact ltL_trans _ _ _ h2 (ltL_total _ _ hl he)
end Go.Proofs.YtolcekkcenedjaaGreat.Sx

set_option maxHeartbeats 8000000
namespace Go.Proofs.YtolcekkcenedjaaGreat.Sx
attribute [local simp] mkp_tbl d_np_tbl o_pod_tbl mk_mark

theorem f1010 (t : Option Tbl) : F1010 [⟨.pt TblT, t⟩] = some [⟨.int .i64, lenT t⟩] := by
  simp only [F1010, Fof, ir1010]
  match t with
  | none => simp -implicitDefEqProofs [lenT]
  | some ((ms, sv, n, last), c) => simp -implicitDefEqProofs [lenT]
theorem s1010 {lc : List Ct} (hl0 : look (lc.map fun c => (c.sig.id, c)) 1010 = some c1010) : ∀ (t : Option Tbl), Does1 (Phi lc) 1010 [⟨.pt TblT, t⟩] [⟨.int .i64, lenT t⟩] :=
  fun t => by
    have eFc : c1010.F = F1010 := rfl
    have eFh := f1010 t
    rw [← eFc] at eFh
    exact Does1.of hl0 eFh rfl
theorem cmp_lt {a b : List Int} (h : ltL a b = true) : cmpL a b = -1 := by unfold cmpL; rw [if_pos h]
theorem cmp_eq (a : List Int) : cmpL a a = 0 := by unfold cmpL; rw [if_neg (by rw [ltL_irrefl]; simp), if_pos rfl]
theorem cmp_gt {a b : List Int} (h : ltL a b = false) (hn : a ≠ b) : cmpL a b = 1 := by unfold cmpL; rw [if_neg (by rw [h]; simp), if_neg hn]
theorem fdiv1u (x : Int) : x.fdiv (2 ^ Nat.min 1 IntKind.u64.bits) = x / 2 := fdiv_pos x 2 (by omega)
end Go.Proofs.YtolcekkcenedjaaGreat.Sx

set_option maxHeartbeats 16000000
namespace Go.Proofs.YtolcekkcenedjaaGreat.Sx
attribute [local simp] mkp_tbl d_np_tbl o_pod_tbl mk_mark mk_it

theorem scanR_nil (lo hi : List Int) (most : Int) : scanR lo hi most [] = [] := by simp [scanR]
theorem f1014 (t : Option Tbl) (lo hi : List Int) (most : Int) (ht : TabGood t) : F1014 [⟨.pt TblT, t⟩, ⟨.str, lo⟩, ⟨.str, hi⟩, ⟨.int .i64, most⟩] = some [⟨.sl ItT, scanR lo hi most (itemsT t)⟩] := by
  have h138 := s138 (lc := [c138, c47]) rfl
  have h47 := s47 (lc := [c138, c47]) rfl
  simp only [F1014, Fof, ir1014]
  generalize Phi [c138, c47] = Φ at *
  match t, ht with
  | none, _ => simp -implicitDefEqProofs [itemsT, scanR_nil]
  | some ((ms, sv, n, last), false), _ => simp -implicitDefEqProofs [itemsT, scanR_nil]
  | some ((ms, sv, n, last), true), ht =>
  obtain ⟨ps, e, h⟩ := ht.resolve_left (by simp [deadT])
  rw [e, items_tbl h.good]
  simp only [tblOf, Option.some.injEq, Prod.mk.injEq] at e
  obtain ⟨⟨rfl, rfl, rfl, rfl⟩, _⟩ := e
  simp only [tblOf]
  have hord := marks_ord h
  have hml := marks_len ps
  have hl1 := h.len
  have hgood := h.good
  have hn := h.items
  have hsf := fun (i : Nat) (h1 : i = 0 ∨ ∃ p, ps[i]? = some p ∧ ltL lo (keyOf p) = false) => scan_from h lo hi most h1
  have hmi := @marks_inv ps
  have hmg := @marks_get ps
  generalize hSR : scanR lo hi most ps.flatten = SR at *
  generalize sieveOf (keysOf ps.flatten) = sv at *
  generalize hnn : (ps.flatten.length : Int) = nn at *
  generalize lastKey ps.flatten = lk at *
  generalize marksOf ps = ms at *
  simp -implicitDefEqProofs
  refine bs_loop ms hord lo ?_ ?_
  · intro i j i0 ij jn
    have w1 : IntKind.i64.wrap (i + j) = i + j := wi64 _ (by omega) (by omega)
    have w2 : IntKind.u64.wrap (i + j) = i + j := wu64 _ (by omega) (by omega)
    have w3 : IntKind.i64.wrap ((i + j) / 2) = (i + j) / 2 := wi64 _ (by omega) (by omega)
    have w4 : IntKind.i64.wrap ((i + j) / 2 + 1) = (i + j) / 2 + 1 := wi64 _ (by omega) (by omega)
    have e1 := fdiv1u (i + j)
    have b1 : 0 ≤ (i + j) / 2 ∧ (i + j) / 2 < (ms.length : Int) := by omega
    have g1 := getG (l := ms) (d := dflt MkT) (i := (i + j) / 2) b1.1 b1.2
    rw [g1]
    generalize hcm : ms[((i + j) / 2).toNat]'(by omega) = m at *
    have k38 := h138 m.1 lo
    cases hc : ltL m.1 lo
    · have hcc : ¬ cmpL m.1 lo < 0 := by unfold cmpL; rw [hc]; simp; split <;> omega
      simp -implicitDefEqProofs [ij, w1, w2, w3, w4, e1, b1, g1, hcm, k38, hcc]
    · have hcc : cmpL m.1 lo < 0 := by rw [cmp_lt hc]; omega
      simp -implicitDefEqProofs [ij, w1, w2, w3, w4, e1, b1, g1, hcm, k38, hcc]
  · have hle := lbM_le lo ms
    have hlt := @lbM_lt lo ms
    have hat := @lbM_at lo ms
    generalize lbM lo ms = lb at *
    by_cases hA : lb < ms.length
    · have hm0 : ms[lb]? = some (ms[lb]'hA) := List.getElem?_eq_getElem hA
      have hA' : (lb : Int) < ms.length := by omega
      have hge := hat hm0
      obtain ⟨p, hp, hpe⟩ := hmi hm0
      generalize hcm : ms[lb]'hA = m at *
      have k38 := h138 m.1 lo
      by_cases he : m.1 = lo
      · have hcc : cmpL m.1 lo = 0 := by rw [he]; exact cmp_eq lo
        rw [hcc] at k38
        have hkp : keyOf p = lo := by rw [← he, hpe]
        have hb0 : ¬ (lb : Int) < 0 := by omega
        have hst := hsf lb (.inr ⟨p, hp, by rw [hkp]; exact ltL_irrefl _⟩)
        simp -implicitDefEqProofs [hA, hA', hcm, k38, hb0]
        refine (scan_outer (a := fun z => (LS.out [⟨.sl ItT, z⟩] : LS (Int × Int) (List D))) (i0 := ((lb : Nat) : Int)) hn lo hi most (by omega) ?_ ?_).trans ?_
        · intro z i p i0 il hpi hzm hzl
          have b1 : 0 ≤ i ∧ i < (ms.length : Int) := by omega
          have hgp := hgood p (List.mem_of_getElem? hpi)
          have hbl := blk_len hgp.2.1 hgp.2.2.1
          have k47 := h47 (blkPut p) (blk_bytes hgp.2.2.2.2) (by omega)
          have hbe : blkGet (blkPut p) = some p := blkGet_enc hgp.1 hgp.2.1 hgp.2.2.1 hgp.2.2.2.1
          rw [hbe] at k47
          simp only [resB] at k47
          have hii : i.toNat < ms.length := by omega
          have g1 : ms[i.toNat]'hii = (keyOf p, blkPut p) := by
            have := hmg hpi
            rw [List.getElem?_eq_getElem hii] at this
            simpa using this
          have wi : IntKind.i64.wrap (i + 1) = i + 1 := wi64 _ (by omega) (by omega)
          simp -implicitDefEqProofs [b1, g1, hzm, k47, wi]
          refine scan_inner p lo hi most z (a := fun z => (LS.out (LS.out [⟨.sl ItT, z⟩]) : LS (List It × Int) (LS (Int × Int) (List D)))) (b := fun z => (LS.again (z, i + 1) : LS (List It × Int) (LS (Int × Int) (List D)))) ?_ ?_
          · intro z2 j x j0 jl hx hz2
            have b2 : 0 ≤ j ∧ j < (p.length : Int) := ⟨j0, jl⟩
            have hjj : j.toNat < p.length := by omega
            have hx' : p[j.toNat]'hjj = x := by
              rw [List.getElem?_eq_getElem hjj] at hx
              simpa using hx
            have wj : IntKind.i64.wrap (j + 1) = j + 1 := wi64 _ (by omega) (by omega)
            have hB : z2.length + 1 ≤ BIG := by simp only [BIG]; omega
            by_cases e3 : most ≤ (z2.length : Int) <;> cases e4 : ltL x.1 lo <;> by_cases e1 : hi = []
            · simp -implicitDefEqProofs [jl, b2, hx', e1, e3, e4, stopB]
            · cases e2 : ltL x.1 hi <;> simp -implicitDefEqProofs [jl, b2, hx', e1, e2, e3, e4, stopB]
            · simp -implicitDefEqProofs [jl, b2, hx', e1, e3, e4, stopB]
            · cases e2 : ltL x.1 hi <;> simp -implicitDefEqProofs [jl, b2, hx', e1, e2, e3, e4, stopB]
            · simp -implicitDefEqProofs [jl, b2, hx', e1, e3, e4, stopB, wj, hB]
            · cases e2 : ltL x.1 hi <;> simp -implicitDefEqProofs [jl, b2, hx', e1, e2, e3, e4, stopB, wj, hB]
            · simp -implicitDefEqProofs [jl, b2, hx', e1, e3, e4, stopB, wj]
            · cases e2 : ltL x.1 hi <;> simp -implicitDefEqProofs [jl, b2, hx', e1, e2, e3, e4, stopB, wj]
          · intro z2
            simp -implicitDefEqProofs
        · intro z i i0 hzi
          by_cases hil : i < (ms.length : Int)
          · have hzm : ¬ (z.length : Int) < most := by omega
            simp -implicitDefEqProofs [hil, hzm]
          · simp -implicitDefEqProofs [hil]
        · rw [show ((lb : Nat) : Int).toNat = lb by omega, hst]
      · have hcc : cmpL m.1 lo = 1 := cmp_gt hge he
        rw [hcc] at k38
        cases hlb : lb with
        | zero =>
          subst hlb
          have wl : IntKind.i64.wrap (-1) = -1 := by decide
          have hst := hsf 0 (.inl rfl)
          simp -implicitDefEqProofs [hA, hcm, k38, wl]
          refine (scan_outer (a := fun z => (LS.out [⟨.sl ItT, z⟩] : LS (Int × Int) (List D))) (i0 := (0 : Int)) hn lo hi most (by omega) ?_ ?_).trans ?_
          · intro z i p i0 il hpi hzm hzl
            have b1 : 0 ≤ i ∧ i < (ms.length : Int) := by omega
            have hgp := hgood p (List.mem_of_getElem? hpi)
            have hbl := blk_len hgp.2.1 hgp.2.2.1
            have k47 := h47 (blkPut p) (blk_bytes hgp.2.2.2.2) (by omega)
            have hbe : blkGet (blkPut p) = some p := blkGet_enc hgp.1 hgp.2.1 hgp.2.2.1 hgp.2.2.2.1
            rw [hbe] at k47
            simp only [resB] at k47
            have hii : i.toNat < ms.length := by omega
            have g1 : ms[i.toNat]'hii = (keyOf p, blkPut p) := by
              have := hmg hpi
              rw [List.getElem?_eq_getElem hii] at this
              simpa using this
            have wi : IntKind.i64.wrap (i + 1) = i + 1 := wi64 _ (by omega) (by omega)
            simp -implicitDefEqProofs [b1, g1, hzm, k47, wi]
            refine scan_inner p lo hi most z (a := fun z => (LS.out (LS.out [⟨.sl ItT, z⟩]) : LS (List It × Int) (LS (Int × Int) (List D)))) (b := fun z => (LS.again (z, i + 1) : LS (List It × Int) (LS (Int × Int) (List D)))) ?_ ?_
            · intro z2 j x j0 jl hx hz2
              have b2 : 0 ≤ j ∧ j < (p.length : Int) := ⟨j0, jl⟩
              have hjj : j.toNat < p.length := by omega
              have hx' : p[j.toNat]'hjj = x := by
                rw [List.getElem?_eq_getElem hjj] at hx
                simpa using hx
              have wj : IntKind.i64.wrap (j + 1) = j + 1 := wi64 _ (by omega) (by omega)
              have hB : z2.length + 1 ≤ BIG := by simp only [BIG]; omega
              by_cases e3 : most ≤ (z2.length : Int) <;> cases e4 : ltL x.1 lo <;> by_cases e1 : hi = []
              · simp -implicitDefEqProofs [jl, b2, hx', e1, e3, e4, stopB]
              · cases e2 : ltL x.1 hi <;> simp -implicitDefEqProofs [jl, b2, hx', e1, e2, e3, e4, stopB]
              · simp -implicitDefEqProofs [jl, b2, hx', e1, e3, e4, stopB]
              · cases e2 : ltL x.1 hi <;> simp -implicitDefEqProofs [jl, b2, hx', e1, e2, e3, e4, stopB]
              · simp -implicitDefEqProofs [jl, b2, hx', e1, e3, e4, stopB, wj, hB]
              · cases e2 : ltL x.1 hi <;> simp -implicitDefEqProofs [jl, b2, hx', e1, e2, e3, e4, stopB, wj, hB]
              · simp -implicitDefEqProofs [jl, b2, hx', e1, e3, e4, stopB, wj]
              · cases e2 : ltL x.1 hi <;> simp -implicitDefEqProofs [jl, b2, hx', e1, e2, e3, e4, stopB, wj]
            · intro z2
              simp -implicitDefEqProofs
          · intro z i i0 hzi
            by_cases hil : i < (ms.length : Int)
            · have hzm : ¬ (z.length : Int) < most := by omega
              simp -implicitDefEqProofs [hil, hzm]
            · simp -implicitDefEqProofs [hil]
          · rw [show (0 : Int).toNat = 0 by omega, hst]
        | succ k =>
          subst hlb
          have hk1 : k < ms.length := by omega
          have wl : IntKind.i64.wrap (((k : Int) + 1) - 1) = k := by rw [wi64 _ (by omega) (by omega)]; omega
          have wl' : IntKind.i64.wrap (k : Int) = k := wi64 _ (by omega) (by omega)
          have hA2 : (k : Int) + 1 < ms.length := by omega
          have hmk : ms[k]? = some (ms[k]'hk1) := List.getElem?_eq_getElem hk1
          have hbf := hlt (by omega) hmk
          obtain ⟨p', hp', hpe'⟩ := hmi hmk
          have hst := hsf k (.inr ⟨p', hp', by rw [hpe'] at hbf; exact (ltL_asymm _ _ hbf).1⟩)
          have hb0 : ¬ (k : Int) < 0 := by omega
          simp -implicitDefEqProofs [hA, hA2, hcm, k38, wl, wl', hb0, show 0 ≤ (k : Int) + 1 from by omega]
          refine (scan_outer (a := fun z => (LS.out [⟨.sl ItT, z⟩] : LS (Int × Int) (List D))) (i0 := ((k : Nat) : Int)) hn lo hi most (by omega) ?_ ?_).trans ?_
          · intro z i p i0 il hpi hzm hzl
            have b1 : 0 ≤ i ∧ i < (ms.length : Int) := by omega
            have hgp := hgood p (List.mem_of_getElem? hpi)
            have hbl := blk_len hgp.2.1 hgp.2.2.1
            have k47 := h47 (blkPut p) (blk_bytes hgp.2.2.2.2) (by omega)
            have hbe : blkGet (blkPut p) = some p := blkGet_enc hgp.1 hgp.2.1 hgp.2.2.1 hgp.2.2.2.1
            rw [hbe] at k47
            simp only [resB] at k47
            have hii : i.toNat < ms.length := by omega
            have g1 : ms[i.toNat]'hii = (keyOf p, blkPut p) := by
              have := hmg hpi
              rw [List.getElem?_eq_getElem hii] at this
              simpa using this
            have wi : IntKind.i64.wrap (i + 1) = i + 1 := wi64 _ (by omega) (by omega)
            simp -implicitDefEqProofs [b1, g1, hzm, k47, wi]
            refine scan_inner p lo hi most z (a := fun z => (LS.out (LS.out [⟨.sl ItT, z⟩]) : LS (List It × Int) (LS (Int × Int) (List D)))) (b := fun z => (LS.again (z, i + 1) : LS (List It × Int) (LS (Int × Int) (List D)))) ?_ ?_
            · intro z2 j x j0 jl hx hz2
              have b2 : 0 ≤ j ∧ j < (p.length : Int) := ⟨j0, jl⟩
              have hjj : j.toNat < p.length := by omega
              have hx' : p[j.toNat]'hjj = x := by
                rw [List.getElem?_eq_getElem hjj] at hx
                simpa using hx
              have wj : IntKind.i64.wrap (j + 1) = j + 1 := wi64 _ (by omega) (by omega)
              have hB : z2.length + 1 ≤ BIG := by simp only [BIG]; omega
              by_cases e3 : most ≤ (z2.length : Int) <;> cases e4 : ltL x.1 lo <;> by_cases e1 : hi = []
              · simp -implicitDefEqProofs [jl, b2, hx', e1, e3, e4, stopB]
              · cases e2 : ltL x.1 hi <;> simp -implicitDefEqProofs [jl, b2, hx', e1, e2, e3, e4, stopB]
              · simp -implicitDefEqProofs [jl, b2, hx', e1, e3, e4, stopB]
              · cases e2 : ltL x.1 hi <;> simp -implicitDefEqProofs [jl, b2, hx', e1, e2, e3, e4, stopB]
              · simp -implicitDefEqProofs [jl, b2, hx', e1, e3, e4, stopB, wj, hB]
              · cases e2 : ltL x.1 hi <;> simp -implicitDefEqProofs [jl, b2, hx', e1, e2, e3, e4, stopB, wj, hB]
              · simp -implicitDefEqProofs [jl, b2, hx', e1, e3, e4, stopB, wj]
              · cases e2 : ltL x.1 hi <;> simp -implicitDefEqProofs [jl, b2, hx', e1, e2, e3, e4, stopB, wj]
            · intro z2
              simp -implicitDefEqProofs
          · intro z i i0 hzi
            by_cases hil : i < (ms.length : Int)
            · have hzm : ¬ (z.length : Int) < most := by omega
              simp -implicitDefEqProofs [hil, hzm]
            · simp -implicitDefEqProofs [hil]
          · rw [show ((k : Nat) : Int).toNat = k by omega, hst]
    · have hB : lb = ms.length := by omega
      cases hlb : lb with
      | zero =>
        exfalso
        have : ps.length = 0 := by omega
        exact h.ne (List.length_eq_zero_iff.1 this)
      | succ k =>
        subst hlb
        have hk1 : k < ms.length := by omega
        have wl : IntKind.i64.wrap (((k : Int) + 1) - 1) = k := by rw [wi64 _ (by omega) (by omega)]; omega
        have wl' : IntKind.i64.wrap (k : Int) = k := wi64 _ (by omega) (by omega)
        have hA2 : ¬ (k : Int) + 1 < ms.length := by omega
        have hmk : ms[k]? = some (ms[k]'hk1) := List.getElem?_eq_getElem hk1
        have hbf := hlt (by omega) hmk
        obtain ⟨p', hp', hpe'⟩ := hmi hmk
        have hst := hsf k (.inr ⟨p', hp', by rw [hpe'] at hbf; exact (ltL_asymm _ _ hbf).1⟩)
        have hb0 : ¬ (k : Int) < 0 := by omega
        have hk0 : 0 ≤ (k : Int) + 1 := by omega
        simp -implicitDefEqProofs [hA2, wl, wl', hb0, hk0]
        refine (scan_outer (a := fun z => (LS.out [⟨.sl ItT, z⟩] : LS (Int × Int) (List D))) (i0 := ((k : Nat) : Int)) hn lo hi most (by omega) ?_ ?_).trans ?_
        · intro z i p i0 il hpi hzm hzl
          have b1 : 0 ≤ i ∧ i < (ms.length : Int) := by omega
          have hgp := hgood p (List.mem_of_getElem? hpi)
          have hbl := blk_len hgp.2.1 hgp.2.2.1
          have k47 := h47 (blkPut p) (blk_bytes hgp.2.2.2.2) (by omega)
          have hbe : blkGet (blkPut p) = some p := blkGet_enc hgp.1 hgp.2.1 hgp.2.2.1 hgp.2.2.2.1
          rw [hbe] at k47
          simp only [resB] at k47
          have hii : i.toNat < ms.length := by omega
          have g1 : ms[i.toNat]'hii = (keyOf p, blkPut p) := by
            have := hmg hpi
            rw [List.getElem?_eq_getElem hii] at this
            simpa using this
          have wi : IntKind.i64.wrap (i + 1) = i + 1 := wi64 _ (by omega) (by omega)
          simp -implicitDefEqProofs [b1, g1, hzm, k47, wi]
          refine scan_inner p lo hi most z (a := fun z => (LS.out (LS.out [⟨.sl ItT, z⟩]) : LS (List It × Int) (LS (Int × Int) (List D)))) (b := fun z => (LS.again (z, i + 1) : LS (List It × Int) (LS (Int × Int) (List D)))) ?_ ?_
          · intro z2 j x j0 jl hx hz2
            have b2 : 0 ≤ j ∧ j < (p.length : Int) := ⟨j0, jl⟩
            have hjj : j.toNat < p.length := by omega
            have hx' : p[j.toNat]'hjj = x := by
              rw [List.getElem?_eq_getElem hjj] at hx
              simpa using hx
            have wj : IntKind.i64.wrap (j + 1) = j + 1 := wi64 _ (by omega) (by omega)
            have hB : z2.length + 1 ≤ BIG := by simp only [BIG]; omega
            by_cases e3 : most ≤ (z2.length : Int) <;> cases e4 : ltL x.1 lo <;> by_cases e1 : hi = []
            · simp -implicitDefEqProofs [jl, b2, hx', e1, e3, e4, stopB]
            · cases e2 : ltL x.1 hi <;> simp -implicitDefEqProofs [jl, b2, hx', e1, e2, e3, e4, stopB]
            · simp -implicitDefEqProofs [jl, b2, hx', e1, e3, e4, stopB]
            · cases e2 : ltL x.1 hi <;> simp -implicitDefEqProofs [jl, b2, hx', e1, e2, e3, e4, stopB]
            · simp -implicitDefEqProofs [jl, b2, hx', e1, e3, e4, stopB, wj, hB]
            · cases e2 : ltL x.1 hi <;> simp -implicitDefEqProofs [jl, b2, hx', e1, e2, e3, e4, stopB, wj, hB]
            · simp -implicitDefEqProofs [jl, b2, hx', e1, e3, e4, stopB, wj]
            · cases e2 : ltL x.1 hi <;> simp -implicitDefEqProofs [jl, b2, hx', e1, e2, e3, e4, stopB, wj]
          · intro z2
            simp -implicitDefEqProofs
        · intro z i i0 hzi
          by_cases hil : i < (ms.length : Int)
          · have hzm : ¬ (z.length : Int) < most := by omega
            simp -implicitDefEqProofs [hil, hzm]
          · simp -implicitDefEqProofs [hil]
        · rw [show ((k : Nat) : Int).toNat = k by omega, hst]
theorem s1014 {lc : List Ct} (hl0 : look (lc.map fun c => (c.sig.id, c)) 1014 = some c1014) : ∀ (t : Option Tbl) (lo hi : List Int) (most : Int) (ht : TabGood t), Does1 (Phi lc) 1014 [⟨.pt TblT, t⟩, ⟨.str, lo⟩, ⟨.str, hi⟩, ⟨.int .i64, most⟩] [⟨.sl ItT, scanR lo hi most (itemsT t)⟩] :=
  fun t lo hi most ht => by
    have eFc : c1014.F = F1014 := rfl
    have eFh := f1014 t lo hi most ht
    rw [← eFc] at eFh
    exact Does1.of hl0 eFh rfl
theorem scanR_all (l : List It) : scanR [] [] l.length l = l := by
  have h : l.filter (inR [] []) = l := by
    refine List.filter_eq_self.2 (fun x _ => ?_)
    have : ltL x.1 [] = false := by cases x.1 <;> rfl
    simp [inR, this]
  simp [scanR, h]
theorem f1009 (t : Option Tbl) (ht : TabGood t) : F1009 [⟨.pt TblT, t⟩] = some [⟨.sl ItT, itemsT t⟩] := by
  have h1010 := s1010 (lc := [c1010, c1014]) rfl
  have h1014 := s1014 (lc := [c1010, c1014]) rfl
  simp only [F1009, Fof, ir1009]
  generalize Phi [c1010, c1014] = Φ at *
  have k1 := h1010 t
  have k2 := h1014 t [] [] (lenT t) ht
  have hr : scanR [] [] (lenT t) (itemsT t) = itemsT t := by
    match t, ht with
    | none, _ => exact scanR_nil _ _ _
    | some ((ms, sv, n, last), false), _ => exact scanR_nil _ _ _
    | some ((ms, sv, n, last), true), ht =>
      obtain ⟨ps, e, h⟩ := ht.resolve_left (by simp [deadT])
      rw [e, items_tbl h.good]
      exact scanR_all _
  rw [hr] at k2
  generalize lenT t = n at *
  simp -implicitDefEqProofs [k1, k2]
theorem s1009 {lc : List Ct} (hl0 : look (lc.map fun c => (c.sig.id, c)) 1009 = some c1009) : ∀ (t : Option Tbl) (ht : TabGood t), Does1 (Phi lc) 1009 [⟨.pt TblT, t⟩] [⟨.sl ItT, itemsT t⟩] :=
  fun t ht => by
    have eFc : c1009.F = F1009 := rfl
    have eFh := f1009 t ht
    rw [← eFc] at eFh
    exact Does1.of hl0 eFh rfl
end Go.Proofs.YtolcekkcenedjaaGreat.Sx
