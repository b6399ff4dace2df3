/-
  Frames.
-/
import Derived.Test.YtmglkddddpipgaaN2
set_option linter.unusedVariables false
set_option linter.unusedSimpArgs false
namespace Go.Proofs.Ytmglkddddpipgaa.Sx

abbrev FrT : Ty := .pair (.int .i64) (.sl (.int .u8))
abbrev Fr : Type := Int × List Int
def putF (f : Fr) : List Int := one f.2.length ++ (f.1 :: (f.2 ++ sum4 (crcOf (f.1 :: f.2))))
def okF (f : Fr) : Bool := decide (1 ≤ f.1 ∧ f.1 ≤ 250 ∧ f.2.length ≤ 1048576)
def putFs : List Fr → List Int
  | [] => [] | f :: r => putF f ++ putFs r

theorem putFs_app : ∀ (l m : List Fr), putFs (l ++ m) = putFs l ++ putFs m
  | [], m => rfl
  | f :: l, m => by simp only [List.cons_append, putFs, putFs_app l m, List.append_assoc]

def gapF (b : List Int) : Bool := decide (b.length < 3) && b.all (fun c => decide (128 ≤ c))

def firstF (b : List Int) : Option (Int × List Int × Nat) :=
  if gvN b = 0 ∨ 1048576 < gvV b then none else
  match b.drop (gvN b) with
  | [] => none
  | k :: r => if k < 1 ∨ 250 < k then none else
    if r.length < (gvV b).toNat + 4 then none else
    if (r.drop (gvV b).toNat).take 4 = sum4 (crcOf (k :: r.take (gvV b).toNat)) then some (k, r.take (gvV b).toNat, gvN b + 1 + (gvV b).toNat + 4) else none

def errF (b : List Int) : Int :=
  if gapF b = true then 5 else
  if gvN b = 0 ∨ 1048576 < gvV b then 2 else
  match b.drop (gvN b) with
  | [] => 5
  | k :: r => if k < 1 ∨ 250 < k then 2 else if r.length < (gvV b).toNat + 4 then 5 else 2

theorem errF_pos (b : List Int) : errF b = 5 ∨ errF b = 2 := by
  unfold errF
  repeat' split
  all_goals simp

theorem sum4_len (s : Int) : (sum4 s).length = 4 := rfl
theorem sum4_byte (s : Int) : ∀ c ∈ sum4 s, 0 ≤ c ∧ c < 256 := by
  intro c hc; simp only [sum4, List.mem_cons, List.not_mem_nil, or_false] at hc; omega

theorem putF_len (f : Fr) : (putF f).length = (one f.2.length).length + 1 + f.2.length + 4 := by
  simp only [putF, List.length_append, List.length_cons, sum4_len]; omega

theorem putF_byte {f : Fr} (hk : okF f = true) (hb : ∀ c ∈ f.2, 0 ≤ c ∧ c < 256) : ∀ c ∈ putF f, 0 ≤ c ∧ c < 256 := by
  intro c hc; simp only [okF, decide_eq_true_eq] at hk; simp only [putF, List.mem_append, List.mem_cons] at hc; rcases hc with h | h | h | h
  · have := one_byte _ c h; omega
  · subst h; omega
  · exact hb c h
  · exact sum4_byte _ c h

theorem putFs_byte : ∀ {l : List Fr}, (∀ f ∈ l, okF f = true ∧ ∀ c ∈ f.2, 0 ≤ c ∧ c < 256) → ∀ c ∈ putFs l, 0 ≤ c ∧ c < 256
  | [], _, c, hc => by cases hc
  | f :: l, h, c, hc => by
    simp only [putFs, List.mem_append] at hc; rcases hc with hc | hc
    · exact putF_byte (h f (by simp)).1 (h f (by simp)).2 c hc
    · exact putFs_byte (fun g hg => h g (by simp [hg])) c hc

theorem firstF_put {f : Fr} (hk : okF f = true) (r : List Int) : firstF (putF f ++ r) = some (f.1, f.2, (putF f).length) := by
  obtain ⟨k, b⟩ := f; simp only [okF, decide_eq_true_eq] at hk; obtain ⟨k1, k2, k3⟩ := hk; have hg := gv_one b.length (k :: (b ++ sum4 (crcOf (k :: b))) ++ r) (by omega)
  have hp := one_pos b.length
  have e : putF (k, b) ++ r = one b.length ++ (k :: (b ++ sum4 (crcOf (k :: b))) ++ r) := by simp [putF]
  rw [e]; unfold firstF; rw [hg.1, hg.2, if_neg (by omega), List.drop_left]; simp only [List.cons_append, List.append_assoc]; rw [if_neg (by omega), if_neg (by simp only [List.length_append, sum4_len, Int.toNat_natCast]; omega), Int.toNat_natCast, List.drop_left, List.take_left,
    if_pos (by rw [List.take_left' (sum4_len _)])]
  simp only [putF_len]

theorem firstF_inv {b : List Int} (hb : ∀ c ∈ b, 0 ≤ c ∧ c < 256) {k : Int} {y : List Int} {n : Nat} (h : firstF b = some (k, y, n)) :
    b = putF (k, y) ++ b.drop n ∧ n = (putF (k, y)).length ∧ okF (k, y) = true ∧ n ≤ b.length := by
  unfold firstF at h; split at h
  · cases h
  rename_i h1; have hz : gvN b ≠ 0 := fun e => h1 (.inl e)
  have hr := gv_range hb
  obtain ⟨g1, g2⟩ := gv_inv hb hz; split at h
  · cases h
  rename_i k' r hd; split at h
  · cases h
  rename_i h2; split at h
  · cases h
  rename_i h3; split at h
  · rename_i h4; simp only [oi, Prod.mk.injEq] at h; obtain ⟨rfl, rfl, rfl⟩ := h; generalize hu : (gvV b).toNat = u at *
    have hl : (r.take u).length = u := by rw [List.length_take]; omega
    have hbl : b.length = gvN b + 1 + r.length := by
      have := congrArg List.length hd
      simp only [List.length_drop, List.length_cons] at this; omega
    have e1 : b = one u ++ (k' :: r) := by rw [← g1, ← hd, List.take_append_drop]
    have e2 : r = r.take u ++ ((r.drop u).take 4 ++ r.drop (u + 4)) := by
      rw [← List.drop_drop, List.take_append_drop, List.take_append_drop]
    have hlen : (putF (k', r.take u)).length = gvN b + 1 + u + 4 := by simp only [putF_len, hl, g2]
    have e3 : b = putF (k', r.take u) ++ r.drop (u + 4) := by
      have : putF (k', r.take u) ++ r.drop (u + 4) = one u ++ (k' :: (r.take u ++ ((r.drop u).take 4 ++ r.drop (u + 4)))) := by
        simp only [putF, hl, h4, List.append_assoc, List.cons_append]
      rw [this, ← e2, ← e1]
    refine ⟨?_, hlen.symm, ?_, by omega⟩
    · conv => lhs; rw [e3]
      congr 1
      rw [← hlen]; conv => rhs; rw [e3]
      rw [List.drop_left]
    · simp only [okF, decide_eq_true_eq, hl]; omega
  · cases h

theorem putF_pos (f : Fr) : 6 ≤ (putF f).length := by
  have := one_pos f.2.length
  rw [putF_len]; omega

theorem firstF_nil : firstF [] = none := by decide

theorem crcL_app : ∀ (a b : List Int) (r : BitVec 32), crcL r (a ++ b) = crcL (crcL r a) b
  | [], b, r => rfl
  | c :: a, b, r => by simp only [List.cons_append, crcL]; exact crcL_app a b _
theorem crc_more (k : Int) (b : List Int) : val (Mx ^^^ crcL (Mx ^^^ V (crcOf [k])) b) = crcOf (k :: b) := by
  unfold crcOf; rw [V_val, ← BitVec.xor_assoc, BitVec.xor_self, BitVec.zero_xor, ← crcL_app]; rfl
end Go.Proofs.Ytmglkddddpipgaa.Sx

namespace Go.Proofs.Ytmglkddddpipgaa.Sx
abbrev PtT : Ty := .pair (.int .i64) (.pair (.int .i64) (.pair (.int .i64) (.int .u32)))
abbrev Pt : Type := Int × Int × Int × Int
abbrev LgT : Ty := .pair (.ref 0) (.sl (.int .i64))
def headN (n : Nat) : Nat := (one n).length + 1
theorem one_len5 {n : Nat} (h : n < 34359738368) : (one n).length ≤ 5 := one_len 4 n (by omega)
theorem putF_le {f : Fr} (h : f.2.length < 34359738368) : (putF f).length ≤ f.2.length + 10 := by
  have := one_len5 h
  rw [putF_len]; omega
end Go.Proofs.Ytmglkddddpipgaa.Sx

namespace Go.Proofs.Ytmglkddddpipgaa.Sx
def len8 : List Int := [0, 1, 2, 2, 3, 3, 3, 3, 4, 4, 4, 4, 4, 4, 4, 4, 5, 5, 5, 5, 5, 5, 5, 5, 5, 5, 5, 5, 5, 5, 5, 5, 6, 6, 6, 6, 6, 6, 6, 6, 6, 6, 6, 6, 6, 6, 6, 6, 6, 6, 6, 6, 6, 6, 6, 6, 6, 6, 6, 6, 6, 6, 6, 6, 7, 7, 7, 7, 7, 7, 7, 7, 7, 7, 7, 7, 7, 7, 7, 7, 7, 7, 7, 7, 7, 7, 7, 7, 7, 7, 7, 7, 7, 7, 7, 7, 7, 7, 7, 7, 7, 7, 7, 7, 7, 7, 7, 7, 7, 7, 7, 7, 7, 7, 7, 7, 7, 7, 7, 7, 7, 7, 7, 7, 7, 7, 7, 7, 8, 8, 8, 8, 8, 8, 8, 8, 8, 8, 8, 8, 8, 8, 8, 8, 8, 8, 8, 8, 8, 8, 8, 8, 8, 8, 8, 8, 8, 8, 8, 8, 8, 8, 8, 8, 8, 8, 8, 8, 8, 8, 8, 8, 8, 8, 8, 8, 8, 8, 8, 8, 8, 8, 8, 8, 8, 8, 8, 8, 8, 8, 8, 8, 8, 8, 8, 8, 8, 8, 8, 8, 8, 8, 8, 8, 8, 8, 8, 8, 8, 8, 8, 8, 8, 8, 8, 8, 8, 8, 8, 8, 8, 8, 8, 8, 8, 8, 8, 8, 8, 8, 8, 8, 8, 8, 8, 8, 8, 8, 8, 8, 8, 8, 8, 8, 8, 8, 8, 8, 8, 8, 8, 8, 8, 8, 8, 8]
def sig157 : Sig := { id := 157, ins := [(false, Ty.int .u64)], outs := [(false, [(Ty.int .i64, none)])] }
def ir157 : IR := .op (.icmp .geq) [.v 0, .l (.int .u64 4294967296)] (.ite (.v 1) (.op (.ibin .shr .u64) [.v 0, .l (.int .u64 32)] (.op (.icmp .geq) [.v 2, .l (.int .u64 65536)] (.ite (.v 3) (.op (.ibin .shr .u64) [.v 2, .l (.int .u64 16)] (.op (.icmp .geq) [.v 4, .l (.int .u64 256)] (.ite (.v 5) (.op (.ibin .shr .u64) [.v 4, .l (.int .u64 8)] (.op (.conv .u8) [.v 6] (.op .sidx [.l (.str len8), .v 7] (.op (.conv .i64) [.v 8] (.op (.ibin .add .i64) [.l (.int .i64 56), .v 9] (.ret [.v 10])))))) (.op (.conv .u8) [.v 4] (.op .sidx [.l (.str len8), .v 6] (.op (.conv .i64) [.v 7] (.op (.ibin .add .i64) [.l (.int .i64 48), .v 8] (.ret [.v 9])))))))) (.op (.icmp .geq) [.v 2, .l (.int .u64 256)] (.ite (.v 4) (.op (.ibin .shr .u64) [.v 2, .l (.int .u64 8)] (.op (.conv .u8) [.v 5] (.op .sidx [.l (.str len8), .v 6] (.op (.conv .i64) [.v 7] (.op (.ibin .add .i64) [.l (.int .i64 40), .v 8] (.ret [.v 9])))))) (.op (.conv .u8) [.v 2] (.op .sidx [.l (.str len8), .v 5] (.op (.conv .i64) [.v 6] (.op (.ibin .add .i64) [.l (.int .i64 32), .v 7] (.ret [.v 8])))))))))) (.op (.icmp .geq) [.v 0, .l (.int .u64 65536)] (.ite (.v 2) (.op (.ibin .shr .u64) [.v 0, .l (.int .u64 16)] (.op (.icmp .geq) [.v 3, .l (.int .u64 256)] (.ite (.v 4) (.op (.ibin .shr .u64) [.v 3, .l (.int .u64 8)] (.op (.conv .u8) [.v 5] (.op .sidx [.l (.str len8), .v 6] (.op (.conv .i64) [.v 7] (.op (.ibin .add .i64) [.l (.int .i64 24), .v 8] (.ret [.v 9])))))) (.op (.conv .u8) [.v 3] (.op .sidx [.l (.str len8), .v 5] (.op (.conv .i64) [.v 6] (.op (.ibin .add .i64) [.l (.int .i64 16), .v 7] (.ret [.v 8])))))))) (.op (.icmp .geq) [.v 0, .l (.int .u64 256)] (.ite (.v 3) (.op (.ibin .shr .u64) [.v 0, .l (.int .u64 8)] (.op (.conv .u8) [.v 4] (.op .sidx [.l (.str len8), .v 5] (.op (.conv .i64) [.v 6] (.op (.ibin .add .i64) [.l (.int .i64 8), .v 7] (.ret [.v 8])))))) (.op (.conv .u8) [.v 0] (.op .sidx [.l (.str len8), .v 4] (.op (.conv .i64) [.v 5] (.op (.ibin .add .i64) [.l (.int .i64 0), .v 6] (.ret [.v 7]))))))))))
def sig1057 : Sig := { id := 1057, ins := [(false, Ty.int .u64)], outs := [(false, [(Ty.int .i64, none)])] }
def ir1057 : IR := .op (.call 157) [.v 0] (.op (.ibin .add .i64) [.v 1, .l (.int .i64 7)] (.op (.ibin .sub .i64) [.v 2, .l (.int .i64 1)] (.op (.ibin .quo .i64) [.v 3, .l (.int .i64 7)] (.op .max [.l (.int .i64 1), .v 4] (.ret [.v 5])))))
def sig1039 : Sig := { id := 1039, ins := [(false, Ty.int .i64)], outs := [(false, [(Ty.int .i64, none)])] }
def ir1039 : IR := .op (.icmp .lss) [.v 0, .l (.int .i64 0)] (.ite (.v 1) (.ret [.l (.int .i64 0)]) (.op (.icmp .gtr) [.v 0, .l (.int .i64 1048576)] (.ite (.v 2) (.ret [.l (.int .i64 0)]) (.op (.conv .u64) [.v 0] (.op (.call 1057) [.v 3] (.op (.ibin .add .i64) [.v 4, .l (.int .i64 1)] (.ret [.v 5])))))))
def sig1054 : Sig := { id := 1054, ins := [(false, Ty.int .i64)], outs := [(false, [(Ty.int .i64, none)])] }
def ir1054 : IR := .op (.call 1039) [.v 0] (.op (.icmp .eql) [.v 1, .l (.int .i64 0)] (.ite (.v 2) (.ret [.l (.int .i64 0)]) (.op (.ibin .add .i64) [.v 1, .v 0] (.op (.ibin .add .i64) [.v 3, .l (.int .i64 4)] (.ret [.v 4])))))
def sig1050 : Sig := { id := 1050, ins := [(true, (Ty.int .i64).pair (Ty.int .u8).sl)], outs := [(false, [(Ty.bool, none)])] }
def ir1050 : IR := .op (.icmp .geq) [.v 0, .l (.int .i64 1)] (.ite (.v 2) (.op (.icmp .leq) [.v 0, .l (.int .i64 250)] (.ite (.v 3) (.op .len [.v 1] (.op (.icmp .leq) [.v 4, .l (.int .i64 1048576)] (.ret [.v 5]))) (.ret [.l (.bool false)]))) (.ret [.l (.bool false)]))
def sig1052 : Sig := { id := 1052, ins := [(false, Ty.int .u8), (false, (Ty.int .u8).sl)], outs := [(false, [(Ty.int .u32, none)])] }
def ir1052 : IR := .op (.mk (Ty.int .u8) 1) [.v 0] (.op (.call 73) [.v 2] (.op (.call 122) [.v 3, .v 1] (.ret [.v 4])))
def sig1053 : Sig := { id := 1053, ins := [(false, (Ty.int .u8).sl)], outs := [(false, [(Ty.bool, none)])] }
def ir1053 : IR := .op .len [.v 0] (.op (.icmp .lss) [.v 1, .l (.int .i64 3)] (.ite (.v 2) (.op .len [.v 0] (.loop [.l (.int .i64 0)] [Ty.int .i64] (.op (.icmp .lss) [.v 4, .v 3] (.ite (.v 5) (.op .inb [.v 0, .v 4] (.op (.idx (Ty.int .u8)) [.v 0, .v 4] (.op (.icmp .lss) [.v 6, .l (.int .u8 128)] (.ite (.v 7) (.op (.icmp .geq) [.v 4, .l (.int .i64 0)] (.ite (.v 2) (.op .not [.v 8] (.ret [.v 9])) (.ret [.l (.bool false)]))) (.op (.ibin .add .i64) [.v 4, .l (.int .i64 1)] (.jump 0 [.v 8])))))) (.ite (.v 2) (.ret [.l (.bool true)]) (.ret [.l (.bool false)])))))) (.ret [.l (.bool false)])))
def sig1055 : Sig := { id := 1055, ins := [(false, (Ty.int .u8).sl)], outs := [(false, [(Ty.int .u32, none)])] }
def ir1055 : IR := .op .inb [.v 0, .l (.int .i64 0)] (.op (.idx (Ty.int .u8)) [.v 0, .l (.int .i64 0)] (.op (.conv .u32) [.v 1] (.op .inb [.v 0, .l (.int .i64 1)] (.op (.idx (Ty.int .u8)) [.v 0, .l (.int .i64 1)] (.op (.conv .u32) [.v 3] (.op (.ibin .shl .u32) [.v 4, .l (.int .u64 8)] (.op (.ibin .or .u32) [.v 2, .v 5] (.op .inb [.v 0, .l (.int .i64 2)] (.op (.idx (Ty.int .u8)) [.v 0, .l (.int .i64 2)] (.op (.conv .u32) [.v 7] (.op (.ibin .shl .u32) [.v 8, .l (.int .u64 16)] (.op (.ibin .or .u32) [.v 6, .v 9] (.op .inb [.v 0, .l (.int .i64 3)] (.op (.idx (Ty.int .u8)) [.v 0, .l (.int .i64 3)] (.op (.conv .u32) [.v 11] (.op (.ibin .shl .u32) [.v 12, .l (.int .u64 24)] (.op (.ibin .or .u32) [.v 10, .v 13] (.ret [.v 14]))))))))))))))))))
def sig1056 : Sig := { id := 1056, ins := [(false, (Ty.int .u8).sl)], outs := [(false, [((Ty.int .u8).sl, some 5)])] }
def ir1056 : IR := .nilc (.v 0) (.ret [.l (.nil (Ty.int .u8))]) (.op (.mk (Ty.int .u8) 0) [] (.op .app [.v 1, .v 0] (.ret [.v 2])))
def sig1035 : Sig := { id := 1035, ins := [(false, ((Ty.int .i64).pair (Ty.int .u8).sl).sl)], outs := [(false, [((Ty.int .u8).sl, some 5)]), (false, [(Ty.int .i64, none)])] }
def ir1035 : IR := .op .len [.v 0] (.loop [.l (.nil (Ty.int .u8)), .l (.int .i64 0)] [(Ty.int .u8).sl, Ty.int .i64] (.op (.icmp .lss) [.v 3, .v 1] (.ite (.v 4) (.op .inb [.v 0, .v 3] (.op (.idx ((Ty.int .i64).pair (Ty.int .u8).sl)) [.v 0, .v 3] (.op (.call 1050) [.v 5, .v 6] (.op .not [.v 7] (.ite (.v 8) (.ret [.l (.nil (Ty.int .u8)), .l (.int .i64 1)]) (.op .len [.v 6] (.op (.conv .u64) [.v 9] (.op (.mk (Ty.int .u64) 1) [.v 10] (.op (.call 66) [.v 11] (.op .app [.v 2, .v 12] (.op (.conv .u8) [.v 5] (.op (.mk (Ty.int .u8) 1) [.v 14] (.op .app [.v 13, .v 15] (.op .app [.v 16, .v 6] (.op (.conv .u8) [.v 5] (.op (.call 1052) [.v 18, .v 6] (.op (.conv .u8) [.v 19] (.op (.ibin .shr .u32) [.v 19, .l (.int .u64 8)] (.op (.conv .u8) [.v 21] (.op (.ibin .shr .u32) [.v 19, .l (.int .u64 16)] (.op (.conv .u8) [.v 23] (.op (.ibin .shr .u32) [.v 19, .l (.int .u64 24)] (.op (.conv .u8) [.v 25] (.op (.mk (Ty.int .u8) 4) [.v 20, .v 22, .v 24, .v 26] (.op .app [.v 17, .v 27] (.op (.ibin .add .i64) [.v 3, .l (.int .i64 1)] (.jump 0 [.v 28, .v 29]))))))))))))))))))))))))))) (.ret [.v 2, .l (.int .i64 0)]))))
def sig1036 : Sig := { id := 1036, ins := [(false, (Ty.int .u8).sl)], outs := [(true, [(Ty.int .i64, none), ((Ty.int .u8).sl, some 5)]), (false, [(Ty.int .i64, none)]), (false, [(Ty.int .i64, none)])] }
def ir1036 : IR := .op (.call 1053) [.v 0] (.ite (.v 1) (.ret [.l (.int .i64 0), .l (.nil (Ty.int .u8)), .l (.int .i64 0), .l (.int .i64 5)]) (.op (.call 90) [.v 0] (.op (.icmp .neq) [.v 4, .l (.int .i64 0)] (.ite (.v 5) (.ret [.l (.int .i64 0), .l (.nil (Ty.int .u8)), .l (.int .i64 0), .l (.int .i64 2)]) (.op (.icmp .gtr) [.v 2, .l (.int .u64 1048576)] (.ite (.v 6) (.ret [.l (.int .i64 0), .l (.nil (Ty.int .u8)), .l (.int .i64 0), .l (.int .i64 2)]) (.op .len [.v 0] (.op (.icmp .eql) [.v 3, .v 7] (.ite (.v 8) (.ret [.l (.int .i64 0), .l (.nil (Ty.int .u8)), .l (.int .i64 0), .l (.int .i64 5)]) (.op .inb [.v 0, .v 3] (.op (.idx (Ty.int .u8)) [.v 0, .v 3] (.op (.icmp .lss) [.v 9, .l (.int .u8 1)] (.ite (.v 10) (.ret [.l (.int .i64 0), .l (.nil (Ty.int .u8)), .l (.int .i64 0), .l (.int .i64 2)]) (.op .inb [.v 0, .v 3] (.op (.idx (Ty.int .u8)) [.v 0, .v 3] (.op (.icmp .gtr) [.v 11, .l (.int .u8 250)] (.ite (.v 12) (.ret [.l (.int .i64 0), .l (.nil (Ty.int .u8)), .l (.int .i64 0), .l (.int .i64 2)]) (.op (.conv .i64) [.v 2] (.op .len [.v 0] (.op (.call 1054) [.v 13] (.op (.icmp .lss) [.v 14, .v 15] (.ite (.v 16) (.ret [.l (.int .i64 0), .l (.nil (Ty.int .u8)), .l (.int .i64 0), .l (.int .i64 5)]) (.op (.ibin .add .i64) [.v 3, .l (.int .i64 1)] (.op (.ibin .add .i64) [.v 3, .l (.int .i64 1)] (.op (.ibin .add .i64) [.v 18, .v 13] (.op .sub [.v 0, .v 17, .v 19] (.op (.ibin .add .i64) [.v 3, .l (.int .i64 1)] (.op (.ibin .add .i64) [.v 21, .v 13] (.op .sub [.v 0, .v 22] (.op (.call 1055) [.v 23] (.op .inb [.v 0, .v 3] (.op (.idx (Ty.int .u8)) [.v 0, .v 3] (.op (.call 1052) [.v 25, .v 20] (.op (.icmp .neq) [.v 24, .v 26] (.ite (.v 27) (.ret [.l (.int .i64 0), .l (.nil (Ty.int .u8)), .l (.int .i64 0), .l (.int .i64 2)]) (.op .inb [.v 0, .v 3] (.op (.idx (Ty.int .u8)) [.v 0, .v 3] (.op (.conv .i64) [.v 28] (.op (.call 1056) [.v 20] (.op (.call 1054) [.v 13] (.ret [.v 29, .v 30, .v 31, .l (.int .i64 0)])))))))))))))))))))))))))))))))))))))))))
noncomputable def F157 : List D → Option (List D) := Fof [] ir157
noncomputable def c157 : Ct := ⟨sig157, F157⟩
noncomputable def F1057 : List D → Option (List D) := Fof [c157] ir1057
noncomputable def c1057 : Ct := ⟨sig1057, F1057⟩
noncomputable def F1039 : List D → Option (List D) := Fof [c1057] ir1039
noncomputable def c1039 : Ct := ⟨sig1039, F1039⟩
noncomputable def F1054 : List D → Option (List D) := Fof [c1039] ir1054
noncomputable def c1054 : Ct := ⟨sig1054, F1054⟩
noncomputable def F1050 : List D → Option (List D) := Fof [] ir1050
noncomputable def c1050 : Ct := ⟨sig1050, F1050⟩
noncomputable def F1052 : List D → Option (List D) := Fof [c73, c122] ir1052
noncomputable def c1052 : Ct := ⟨sig1052, F1052⟩
noncomputable def F1053 : List D → Option (List D) := Fof [] ir1053
noncomputable def c1053 : Ct := ⟨sig1053, F1053⟩
noncomputable def F1055 : List D → Option (List D) := Fof [] ir1055
noncomputable def c1055 : Ct := ⟨sig1055, F1055⟩
noncomputable def F1056 : List D → Option (List D) := Fof [] ir1056
noncomputable def c1056 : Ct := ⟨sig1056, F1056⟩
noncomputable def F1035 : List D → Option (List D) := Fof [c1050, c66, c1052] ir1035
noncomputable def c1035 : Ct := ⟨sig1035, F1035⟩
noncomputable def F1036 : List D → Option (List D) := Fof [c1053, c90, c1054, c1055, c1052, c1056] ir1036
noncomputable def c1036 : Ct := ⟨sig1036, F1036⟩
end Go.Proofs.Ytmglkddddpipgaa.Sx

set_option maxHeartbeats 1000000
namespace Go.Proofs.Ytmglkddddpipgaa.Sx

def tab8 (x : Int) : Int := len8[x.toNat]?.getD 0
theorem len8_len : len8.length = 256 := by decide +kernel
theorem tab8_1 : ∀ n : Nat, n < 128 → 0 ≤ tab8 n ∧ tab8 n ≤ 7 := by decide +kernel
theorem tab8_2 : ∀ n : Nat, n < 256 → 128 ≤ n → tab8 n = 8 := by decide +kernel
theorem tab8_3 : ∀ n : Nat, n < 64 → 1 ≤ n → 1 ≤ tab8 n ∧ tab8 n ≤ 6 := by decide +kernel
theorem tab8_4 : ∀ n : Nat, n < 256 → 64 ≤ n → 7 ≤ tab8 n ∧ tab8 n ≤ 8 := by decide +kernel
theorem tab8_5 : ∀ n : Nat, n < 32 → 1 ≤ n → 1 ≤ tab8 n ∧ tab8 n ≤ 5 := by decide +kernel
def len64 (u : Int) : Int := if 65536 ≤ u then 16 + tab8 (u / 65536) else if 256 ≤ u then 8 + tab8 (u / 256) else tab8 u

theorem fdiv16u (x : Int) : x.fdiv (2 ^ Nat.min 16 IntKind.u64.bits) = x / 65536 := fdiv_pos x 65536 (by omega)
theorem fdiv8u (x : Int) : x.fdiv (2 ^ Nat.min 8 IntKind.u64.bits) = x / 256 := fdiv_pos x 256 (by omega)

theorem tab8_g (x : Int) (h : x.toNat < len8.length) : len8[x.toNat]'h = tab8 x := by
  unfold tab8; rw [List.getElem?_eq_getElem h]; rfl
theorem tab8_le : ∀ n : Nat, n < 256 → 0 ≤ tab8 n ∧ tab8 n ≤ 8 := by decide +kernel
theorem tab8_r (x : Int) (h0 : 0 ≤ x) (h1 : x < 256) : 0 ≤ tab8 x ∧ tab8 x ≤ 8 := by
  obtain ⟨n, rfl⟩ := Int.eq_ofNat_of_zero_le h0; exact tab8_le n (by omega)

theorem f157 (u : Int) (h0 : 0 ≤ u) (h1 : u < 2097152) : F157 [⟨.int .u64, u⟩] = some [⟨.int .i64, len64 u⟩] := by
  simp only [F157, Fof, ir157]; have hl := len8_len
  unfold len64; have c0 : ¬ 4294967296 ≤ u := by omega
  by_cases c1 : 65536 ≤ u
  · have e1 : u.fdiv (2 ^ Nat.min 16 IntKind.u64.bits) = u / 65536 := fdiv16u u
    have c2 : ¬ 256 ≤ u / 65536 := by omega
    have w : IntKind.u8.wrap (u / 65536) = u / 65536 := by rw [wu8]; omega
    have b : 0 ≤ u / 65536 ∧ u / 65536 < 256 := by omega
    have r := tab8_r (u / 65536) b.1 b.2
    have w2 : IntKind.i64.wrap (tab8 (u / 65536)) = tab8 (u / 65536) := wi64 _ (by omega) (by omega)
    have w3 : IntKind.i64.wrap (16 + tab8 (u / 65536)) = 16 + tab8 (u / 65536) := wi64 _ (by omega) (by omega)
    simp -implicitDefEqProofs [c0, c1, e1, c2, w, b, hl, tab8_g, w2, w3]
  · by_cases c2 : 256 ≤ u
    · have e1 : u.fdiv (2 ^ Nat.min 8 IntKind.u64.bits) = u / 256 := fdiv8u u
      have w : IntKind.u8.wrap (u / 256) = u / 256 := by rw [wu8]; omega
      have b : 0 ≤ u / 256 ∧ u / 256 < 256 := by omega
      have r := tab8_r (u / 256) b.1 b.2
      have w2 : IntKind.i64.wrap (tab8 (u / 256)) = tab8 (u / 256) := wi64 _ (by omega) (by omega)
      have w3 : IntKind.i64.wrap (8 + tab8 (u / 256)) = 8 + tab8 (u / 256) := wi64 _ (by omega) (by omega)
      simp -implicitDefEqProofs [c0, c1, e1, c2, w, b, hl, tab8_g, w2, w3]
    · have w : IntKind.u8.wrap u = u := by rw [wu8]; omega
      have b : 0 ≤ u ∧ u < 256 := by omega
      have r := tab8_r u b.1 b.2
      have w2 : IntKind.i64.wrap (tab8 u) = tab8 u := wi64 _ (by omega) (by omega)
      have w3 : IntKind.i64.wrap (0 + tab8 u) = tab8 u := by rw [Int.zero_add]; exact w2
      simp -implicitDefEqProofs [c0, c1, c2, w, b, hl, tab8_g, w2, w3]
theorem s157 {lc : List Ct} (hl0 : Sx.look (lc.map fun c => (c.sig.id, c)) 157 = some c157) : ∀ (u : Int) (h0 : 0 ≤ u) (h1 : u < 2097152), Does1 (Phi lc) 157 [⟨.int .u64, u⟩] [⟨.int .i64, len64 u⟩] :=
  fun u h0 h1 => by
    have eFc : c157.F = F157 := rfl
    have eFh := f157 u h0 h1
    rw [← eFc] at eFh; exact Does1.of hl0 eFh rfl
theorem len64_one (u : Int) (h0 : 0 ≤ u) (h1 : u < 2097152) : (if (len64 u + 6) / 7 < 1 then 1 else (len64 u + 6) / 7) = ((one u.toNat).length : Int) ∧ 0 ≤ len64 u ∧ len64 u ≤ 24 := by
  obtain ⟨n, rfl⟩ := Int.eq_ofNat_of_zero_le h0; rw [Int.toNat_natCast]; by_cases c : n < 128
  · have := tab8_1 n c
    have e : len64 n = tab8 n := by unfold len64; rw [if_neg (by omega), if_neg (by omega)]
    rw [one_small c, e]; simp only [List.length_cons, List.length_nil]; refine ⟨?_, by omega, by omega⟩
    split <;> omega
  · by_cases c2 : n < 16384
    · have e : (one n).length = 2 := by rw [one_big c, one_small (by omega)]; rfl
      rw [e]; by_cases c3 : 256 ≤ (n : Int)
      · have := tab8_3 (n / 256) (by omega) (by omega)
        have e : len64 n = 8 + tab8 ((n / 256 : Nat) : Int) := by unfold len64; rw [if_neg (by omega), if_pos c3, show ((n : Int) / 256) = ((n / 256 : Nat) : Int) by omega]
        rw [e]; refine ⟨?_, by omega, by omega⟩
        split <;> omega
      · have := tab8_2 n (by omega) (by omega)
        have e : len64 n = tab8 n := by unfold len64; rw [if_neg (by omega), if_neg (by omega)]
        rw [e]; refine ⟨?_, by omega, by omega⟩
        split <;> omega
    · have e : (one n).length = 3 := by rw [one_big c, one_big (by omega), one_small (by omega)]; rfl
      rw [e]; by_cases c4 : 65536 ≤ (n : Int)
      · have := tab8_5 (n / 65536) (by omega) (by omega)
        have e : len64 n = 16 + tab8 ((n / 65536 : Nat) : Int) := by unfold len64; rw [if_pos c4, show ((n : Int) / 65536) = ((n / 65536 : Nat) : Int) by omega]
        rw [e]; refine ⟨?_, by omega, by omega⟩
        split <;> omega
      · have := tab8_4 (n / 256) (by omega) (by omega)
        have e : len64 n = 8 + tab8 ((n / 256 : Nat) : Int) := by unfold len64; rw [if_neg c4, if_pos (by omega), show ((n : Int) / 256) = ((n / 256 : Nat) : Int) by omega]
        rw [e]; refine ⟨?_, by omega, by omega⟩
        split <;> omega

theorem f1057 (u : Int) (h0 : 0 ≤ u) (h1 : u < 2097152) : F1057 [⟨.int .u64, u⟩] = some [⟨.int .i64, (one u.toNat).length⟩] := by
  have h157 := s157 (lc := [c157]) rfl
  simp only [F1057, Fof, ir1057]; generalize Phi [c157] = Φ at *
  have k := h157 u h0 h1
  obtain ⟨e1, e2, e3⟩ := len64_one u h0 h1; generalize len64 u = z at *
  have w1 : IntKind.i64.wrap (z + 7) = z + 7 := wi64 _ (by omega) (by omega)
  have w2 : IntKind.i64.wrap (z + 7 - 1) = z + 6 := by rw [wi64 _ (by omega) (by omega)]; omega
  have w3 : IntKind.i64.wrap ((z + 6).tdiv 7) = (z + 6) / 7 := by rw [td _ 7 (by omega)]; exact wi64 _ (by omega) (by omega)
  rw [← e1]; simp -implicitDefEqProofs [k, w1, w2, w3]
  have e0 : ∀ x : Int, (if 1 < x then x else 1) = if x < 1 then 1 else x := by
    intro x
    repeat' split
    all_goals omega
  exact e0 _
theorem s1057 {lc : List Ct} (hl0 : Sx.look (lc.map fun c => (c.sig.id, c)) 1057 = some c1057) : ∀ (u : Int) (h0 : 0 ≤ u) (h1 : u < 2097152), Does1 (Phi lc) 1057 [⟨.int .u64, u⟩] [⟨.int .i64, (one u.toNat).length⟩] :=
  fun u h0 h1 => by
    have eFc : c1057.F = F1057 := rfl
    have eFh := f1057 u h0 h1
    rw [← eFc] at eFh; exact Does1.of hl0 eFh rfl
def headI (n : Int) : Int := if n < 0 ∨ 1048576 < n then 0 else (headN n.toNat : Int)
def sizeI (n : Int) : Int := if n < 0 ∨ 1048576 < n then 0 else (headN n.toNat : Int) + n + 4
theorem headN_r {n : Nat} (h : n ≤ 1048576) : 2 ≤ headN n ∧ headN n ≤ 6 := by
  have h1 := one_pos n
  have h2 := one_len5 (n := n) (by omega)
  unfold headN; omega
theorem f1039 (n : Int) : F1039 [⟨.int .i64, n⟩] = some [⟨.int .i64, headI n⟩] := by
  have h1057 := s1057 (lc := [c1057]) rfl
  simp only [F1039, Fof, ir1039]; generalize Phi [c1057] = Φ at *
  unfold headI; by_cases c1 : n < 0
  · simp -implicitDefEqProofs [c1]
  by_cases c2 : 1048576 < n
  · simp -implicitDefEqProofs [c1, c2]
  have k := h1057 n (by omega) (by omega)
  have hr := headN_r (n := n.toNat) (by omega)
  have w1 : IntKind.u64.wrap n = n := wu64 _ (by omega) (by omega)
  have w2 : IntKind.i64.wrap (((one n.toNat).length : Int) + 1) = ((one n.toNat).length : Int) + 1 := wi64 _ (by unfold headN at hr; omega) (by unfold headN at hr; omega)
  simp -implicitDefEqProofs [c1, c2, k, w1, w2, headN]
theorem s1039 {lc : List Ct} (hl0 : Sx.look (lc.map fun c => (c.sig.id, c)) 1039 = some c1039) : ∀ (n : Int), Does1 (Phi lc) 1039 [⟨.int .i64, n⟩] [⟨.int .i64, headI n⟩] :=
  fun n => by
    have eFc : c1039.F = F1039 := rfl
    have eFh := f1039 n
    rw [← eFc] at eFh; exact Does1.of hl0 eFh rfl
theorem f1054 (n : Int) : F1054 [⟨.int .i64, n⟩] = some [⟨.int .i64, sizeI n⟩] := by
  have h1039 := s1039 (lc := [c1039]) rfl
  simp only [F1054, Fof, ir1054]; generalize Phi [c1039] = Φ at *
  have k := h1039 n
  unfold headI at k; unfold sizeI; by_cases c : n < 0 ∨ 1048576 < n
  · rw [if_pos c] at k; simp -implicitDefEqProofs [k, c]
  rw [if_neg c] at k; have hr := headN_r (n := n.toNat) (by omega)
  have w1 : IntKind.i64.wrap ((headN n.toNat : Int) + n) = (headN n.toNat : Int) + n := wi64 _ (by omega) (by omega)
  have w2 : IntKind.i64.wrap ((headN n.toNat : Int) + n + 4) = (headN n.toNat : Int) + n + 4 := wi64 _ (by omega) (by omega)
  have hz : ¬ ((headN n.toNat : Int) = 0) := by omega
  have hz' : ¬ (headN n.toNat = 0) := by omega
  simp -implicitDefEqProofs [k, w1, w2, c, hz, hz']
theorem s1054 {lc : List Ct} (hl0 : Sx.look (lc.map fun c => (c.sig.id, c)) 1054 = some c1054) : ∀ (n : Int), Does1 (Phi lc) 1054 [⟨.int .i64, n⟩] [⟨.int .i64, sizeI n⟩] :=
  fun n => by
    have eFc : c1054.F = F1054 := rfl
    have eFh := f1054 n
    rw [← eFc] at eFh; exact Does1.of hl0 eFh rfl
theorem f1050 (k : Int) (x : List Int) : F1050 [⟨.int .i64, k⟩, ⟨.sl (.int .u8), x⟩] = some [⟨.bool, okF (k, x)⟩] := by
  simp only [F1050, Fof, ir1050]; unfold okF; by_cases c1 : 1 ≤ k <;> by_cases c2 : k ≤ 250 <;> by_cases c3 : (x.length : Int) ≤ 1048576 <;> simp -implicitDefEqProofs [c1, c2, c3] <;> omega
theorem s1050 {lc : List Ct} (hl0 : Sx.look (lc.map fun c => (c.sig.id, c)) 1050 = some c1050) : ∀ (k : Int) (x : List Int), Does1 (Phi lc) 1050 [⟨.int .i64, k⟩, ⟨.sl (.int .u8), x⟩] [⟨.bool, okF (k, x)⟩] :=
  fun k x => by
    have eFc : c1050.F = F1050 := rfl
    have eFh := f1050 k x
    rw [← eFc] at eFh; exact Does1.of hl0 eFh rfl
theorem f1052 (k : Int) (x : List Int) (h0 : 0 ≤ k) (h1 : k < 256) (hb : ∀ c ∈ x, 0 ≤ c ∧ c < 256) (hl : x.length < 100000000000) : F1052 [⟨.int .u8, k⟩, ⟨.sl (.int .u8), x⟩] = some [⟨.int .u32, crcOf (k :: x)⟩] := by
  have h73 := s73 (lc := [c73, c122]) rfl
  have h122 := s122 (lc := [c73, c122]) rfl
  simp only [F1052, Fof, ir1052]; generalize Phi [c73, c122] = Φ at *
  have k1 := h73 [k] (by intro c hc; simp only [List.mem_singleton] at hc; omega) (by simp)
  have hr := crcOf_lt [k]
  have k2 := h122 (crcOf [k]) x hr.1 hr.2 hb (by omega)
  rw [crc_more] at k2; have hmk : mkD (.int .u8) 1 [⟨.int .u8, k⟩] = some ⟨.sl (.int .u8), [k]⟩ := rfl
  simp -implicitDefEqProofs [k1, k2, hmk]
theorem s1052 {lc : List Ct} (hl0 : Sx.look (lc.map fun c => (c.sig.id, c)) 1052 = some c1052) : ∀ (k : Int) (x : List Int) (h0 : 0 ≤ k) (h1 : k < 256) (hb : ∀ c ∈ x, 0 ≤ c ∧ c < 256) (hl : x.length < 100000000000), Does1 (Phi lc) 1052 [⟨.int .u8, k⟩, ⟨.sl (.int .u8), x⟩] [⟨.int .u32, crcOf (k :: x)⟩] :=
  fun k x h0 h1 hb hl => by
    have eFc : c1052.F = F1052 := rfl
    have eFh := f1052 k x h0 h1 hb hl
    rw [← eFc] at eFh; exact Does1.of hl0 eFh rfl
theorem f1053 (x : List Int) (hl : x.length < 100000000000) : F1053 [⟨.sl (.int .u8), x⟩] = some [⟨.bool, gapF x⟩] := by
  simp only [F1053, Fof, ir1053]; unfold gapF; by_cases c : (x.length : Int) < 3
  rotate_left
  · have c' : ¬ x.length < 3 := by omega
    simp -implicitDefEqProofs [c, c']
  have c' : x.length < 3 := by omega
  simp -implicitDefEqProofs [c, c']
  refine (iter_meas (fun s : Int => (x.length - s).toNat) (fun s => ([⟨.bool, (x.drop s.toNat).all (fun c => decide (128 ≤ c))⟩] : List D)) (fun s => 0 ≤ s ∧ s ≤ x.length) (by exact ⟨by omega, by omega⟩) ?_).trans (by simp)
  rintro i ⟨h1, h2⟩
  by_cases hi : i < x.length
  · rw [dropI h1 hi]; have g1 := getG (l := x) (d := dflt (Ty.int IntKind.u8)) h1 (by omega)
    have b1 : 0 ≤ i ∧ i < (x.length : Int) := ⟨h1, hi⟩
    have wi : IntKind.i64.wrap (i + 1) = i + 1 := wi64 _ (by omega) (by omega)
    generalize hcx : x[i.toNat]'(by omega) = y at *
    by_cases hy : y < 128
    · have hy' : ¬ 128 ≤ y := by omega
      refine .inr ?_
      simp -implicitDefEqProofs [hi, b1, g1, hcx, hy, hy', c, h1]
    · have hy' : 128 ≤ y := by omega
      refine .inl ⟨i + 1, ?_, ⟨by omega, by omega⟩, by omega, by simp -implicitDefEqProofs [hy']⟩
      simp -implicitDefEqProofs [hi, b1, g1, hcx, hy, wi]
  · rw [List.drop_eq_nil_of_le (by omega)]; refine .inr ?_
    simp -implicitDefEqProofs [hi]
theorem s1053 {lc : List Ct} (hl0 : Sx.look (lc.map fun c => (c.sig.id, c)) 1053 = some c1053) : ∀ (x : List Int) (hl : x.length < 100000000000), Does1 (Phi lc) 1053 [⟨.sl (.int .u8), x⟩] [⟨.bool, gapF x⟩] :=
  fun x hl => by
    have eFc : c1053.F = F1053 := rfl
    have eFh := f1053 x hl
    rw [← eFc] at eFh; exact Does1.of hl0 eFh rfl
theorem f1055 (a b c d : Int) (l : List Int) (ha : 0 ≤ a ∧ a < 256) (hb : 0 ≤ b ∧ b < 256) (hc : 0 ≤ c ∧ c < 256) (hd : 0 ≤ d ∧ d < 256) : F1055 [⟨.sl (.int .u8), a :: b :: c :: d :: l⟩] = some [⟨.int .u32, a + b * 256 + c * 65536 + d * 16777216⟩] := by
  simp only [F1055, Fof, ir1055]; have e : bOr .u32 (bOr .u32 (bOr .u32 (IntKind.u32.wrap a) (IntKind.u32.wrap (IntKind.u32.wrap b * 2 ^ Nat.min 8 IntKind.u32.bits))) (IntKind.u32.wrap (IntKind.u32.wrap c * 2 ^ Nat.min 16 IntKind.u32.bits)))
      (IntKind.u32.wrap (IntKind.u32.wrap d * 2 ^ Nat.min 24 IntKind.u32.bits)) = a + b * 256 + c * 65536 + d * 16777216 := by
    rw [wu32 a (by omega) (by omega), wu32 b (by omega) (by omega), wu32 c (by omega) (by omega), wu32 d (by omega) (by omega)]; rw [show Nat.min 8 IntKind.u32.bits = 8 from rfl, show Nat.min 16 IntKind.u32.bits = 16 from rfl, show Nat.min 24 IntKind.u32.bits = 24 from rfl]; rw [or_pow32 a b 8 (by omega) (by omega) (by omega) (by omega), or_pow32 _ c 16 (by omega) (by omega) (by omega) (by omega), or_pow32 _ d 24 (by omega) (by omega) (by omega) (by omega)]; rfl
  simp -implicitDefEqProofs
  exact ⟨by omega, by omega, by omega, by omega, e⟩
theorem s1055 {lc : List Ct} (hl0 : Sx.look (lc.map fun c => (c.sig.id, c)) 1055 = some c1055) : ∀ (a b c d : Int) (l : List Int) (ha : 0 ≤ a ∧ a < 256) (hb : 0 ≤ b ∧ b < 256) (hc : 0 ≤ c ∧ c < 256) (hd : 0 ≤ d ∧ d < 256), Does1 (Phi lc) 1055 [⟨.sl (.int .u8), a :: b :: c :: d :: l⟩] [⟨.int .u32, a + b * 256 + c * 65536 + d * 16777216⟩] :=
  fun a b c d l ha hb hc hd => by
    have eFc : c1055.F = F1055 := rfl
    have eFh := f1055 a b c d l ha hb hc hd
    rw [← eFc] at eFh; exact Does1.of hl0 eFh rfl
theorem f1056 (x : List Int) (hl : x.length < 100000000000) : F1056 [⟨.sl (.int .u8), x⟩] = some [⟨.sl (.int .u8), x⟩] := by
  simp only [F1056, Fof, ir1056]; have hb : x.length ≤ BIG := by simp only [BIG]; omega
  by_cases hx : x = []
  · subst hx; simp -implicitDefEqProofs [eqO, BIG]
  · simp -implicitDefEqProofs [hb, hx]
theorem s1056 {lc : List Ct} (hl0 : Sx.look (lc.map fun c => (c.sig.id, c)) 1056 = some c1056) : ∀ (x : List Int) (hl : x.length < 100000000000), Does1 (Phi lc) 1056 [⟨.sl (.int .u8), x⟩] [⟨.sl (.int .u8), x⟩] :=
  fun x hl => by
    have eFc : c1056.F = F1056 := rfl
    have eFh := f1056 x hl
    rw [← eFc] at eFh; exact Does1.of hl0 eFh rfl
end Go.Proofs.Ytmglkddddpipgaa.Sx

set_option maxHeartbeats 2000000
namespace Go.Proofs.Ytmglkddddpipgaa.Sx

theorem sum4_w (s : Int) : [IntKind.u8.wrap s, IntKind.u8.wrap (s.fdiv (2 ^ Nat.min 8 IntKind.u32.bits)), IntKind.u8.wrap (s.fdiv (2 ^ Nat.min 16 IntKind.u32.bits)), IntKind.u8.wrap (s.fdiv (2 ^ Nat.min 24 IntKind.u32.bits))] = sum4 s := by
  simp only [wu8, fdiv8, fdiv16, fdiv24, sum4]
theorem putL_1 (u : Int) : putL [u] = one u.toNat := by simp [putL]

def resFr (o : Bool) (l : List Fr) (acc : List Int) : List D := if o = true then [⟨.sl (.int .u8), acc ++ putFs l⟩, ⟨.int .i64, 0⟩] else [⟨.sl (.int .u8), []⟩, ⟨.int .i64, 1⟩]
theorem f1035 (l : List Fr) (hl : l.length ≤ 20000) (hn : ∀ f ∈ l, f.2.length < 100000000000) (hb : ∀ f ∈ l, ∀ c ∈ f.2, 0 ≤ c ∧ c < 256) : F1035 [⟨.sl FrT, l⟩] = some (resFr (l.all okF) l []) := by
  have h1050 := s1050 (lc := [c1050, c66, c1052]) rfl
  have h66 := s66 (lc := [c1050, c66, c1052]) rfl
  have h1052 := s1052 (lc := [c1050, c66, c1052]) rfl
  simp only [F1035, Fof, ir1035]; generalize Phi [c1050, c66, c1052] = Φ at *
  simp -implicitDefEqProofs
  refine (iter_meas (fun s : List Int × Int => (l.length - s.2).toNat) (fun s => resFr ((l.drop s.2.toNat).all okF) (l.drop s.2.toNat) s.1) (fun s => 0 ≤ s.2 ∧ s.2 ≤ l.length ∧ s.1.length ≤ 1048600 * s.2.toNat) (by exact ⟨by simp, by simp, by simp⟩) ?_).trans (by simp)
  rintro ⟨acc, i⟩ ⟨h1, h2, h3⟩
  simp only at h1 h2 h3 ⊢
  by_cases hi : i < l.length
  rotate_left
  · refine .inr ?_
    rw [List.drop_eq_nil_of_le (by omega)]; simp -implicitDefEqProofs [hi, resFr, putFs]
  rw [dropI h1 hi]; have g1 := getG (l := l) (d := dflt FrT) h1 (by omega)
  have b1 : 0 ≤ i ∧ i < (l.length : Int) := ⟨h1, hi⟩
  have wi : IntKind.i64.wrap (i + 1) = i + 1 := wi64 _ (by omega) (by omega)
  have hm : l[i.toNat]'(by omega) ∈ l := List.getElem_mem _
  generalize hcx : l[i.toNat]'(by omega) = x at *
  obtain ⟨k, y⟩ := x; have k1 := h1050 k y
  have hn1 := hn _ hm
  have hb1 := hb _ hm
  simp only at hn1 hb1
  cases ho : okF (k, y) <;> rw [ho] at k1
  · refine .inr ?_
    simp -implicitDefEqProofs [hi, b1, g1, hcx, k1, resFr, ho]
  have ho' := ho
  simp only [okF, decide_eq_true_eq] at ho'; have w1 : IntKind.u64.wrap (y.length : Int) = y.length := wu64 _ (by omega) (by omega)
  have w2 : IntKind.u8.wrap k = k := by rw [wu8]; omega
  have k2 := h66 [(y.length : Int)] (by intro u hu; simp only [List.mem_singleton] at hu; omega) (by simp)
  rw [putL_1, Int.toNat_natCast] at k2; have k3 := h1052 k y (by omega) (by omega) hb1 (by omega)
  have ho1 := one_len5 (n := y.length) (by omega)
  have hs := sum4_w (crcOf (k :: y))
  have hlen : (putF (k, y)).length = (one y.length).length + 1 + y.length + 4 := putF_len (k, y)
  refine .inl ⟨(acc ++ putF (k, y), i + 1), ?_, ⟨by (try simp only); omega, by (try simp only); omega, ?_⟩, by (try simp only); omega, ?_⟩
  · simp -implicitDefEqProofs [hi, b1, g1, hcx, k1, w1, w2, k2, k3, wi]
    refine ⟨by (first | omega | (simp only [List.length_append, List.length_cons, List.length_nil, List.length_drop, List.length_take, BIG]; omega)), by (first | omega | (simp only [List.length_append, List.length_cons, List.length_nil, List.length_drop, List.length_take, BIG]; omega)), by (first | omega | (simp only [List.length_append, List.length_cons, List.length_nil, List.length_drop, List.length_take, BIG]; omega)), by (first | omega | (simp only [List.length_append, List.length_cons, List.length_nil, List.length_drop, List.length_take, BIG]; omega)), ?_⟩
    rw [hs]; simp -implicitDefEqProofs [putF]
  · simp only [List.length_append, hlen]; omega
  · simp only [resFr, List.all_cons, ho, Bool.true_and, putFs, List.append_assoc]
theorem s1035 {lc : List Ct} (hl0 : Sx.look (lc.map fun c => (c.sig.id, c)) 1035 = some c1035) : ∀ (l : List Fr) (hl : l.length ≤ 20000) (hn : ∀ f ∈ l, f.2.length < 100000000000) (hb : ∀ f ∈ l, ∀ c ∈ f.2, 0 ≤ c ∧ c < 256), Does1 (Phi lc) 1035 [⟨.sl FrT, l⟩] (resFr (l.all okF) l []) :=
  fun l hl hn hb => by
    have eFc : c1035.F = F1035 := rfl
    have eFh := f1035 l hl hn hb
    rw [← eFc] at eFh; exact Does1.of hl0 eFh (by unfold resFr; split <;> rfl)

def resF1 (b : List Int) (o : Option (Int × List Int × Nat)) : List D := match o with
  | some (k, y, n) => [⟨.int .i64, k⟩, ⟨.sl (.int .u8), y⟩, ⟨.int .i64, n⟩, ⟨.int .i64, 0⟩]
  | none => [⟨.int .i64, 0⟩, ⟨.sl (.int .u8), []⟩, ⟨.int .i64, 0⟩, ⟨.int .i64, errF b⟩]
theorem gap_none {b : List Int} (hb : ∀ c ∈ b, 0 ≤ c ∧ c < 256) (h : gapF b = true) : gvN b = 0 := by
  by_cases hz : gvN b = 0
  · exact hz
  · exfalso
    obtain ⟨g1, g2⟩ := gv_inv hb hz; simp only [gapF, Bool.and_eq_true, decide_eq_true_eq, List.all_eq_true] at h; have key : ∀ (m : Nat) (v : Nat), (one v).length = m + 1 → ∃ c ∈ one v, c < 128 := by
      intro m; induction m with
      | zero =>
        intro v hv; by_cases hv1 : v < 128
        · exact ⟨v, by rw [one_small hv1]; simp, by omega⟩
        · rw [one_big hv1, List.length_cons] at hv; have := one_pos (v / 128); omega
      | succ m ih =>
        intro v hv; by_cases hv1 : v < 128
        · exact ⟨v, by rw [one_small hv1]; simp, by omega⟩
        · rw [one_big hv1, List.length_cons] at hv; obtain ⟨c, hc, hc2⟩ := ih (v / 128) (by omega)
          exact ⟨c, by rw [one_big hv1]; exact List.mem_cons_of_mem _ hc, hc2⟩
    obtain ⟨c, hc, hc2⟩ := key ((one (gvV b).toNat).length - 1) (gvV b).toNat (by have := one_pos (gvV b).toNat; omega)
    rw [← g1] at hc; have := h.2 c (List.mem_of_mem_take hc)
    omega
theorem firstF_gap {b : List Int} (hb : ∀ c ∈ b, 0 ≤ c ∧ c < 256) (h : gapF b = true) : firstF b = none := by
  unfold firstF; rw [if_pos (.inl (gap_none hb h))]

theorem sumv_sum4 {r : List Int} (hb : ∀ c ∈ r, 0 ≤ c ∧ c < 256) (h : 4 ≤ r.length) (s : Int) (h0 : 0 ≤ s) (h1 : s < 4294967296) : sumv r = s ↔ r.take 4 = sum4 s := by
  obtain ⟨a, b, c, d, r', rfl⟩ := four h; have ha := hb a (by simp); have hb' := hb b (by simp); have hc := hb c (by simp); have hd := hb d (by simp)
  simp only [sumv, sum4, List.take_succ_cons, List.take_zero, List.cons.injEq, and_true]; constructor
  · rintro rfl; omega
  · rintro ⟨rfl, rfl, rfl, rfl⟩; omega

theorem getD0 {l : List Int} {n : Nat} {k : Int} {r : List Int} (h : l.drop n = k :: r) : n < l.length ∧ l[n]? = some k ∧ l.drop (n + 1) = r ∧ l.length = n + 1 + r.length := by
  have h1 : n < l.length := by
    by_cases hn : n < l.length
    · exact hn
    · rw [List.drop_eq_nil_of_le (by omega)] at h; cases h
  rw [List.drop_eq_getElem_cons h1] at h; simp only [List.cons.injEq] at h; refine ⟨h1, by rw [List.getElem?_eq_getElem h1, h.1], h.2, ?_⟩
  have := congrArg List.length h.2
  simp only [List.length_drop] at this; omega

theorem f1036 (b : List Int) (hb : ∀ c ∈ b, 0 ≤ c ∧ c < 256) (hl : b.length < 10000000000) : F1036 [⟨.sl (.int .u8), b⟩] = some (resF1 b (firstF b)) := by
  have h1053 := s1053 (lc := [c1053, c90, c1054, c1055, c1052, c1056]) rfl
  have h90 := s90 (lc := [c1053, c90, c1054, c1055, c1052, c1056]) rfl
  have h1054 := s1054 (lc := [c1053, c90, c1054, c1055, c1052, c1056]) rfl
  have h1055 := s1055 (lc := [c1053, c90, c1054, c1055, c1052, c1056]) rfl
  have h1052 := s1052 (lc := [c1053, c90, c1054, c1055, c1052, c1056]) rfl
  have h1056 := s1056 (lc := [c1053, c90, c1054, c1055, c1052, c1056]) rfl
  simp only [F1036, Fof, ir1036]; generalize Phi [c1053, c90, c1054, c1055, c1052, c1056] = Φ at *
  have k1 := h1053 b (by omega)
  cases hg : gapF b <;> rw [hg] at k1
  rotate_left
  · rw [firstF_gap hb hg]; simp -implicitDefEqProofs [k1, resF1, errF, hg]
  have k2 := h90 b hb
  have hr := gv_range hb
  unfold firstF; have he : errF b = if gvN b = 0 ∨ 1048576 < gvV b then 2 else match b.drop (gvN b) with | [] => 5 | k :: r => if k < 1 ∨ 250 < k then 2 else if r.length < (gvV b).toNat + 4 then 5 else 2 := by
    unfold errF; rw [hg]; rfl
  by_cases c1 : gvN b = 0
  · rw [if_pos c1] at k2; rw [if_pos (.inl c1)] at he ⊢; simp -implicitDefEqProofs [k1, k2, resF1, he]
  rw [if_neg c1] at k2; by_cases c2 : 1048576 < gvV b
  · rw [if_pos (.inr c2)] at he ⊢; simp -implicitDefEqProofs [k1, k2, resF1, he, c2]
  rw [if_neg (by rintro (h | h); exact c1 h; exact c2 h)] at he ⊢
  generalize hu : gvV b = u at *
  generalize hn : gvN b = n at *
  have wu : IntKind.i64.wrap u = u := wi64 _ (by omega) (by omega)
  have wn : IntKind.i64.wrap ((n : Int) + 1) = n + 1 := wi64 _ (by omega) (by omega)
  have wn2 : IntKind.i64.wrap ((n : Int) + 1 + u) = n + 1 + u := wi64 _ (by omega) (by omega)
  have k3 := h1054 u
  unfold sizeI at k3; rw [if_neg (by omega)] at k3; obtain ⟨g1, g2⟩ := gv_inv hb (by rw [hn]; exact c1)
  rw [hn, hu] at g1 g2; have hsz : (headN u.toNat : Int) = n + 1 := by unfold headN; omega
  rw [hsz] at k3; cases hd : b.drop n with
  | nil =>
    have e : (n : Int) = b.length := by have := congrArg List.length hd; simp only [List.length_drop, List.length_nil] at this; omega
    have e' : n = b.length := by omega
    rw [hd] at he; simp -implicitDefEqProofs [k1, k2, resF1, he, c2, e, e']
  | cons k r =>
    obtain ⟨d1, d2, d3, d4⟩ := getD0 hd; rw [hd] at he; simp only at he ⊢
    have d5 : b[n]'d1 = k := by rw [List.getElem?_eq_getElem d1] at d2; simpa using d2
    have e : ¬ (n : Int) = b.length := by omega
    have e' : ¬ n = b.length := by omega
    have b1 : 0 ≤ (n : Int) ∧ (n : Int) < b.length := by omega
    have hkb := hb k (List.mem_of_getElem? d2)
    by_cases q1 : k < 1
    · rw [if_pos (.inl q1)] at he ⊢; simp -implicitDefEqProofs [k1, k2, resF1, he, c2, e, e', d1, d5, q1]
    by_cases q2 : 250 < k
    · rw [if_pos (.inr q2)] at he ⊢; simp -implicitDefEqProofs [k1, k2, resF1, he, c2, e, e', d1, d5, q1, q2]
    rw [if_neg (by omega)] at he ⊢; by_cases q3 : r.length < u.toNat + 4
    · rw [if_pos q3] at he ⊢; have q3' : (b.length : Int) < n + 1 + u + 4 := by omega
      simp -implicitDefEqProofs [k1, k2, k3, resF1, he, c2, e, e', d1, d5, q1, q2, q3', wu]
    rw [if_neg q3] at he ⊢; have q3' : ¬ (b.length : Int) < n + 1 + u + 4 := by omega
    have b2 : 0 ≤ (n : Int) + 1 ∧ (n : Int) + 1 ≤ n + 1 + u ∧ (n : Int) + 1 + u ≤ b.length := by omega
    have b3 : 0 ≤ (n : Int) + 1 + u ∧ (n : Int) + 1 + u ≤ b.length := by omega
    have t1 : (b.take ((n : Int) + 1 + u).toNat).drop (n + 1) = r.take u.toNat := by
      rw [show ((n : Int) + 1 + u).toNat = (n + 1) + u.toNat by omega, List.drop_take, show n + 1 + u.toNat - (n + 1) = u.toNat by omega, d3]
    have t2 : b.drop ((n : Int) + 1 + u).toNat = r.drop u.toNat := by
      rw [show ((n : Int) + 1 + u).toNat = (n + 1) + u.toNat by omega, ← List.drop_drop, d3]
    have hrb : ∀ c ∈ r, 0 ≤ c ∧ c < 256 := fun c hc => hb c (by rw [← d3] at hc; exact List.mem_of_mem_drop hc)
    have hrd : ∀ c ∈ r.drop u.toNat, 0 ≤ c ∧ c < 256 := fun c hc => hrb c (List.mem_of_mem_drop hc)
    have hlr : 4 ≤ (r.drop u.toNat).length := by rw [List.length_drop]; omega
    obtain ⟨p, q, s, t, r', hrr⟩ := four hlr; have k4 := h1055 p q s t r' (hrd p (by rw [hrr]; simp)) (hrd q (by rw [hrr]; simp)) (hrd s (by rw [hrr]; simp)) (hrd t (by rw [hrr]; simp))
    have hsv : p + q * 256 + s * 65536 + t * 16777216 = sumv (r.drop u.toNat) := by rw [hrr]; rfl
    rw [← hrr, hsv] at k4; have k5 := h1052 k (r.take u.toNat) (by omega) (by omega) (fun c hc => hrb c (List.mem_of_mem_take hc)) (by rw [List.length_take]; omega)
    have k6 := h1056 (r.take u.toNat) (by rw [List.length_take]; omega)
    have hc := crcOf_lt (k :: r.take u.toNat)
    have hiff := sumv_sum4 hrd hlr (crcOf (k :: r.take u.toNat)) hc.1 hc.2
    have wk : IntKind.i64.wrap k = k := wi64 _ (by omega) (by omega)
    generalize hT : r.take u.toNat = T at *
    generalize hD : r.drop u.toNat = Dd at *
    by_cases hs : sumv Dd = crcOf (k :: T)
    · rw [if_pos (hiff.1 hs)]; simp -implicitDefEqProofs [k1, k2, k3, k4, k5, k6, resF1, c2, e, e', d1, d5, q1, q2, q3', wu, wn, wn2, b2, b3, t1, t2, hs, wk]
      exact (by omega : u = max u 0)
    · rw [if_neg (fun h => hs (hiff.2 h))]; simp -implicitDefEqProofs [k1, k2, k3, k4, k5, k6, resF1, c2, e, e', d1, d5, q1, q2, q3', wu, wn, wn2, b2, b3, t1, t2, hs, he]
theorem s1036 {lc : List Ct} (hl0 : Sx.look (lc.map fun c => (c.sig.id, c)) 1036 = some c1036) : ∀ (b : List Int) (hb : ∀ c ∈ b, 0 ≤ c ∧ c < 256) (hl : b.length < 10000000000), Does1 (Phi lc) 1036 [⟨.sl (.int .u8), b⟩] (resF1 b (firstF b)) :=
  fun b hb hl => by
    have eFc : c1036.F = F1036 := rfl
    have eFh := f1036 b hb hl
    rw [← eFc] at eFh; exact Does1.of hl0 eFh (by unfold resF1; split <;> rfl)
end Go.Proofs.Ytmglkddddpipgaa.Sx
