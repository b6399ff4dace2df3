/-
  Numbers, sums, points and cells: the texts of the functions and what they answer.
-/
import Derived.Test.YtolcekkcenedjaaGreatK6
set_option linter.unusedVariables false
set_option linter.unusedSimpArgs false
namespace Go.Proofs.YtolcekkcenedjaaGreat.Sx
def sig68 : Sig := { id := 68, ins := [(true, (Ty.int .i64).pair ((Ty.int .i64).pair ((Ty.int .i64).pair (Ty.int .u32))))], outs := [(false, [(Ty.int .i64, none)])] }
def ir68 : IR := .op (.icmp .lss) [.v 0, .l (.int .i64 1)] (.ite (.v 4) (.ret [.l (.int .i64 1)]) (.op (.icmp .gtr) [.v 0, .l (.int .i64 2147483647)] (.ite (.v 5) (.ret [.l (.int .i64 1)]) (.op (.icmp .lss) [.v 1, .l (.int .i64 0)] (.ite (.v 6) (.ret [.l (.int .i64 1)]) (.op (.icmp .gtr) [.v 1, .l (.int .i64 2147483647)] (.ite (.v 7) (.ret [.l (.int .i64 1)]) (.op (.icmp .lss) [.v 2, .l (.int .i64 0)] (.ite (.v 8) (.ret [.l (.int .i64 1)]) (.op (.icmp .gtr) [.v 2, .l (.int .i64 4096)] (.ite (.v 9) (.ret [.l (.int .i64 1)]) (.ret [.l (.int .i64 0)]))))))))))))
def sig20 : Sig := { id := 20, ins := [(true, Ty.bool.pair ((Ty.int .u8).sl.pair ((Ty.int .i64).pair ((Ty.int .i64).pair ((Ty.int .i64).pair (Ty.int .u32))))))], outs := [(false, [(Ty.int .i64, none)])] }
def ir20 : IR := .ite (.v 0) (.op .len [.v 1] (.op (.icmp .gtr) [.v 6, .l (.int .i64 0)] (.ite (.v 7) (.ret [.l (.int .i64 1)]) (.op (.call 68) [.v 2, .v 3, .v 4, .v 5] (.ret [.v 8]))))) (.op .len [.v 1] (.op (.icmp .gtr) [.v 6, .l (.int .i64 32)] (.ite (.v 7) (.ret [.l (.int .i64 1)]) (.op (.eqs true 4) [.v 2, .v 3, .v 4, .v 5, .l (.int .i64 0), .l (.int .i64 0), .l (.int .i64 0), .l (.int .u32 0)] (.ite (.v 8) (.ret [.l (.int .i64 1)]) (.ret [.l (.int .i64 0)]))))))
def sig66 : Sig := { id := 66, ins := [(false, (Ty.int .u64).sl)], outs := [(false, [((Ty.int .u8).sl, some 5)])] }
def ir66 : IR := .op .len [.v 0] (.loop [.l (.nil (Ty.int .u8)), .l (.int .i64 0)] [(Ty.int .u8).sl, Ty.int .i64] (.op (.icmp .lss) [.v 3, .v 1] (.ite (.v 4) (.op .inb [.v 0, .v 3] (.op (.idx (Ty.int .u64)) [.v 0, .v 3] (.loop [.v 2, .v 5] [(Ty.int .u8).sl, Ty.int .u64] (.op (.icmp .geq) [.v 7, .l (.int .u64 128)] (.ite (.v 8) (.op (.conv .u8) [.v 7] (.op (.ibin .or .u8) [.v 9, .l (.int .u8 128)] (.op (.mk (Ty.int .u8) 1) [.v 10] (.op .app [.v 6, .v 11] (.op (.ibin .shr .u64) [.v 7, .l (.int .u64 7)] (.jump 1 [.v 12, .v 13])))))) (.op (.conv .u8) [.v 7] (.op (.mk (Ty.int .u8) 1) [.v 9] (.op .app [.v 6, .v 10] (.op (.ibin .add .i64) [.v 3, .l (.int .i64 1)] (.jump 0 [.v 11, .v 12])))))))))) (.ret [.v 2]))))
def sig65 : Sig := { id := 65, ins := [(true, (Ty.int .i64).pair ((Ty.int .i64).pair ((Ty.int .i64).pair (Ty.int .u32))))], outs := [(false, [((Ty.int .u8).sl, some 5)]), (false, [(Ty.int .i64, none)])] }
def ir65 : IR := .op (.call 68) [.v 0, .v 1, .v 2, .v 3] (.op (.icmp .neq) [.v 4, .l (.int .i64 0)] (.ite (.v 5) (.ret [.l (.nil (Ty.int .u8)), .v 4]) (.op (.conv .u64) [.v 0] (.op (.conv .u64) [.v 1] (.op (.conv .u64) [.v 2] (.op (.mk (Ty.int .u64) 3) [.v 6, .v 7, .v 8] (.op (.call 66) [.v 9] (.op (.conv .u8) [.v 3] (.op (.ibin .shr .u32) [.v 3, .l (.int .u64 8)] (.op (.conv .u8) [.v 12] (.op (.ibin .shr .u32) [.v 3, .l (.int .u64 16)] (.op (.conv .u8) [.v 14] (.op (.ibin .shr .u32) [.v 3, .l (.int .u64 24)] (.op (.conv .u8) [.v 16] (.op (.mk (Ty.int .u8) 4) [.v 11, .v 13, .v 15, .v 17] (.op .app [.v 10, .v 18] (.ret [.v 19, .l (.int .i64 0)])))))))))))))))))
def sig16 : Sig := { id := 16, ins := [(true, Ty.bool.pair ((Ty.int .u8).sl.pair ((Ty.int .i64).pair ((Ty.int .i64).pair ((Ty.int .i64).pair (Ty.int .u32))))))], outs := [(false, [((Ty.int .u8).sl, some 5)]), (false, [(Ty.int .i64, none)])] }
def ir16 : IR := .op (.call 20) [.v 0, .v 1, .v 2, .v 3, .v 4, .v 5] (.op (.icmp .neq) [.v 6, .l (.int .i64 0)] (.ite (.v 7) (.ret [.l (.nil (Ty.int .u8)), .v 6]) (.ite (.v 0) (.op (.call 65) [.v 2, .v 3, .v 4, .v 5] (.op (.mk (Ty.int .u8) 1) [.l (.int .u8 1)] (.op .app [.v 10, .v 8] (.ret [.v 11, .v 9])))) (.op (.mk (Ty.int .u8) 1) [.l (.int .u8 0)] (.op .len [.v 1] (.op (.conv .u64) [.v 9] (.op (.mk (Ty.int .u64) 1) [.v 10] (.op (.call 66) [.v 11] (.op .app [.v 8, .v 12] (.op .app [.v 13, .v 1] (.ret [.v 14, .l (.int .i64 0)])))))))))))
def sig69 : Sig := { id := 69, ins := [(false, (Ty.int .u8).sl), (false, (Ty.int .u8).sl)], outs := [(false, [(Ty.bool, none)])] }
def ir69 : IR := .op .len [.v 0] (.op .len [.v 1] (.op (.icmp .neq) [.v 2, .v 3] (.ite (.v 4) (.ret [.l (.bool false)]) (.loop [.l (.int .i64 0)] [Ty.int .i64] (.op .len [.v 0] (.op (.icmp .lss) [.v 5, .v 6] (.ite (.v 7) (.op .inb [.v 0, .v 5] (.op (.idx (Ty.int .u8)) [.v 0, .v 5] (.op .inb [.v 1, .v 5] (.op (.idx (Ty.int .u8)) [.v 1, .v 5] (.op (.icmp .neq) [.v 8, .v 9] (.ite (.v 10) (.ret [.l (.bool false)]) (.op (.ibin .add .i64) [.v 5, .l (.int .i64 1)] (.jump 0 [.v 11])))))))) (.ret [.l (.bool true)]))))))))
def sig21 : Sig := { id := 21, ins := [(false, (Ty.int .u8).sl), (false, (Ty.int .u8).sl)], outs := [(false, [(Ty.bool, none)])] }
def ir21 : IR := .op (.call 69) [.v 0, .v 1] (.ret [.v 2])
def sig67 : Sig := { id := 67, ins := [(false, (Ty.int .u8).sl), (false, (Ty.int .u8).sl)], outs := [(false, [(Ty.bool, none)])] }
def ir67 : IR := .op .b2s [.v 0] (.op .b2s [.v 1] (.op (.scmp .eql) [.v 2, .v 3] (.ret [.v 4])))
def sig17 : Sig := { id := 17, ins := [(true, Ty.bool.pair ((Ty.int .u8).sl.pair ((Ty.int .i64).pair ((Ty.int .i64).pair ((Ty.int .i64).pair (Ty.int .u32)))))), (true, Ty.bool.pair ((Ty.int .u8).sl.pair ((Ty.int .i64).pair ((Ty.int .i64).pair ((Ty.int .i64).pair (Ty.int .u32))))))], outs := [(false, [(Ty.bool, none)])] }
def ir17 : IR := .op (.bcmp .eql) [.v 0, .v 6] (.ite (.v 12) (.op (.eqs false 4) [.v 2, .v 3, .v 4, .v 5, .v 8, .v 9, .v 10, .v 11] (.ite (.v 13) (.op (.call 67) [.v 1, .v 7] (.ret [.v 14])) (.ret [.l (.bool false)]))) (.ret [.l (.bool false)]))
def sig18 : Sig := { id := 18, ins := [(true, Ty.bool.pair ((Ty.int .u8).sl.pair ((Ty.int .i64).pair ((Ty.int .i64).pair ((Ty.int .i64).pair (Ty.int .u32)))))), (true, Ty.bool.pair ((Ty.int .u8).sl.pair ((Ty.int .i64).pair ((Ty.int .i64).pair ((Ty.int .i64).pair (Ty.int .u32))))))], outs := [(false, [(Ty.bool, none)])] }
def ir18 : IR := .op (.bcmp .eql) [.v 0, .v 6] (.ite (.v 12) (.op (.eqs false 4) [.v 2, .v 3, .v 4, .v 5, .v 8, .v 9, .v 10, .v 11] (.ite (.v 13) (.op (.call 21) [.v 1, .v 7] (.ret [.v 14])) (.ret [.l (.bool false)]))) (.ret [.l (.bool false)]))
def sig27 : Sig := { id := 27, ins := [(true, (Ty.int .i64).pair ((Ty.int .i64).pair ((Ty.int .i64).pair (Ty.int .u32))))], outs := [(false, [(Ty.bool, none)])] }
def ir27 : IR := .op (.icmp .geq) [.v 0, .l (.int .i64 1)] (.ite (.v 4) (.op (.icmp .leq) [.v 0, .l (.int .i64 2147483647)] (.ite (.v 5) (.op (.icmp .geq) [.v 1, .l (.int .i64 0)] (.ite (.v 6) (.op (.icmp .leq) [.v 1, .l (.int .i64 2147483647)] (.ite (.v 7) (.op (.icmp .geq) [.v 2, .l (.int .i64 0)] (.ite (.v 8) (.op (.icmp .leq) [.v 2, .l (.int .i64 4096)] (.ret [.v 9])) (.ret [.l (.bool false)]))) (.ret [.l (.bool false)]))) (.ret [.l (.bool false)]))) (.ret [.l (.bool false)]))) (.ret [.l (.bool false)]))
def sig19 : Sig := { id := 19, ins := [(true, Ty.bool.pair ((Ty.int .u8).sl.pair ((Ty.int .i64).pair ((Ty.int .i64).pair ((Ty.int .i64).pair (Ty.int .u32))))))], outs := [(false, [(Ty.bool, none)])] }
def ir19 : IR := .ite (.v 0) (.op .len [.v 1] (.op (.icmp .eql) [.v 6, .l (.int .i64 0)] (.ite (.v 7) (.op (.call 27) [.v 2, .v 3, .v 4, .v 5] (.ret [.v 8])) (.ret [.l (.bool false)])))) (.op .len [.v 1] (.op (.icmp .leq) [.v 6, .l (.int .i64 32)] (.ite (.v 7) (.op (.eqs false 4) [.v 2, .v 3, .v 4, .v 5, .l (.int .i64 0), .l (.int .i64 0), .l (.int .i64 0), .l (.int .u32 0)] (.ret [.v 8])) (.ret [.l (.bool false)]))))
def sig71 : Sig := { id := 71, ins := [(false, Ty.int .u64)], outs := [(false, [((Ty.int .u8).sl, some 5)])] }
def ir71 : IR := .op (.icmp .lss) [.v 0, .l (.int .u64 128)] (.ite (.v 1) (.op (.conv .u8) [.v 0] (.op (.mk (Ty.int .u8) 1) [.v 2] (.ret [.v 3]))) (.op (.ibin .rem .u64) [.v 0, .l (.int .u64 128)] (.op (.conv .u8) [.v 2] (.op (.ibin .add .u8) [.v 3, .l (.int .u8 128)] (.op (.mk (Ty.int .u8) 1) [.v 4] (.op (.ibin .quo .u64) [.v 0, .l (.int .u64 128)] (.op (.call 71) [.v 6] (.op .app [.v 5, .v 7] (.ret [.v 8])))))))))
def sig120 : Sig := { id := 120, ins := [(false, (Ty.int .u64).sl)], outs := [(false, [((Ty.int .u8).sl, some 5)])] }
def ir120 : IR := .op (.mk (Ty.int .u8) 0) [] (.loop [.v 1, .l (.int .i64 0)] [(Ty.int .u8).sl, Ty.int .i64] (.op .len [.v 0] (.op (.icmp .lss) [.v 3, .v 4] (.ite (.v 5) (.op .inb [.v 0, .v 3] (.op (.idx (Ty.int .u64)) [.v 0, .v 3] (.op (.call 71) [.v 6] (.op .app [.v 2, .v 7] (.op (.ibin .add .i64) [.v 3, .l (.int .i64 1)] (.jump 0 [.v 8, .v 9])))))) (.ret [.v 2])))))
def sig121 : Sig := { id := 121, ins := [(false, Ty.int .u32)], outs := [(false, [((Ty.int .u8).sl, some 5)])] }
def ir121 : IR := .op (.mk (Ty.int .u8) 0) [] (.loop [.v 0, .v 1, .l (.int .i64 0)] [Ty.int .u32, (Ty.int .u8).sl, Ty.int .i64] (.op (.icmp .lss) [.v 4, .l (.int .i64 4)] (.ite (.v 5) (.op (.ibin .rem .u32) [.v 2, .l (.int .u32 256)] (.op (.conv .u8) [.v 6] (.op (.mk (Ty.int .u8) 1) [.v 7] (.op .app [.v 3, .v 8] (.op (.ibin .quo .u32) [.v 2, .l (.int .u32 256)] (.op (.ibin .add .i64) [.v 4, .l (.int .i64 1)] (.jump 0 [.v 10, .v 9, .v 11]))))))) (.ret [.v 3]))))
def sig70 : Sig := { id := 70, ins := [(true, (Ty.int .i64).pair ((Ty.int .i64).pair ((Ty.int .i64).pair (Ty.int .u32))))], outs := [(false, [((Ty.int .u8).sl, some 5)])] }
def ir70 : IR := .op (.conv .u64) [.v 0] (.op (.conv .u64) [.v 1] (.op (.conv .u64) [.v 2] (.op (.mk (Ty.int .u64) 3) [.v 4, .v 5, .v 6] (.op (.call 120) [.v 7] (.op (.call 121) [.v 3] (.op .app [.v 8, .v 9] (.ret [.v 10])))))))
def sig22 : Sig := { id := 22, ins := [(true, Ty.bool.pair ((Ty.int .u8).sl.pair ((Ty.int .i64).pair ((Ty.int .i64).pair ((Ty.int .i64).pair (Ty.int .u32))))))], outs := [(false, [((Ty.int .u8).sl, some 5)])] }
def ir22 : IR := .ite (.v 0) (.op (.mk (Ty.int .u8) 1) [.l (.int .u8 1)] (.op (.call 70) [.v 2, .v 3, .v 4, .v 5] (.op .app [.v 6, .v 7] (.ret [.v 8])))) (.op (.mk (Ty.int .u8) 1) [.l (.int .u8 0)] (.op .len [.v 1] (.op (.conv .u64) [.v 7] (.op (.call 71) [.v 8] (.op .app [.v 6, .v 9] (.op .app [.v 10, .v 1] (.ret [.v 11])))))))
def F71 : List D → Option (List D)
  | [⟨.int .u64, u⟩] => if 0 ≤ u ∧ u < 18446744073709551616 then some [⟨.sl (.int .u8), one u.toNat⟩] else none
  | _ => none
def c71 : Ct := ⟨sig71, F71⟩
noncomputable def F68 : List D → Option (List D) := Fof [] ir68
noncomputable def c68 : Ct := ⟨sig68, F68⟩
noncomputable def F20 : List D → Option (List D) := Fof [c68] ir20
noncomputable def c20 : Ct := ⟨sig20, F20⟩
noncomputable def F66 : List D → Option (List D) := Fof [] ir66
noncomputable def c66 : Ct := ⟨sig66, F66⟩
noncomputable def F65 : List D → Option (List D) := Fof [c68, c66] ir65
noncomputable def c65 : Ct := ⟨sig65, F65⟩
noncomputable def F16 : List D → Option (List D) := Fof [c20, c65, c66] ir16
noncomputable def c16 : Ct := ⟨sig16, F16⟩
noncomputable def F69 : List D → Option (List D) := Fof [] ir69
noncomputable def c69 : Ct := ⟨sig69, F69⟩
noncomputable def F21 : List D → Option (List D) := Fof [c69] ir21
noncomputable def c21 : Ct := ⟨sig21, F21⟩
noncomputable def F67 : List D → Option (List D) := Fof [] ir67
noncomputable def c67 : Ct := ⟨sig67, F67⟩
noncomputable def F17 : List D → Option (List D) := Fof [c67] ir17
noncomputable def c17 : Ct := ⟨sig17, F17⟩
noncomputable def F18 : List D → Option (List D) := Fof [c21] ir18
noncomputable def c18 : Ct := ⟨sig18, F18⟩
noncomputable def F27 : List D → Option (List D) := Fof [] ir27
noncomputable def c27 : Ct := ⟨sig27, F27⟩
noncomputable def F19 : List D → Option (List D) := Fof [c27] ir19
noncomputable def c19 : Ct := ⟨sig19, F19⟩
noncomputable def F120 : List D → Option (List D) := Fof [c71] ir120
noncomputable def c120 : Ct := ⟨sig120, F120⟩
noncomputable def F121 : List D → Option (List D) := Fof [] ir121
noncomputable def c121 : Ct := ⟨sig121, F121⟩
noncomputable def F70 : List D → Option (List D) := Fof [c120, c121] ir70
noncomputable def c70 : Ct := ⟨sig70, F70⟩
noncomputable def F22 : List D → Option (List D) := Fof [c70, c71] ir22
noncomputable def c22 : Ct := ⟨sig22, F22⟩
end Go.Proofs.YtolcekkcenedjaaGreat.Sx

namespace Go.Proofs.YtolcekkcenedjaaGreat.Sx

theorem f68 (x0 x1 x2 x3 : Int) : F68 [⟨.int .i64, x0⟩, ⟨.int .i64, x1⟩, ⟨.int .i64, x2⟩, ⟨.int .u32, x3⟩] = some [⟨.int .i64, if pOk x0 x1 x2 = true then 0 else 1⟩] := by
  simp only [F68, Fof, ir68]
  simp -implicitDefEqProofs [pOk]
  by_cases h : 1 ≤ x0 ∧ x0 ≤ 2147483647 ∧ 0 ≤ x1 ∧ x1 ≤ 2147483647 ∧ 0 ≤ x2 ∧ x2 ≤ 4096
  · rw [if_pos h]
    repeat rw [if_neg (by omega)]
  · rw [if_neg h]
    repeat' split
    all_goals first | rfl | omega

theorem s68 {lc : List Ct} (h : look (lc.map fun c => (c.sig.id, c)) 68 = some c68) : ∀ x0 x1 x2 x3 : Int, Does1 (Phi lc) 68 [⟨.int .i64, x0⟩, ⟨.int .i64, x1⟩, ⟨.int .i64, x2⟩, ⟨.int .u32, x3⟩] [⟨.int .i64, if pOk x0 x1 x2 = true then 0 else 1⟩] :=
  fun x0 x1 x2 x3 => Does1.of h (f68 x0 x1 x2 x3) rfl

def cErr (far : Bool) (b : List Int) (s a n m : Int) : Int :=
  if far = true then (if 0 < b.length then 1 else if pOk s a n = true then 0 else 1) else if 32 < b.length ∨ s ≠ 0 ∨ a ≠ 0 ∨ n ≠ 0 ∨ m ≠ 0 then 1 else 0

theorem f20 (x0 : Bool) (x1 : List Int) (x2 x3 x4 x5 : Int) : F20 [⟨.bool, x0⟩, ⟨.sl (.int .u8), x1⟩, ⟨.int .i64, x2⟩, ⟨.int .i64, x3⟩, ⟨.int .i64, x4⟩, ⟨.int .u32, x5⟩] = some [⟨.int .i64, cErr x0 x1 x2 x3 x4 x5⟩] := by
  have h68 := s68 (lc := [c68]) rfl
  simp only [F20, Fof, ir20]
  simp -implicitDefEqProofs [h68, cErr]
  cases x0
  · simp only [Bool.false_eq_true, if_false]
    by_cases h : 32 < x1.length
    · rw [if_pos (by omega), if_pos (by omega)]
    · rw [if_neg (by omega)]; split <;> rename_i h2
      · rw [if_pos (by omega)]
      · rw [if_neg (by omega)]
  · simp only [if_true]; split <;> rfl

theorem f66 (l : List Int) (h : ∀ u ∈ l, 0 ≤ u ∧ u < 18446744073709551616) (hl : l.length ≤ 1000000) : F66 [⟨.sl (.int .u64), l⟩] = some [⟨.sl (.int .u8), putL l⟩] := by
  simp only [F66, Fof, ir66]
  simp -implicitDefEqProofs
  refine (iter_meas (fun s : List Int × Int => (l.length - s.2).toNat) (fun s => [⟨.sl (.int .u8), s.1 ++ putL (l.drop s.2.toNat)⟩])
    (fun s => 0 ≤ s.2 ∧ s.2 ≤ l.length ∧ s.1.length ≤ 10 * s.2.toNat) ⟨by simp, by simp, by simp⟩ ?_).trans (by simp)
  rintro ⟨b, i⟩ ⟨h1, h2, h3⟩
  simp only at h1 h2 h3 ⊢
  by_cases hi : i < l.length
  · refine .inl ⟨(b ++ one (l[i.toNat]'(by omega)).toNat, i + 1), ?_, ⟨by simp; omega, by simp; omega, ?_⟩, by simp; omega, ?_⟩
    · rw [if_pos hi, if_pos ⟨h1, hi⟩, getI h1 hi]
      have hu := h (l[i.toNat]'(by omega)) (List.getElem_mem _)
      generalize l[i.toNat]'(by omega) = u at hu
      refine (iter_meas (fun t : List Int × Int => t.2.toNat) (fun t => LS.again (t.1 ++ one t.2.toNat, i + 1)) (fun t => 0 ≤ t.2 ∧ t.2 < 18446744073709551616 ∧ t.1.length + (one t.2.toNat).length ≤ 10 * l.length + 10) ⟨hu.1, hu.2, ?_⟩ ?_)
      · have := one_len10 u.toNat (by omega); simp only; omega
      · rintro ⟨c, v⟩ ⟨k1, k2, k3⟩
        simp only at k1 k2 k3 ⊢
        have hb : c.length + 1 ≤ BIG := by have := one_pos v.toNat; simp only [BIG]; omega
        by_cases hv : 128 ≤ v
        · refine .inl ⟨(c ++ [v % 128 + 128], v / 128), ?_, ⟨by simp; omega, by simp; omega, ?_⟩, by simp; omega, ?_⟩
          · rw [if_pos hv, if_pos hb, wu8, or128 v k1, fdiv7]
          · rw [one_big (by omega)] at k3
            simp only [List.length_cons, List.length_append, List.length_nil] at k3 ⊢
            rw [show (v / 128).toNat = v.toNat / 128 by omega]
            omega
          · have e : one v.toNat = (v % 128 + 128) :: one (v / 128).toNat := by
              rw [one_big (by omega), show (v / 128).toNat = v.toNat / 128 by omega]
              congr 1; omega
            simp only [e, List.append_assoc, List.cons_append, List.nil_append]
        · refine .inr ?_
          rw [if_neg hv, if_pos hb, wu8, wi64 (i + 1) (by omega) (by omega), one_small (by omega)]
          rw [show v % 256 = v by omega, show ((v.toNat : Nat) : Int) = v by omega]
    · have := one_len10 (l[i.toNat]'(by omega)).toNat (by have := h (l[i.toNat]'(by omega)) (List.getElem_mem _); omega)
      simp only [List.length_append]; omega
    · rw [dropI h1 hi, putL_cons, List.append_assoc]
  · refine .inr ?_
    rw [if_neg hi, List.drop_eq_nil_of_le (by omega), putL_nil, List.append_nil]
end Go.Proofs.YtolcekkcenedjaaGreat.Sx

namespace Go.Proofs.YtolcekkcenedjaaGreat.Sx
theorem s20 {lc : List Ct} (hl0 : look (lc.map fun c => (c.sig.id, c)) 20 = some c20) : ∀ (x0 : Bool) (x1 : List Int) (x2 x3 x4 x5 : Int), Does1 (Phi lc) 20 [⟨.bool, x0⟩, ⟨.sl (.int .u8), x1⟩, ⟨.int .i64, x2⟩, ⟨.int .i64, x3⟩, ⟨.int .i64, x4⟩, ⟨.int .u32, x5⟩] [⟨.int .i64, cErr x0 x1 x2 x3 x4 x5⟩] :=
  fun x0 x1 x2 x3 x4 x5 => Does1.of hl0 (f20 x0 x1 x2 x3 x4 x5) rfl
theorem s66 {lc : List Ct} (hl0 : look (lc.map fun c => (c.sig.id, c)) 66 = some c66) : ∀ (x : List Int) (h : ∀ u ∈ x, 0 ≤ u ∧ u < 18446744073709551616) (hl : x.length ≤ 1000000), Does1 (Phi lc) 66 [⟨.sl (.int .u64), x⟩] [⟨.sl (.int .u8), putL x⟩] :=
  fun x h hl => Does1.of hl0 (f66 x h hl) rfl
theorem s71 {lc : List Ct} (hl0 : look (lc.map fun c => (c.sig.id, c)) 71 = some c71) : ∀ (u : Int) (h : 0 ≤ u ∧ u < 18446744073709551616), Does1 (Phi lc) 71 [⟨.int .u64, u⟩] [⟨.sl (.int .u8), one u.toNat⟩] :=
  fun u h => Does1.of hl0 (by simp only [c71, F71, if_pos h]) rfl

def putC (far : Bool) (b : List Int) (s a n m : Int) : List Int :=
  if far = true then 1 :: (putL [s, a, n] ++ sum4 m) else 0 :: (one b.length ++ b)

theorem putC_len {far : Bool} {b : List Int} {s a n m : Int} (h : cErr far b s a n m = 0) : (putC far b s a n m).length < 1000000000 := by
  cases far
  · simp only [cErr, Bool.false_eq_true, if_false] at h
    split at h
    · cases h
    · have := one_len10 b.length (by omega)
      simp [putC]; omega
  · simp only [cErr, if_true] at h
    split at h
    · cases h
    · split at h
      · rename_i hp
        have hp' : 1 ≤ s ∧ s ≤ 2147483647 ∧ 0 ≤ a ∧ a ≤ 2147483647 ∧ 0 ≤ n ∧ n ≤ 4096 := by simpa [pOk] using hp
        have := putL_len [s, a, n] (by intro u hu; simp only [List.mem_cons, List.not_mem_nil, or_false] at hu; omega)
        simp at this
        simp [putC, sum4]; omega
      · cases h

theorem f65 (x0 x1 x2 x3 : Int) (h0 : 0 ≤ x3) (h1 : x3 < 4294967296) : F65 [⟨.int .i64, x0⟩, ⟨.int .i64, x1⟩, ⟨.int .i64, x2⟩, ⟨.int .u32, x3⟩] = some [⟨.sl (.int .u8), if pOk x0 x1 x2 = true then putL [x0, x1, x2] ++ sum4 x3 else []⟩, ⟨.int .i64, if pOk x0 x1 x2 = true then 0 else 1⟩] := by
  have h68 := s68 (lc := [c68, c66]) rfl
  have h66 := s66 (lc := [c68, c66]) rfl
  simp only [F65, Fof, ir65]
  generalize Phi [c68, c66] = Φ at *
  simp -implicitDefEqProofs [h68, h66]
  by_cases hp : pOk x0 x1 x2 = true
  · simp only [hp]
    have hp' : 1 ≤ x0 ∧ x0 ≤ 2147483647 ∧ 0 ≤ x1 ∧ x1 ≤ 2147483647 ∧ 0 ≤ x2 ∧ x2 ≤ 4096 := by simpa [pOk] using hp
    have hl : ∀ u ∈ [x0, x1, x2], 0 ≤ u ∧ u < 18446744073709551616 := by
      intro u hu; simp only [List.mem_cons, List.not_mem_nil, or_false] at hu; omega
    have hlen := putL_len _ hl
    rw [wu64 x0 (by omega) (by omega), wu64 x1 (by omega) (by omega), wu64 x2 (by omega) (by omega)]
    have h := h66 [x0, x1, x2] hl (by simp)
    simp -implicitDefEqProofs [h, wu8, fdiv8, fdiv16, fdiv24, sum4, BIG]
    simp at hlen
    omega
  · simp [hp]
theorem s65 {lc : List Ct} (hl0 : look (lc.map fun c => (c.sig.id, c)) 65 = some c65) : ∀ (x0 x1 x2 x3 : Int) (h0 : 0 ≤ x3) (h1 : x3 < 4294967296), Does1 (Phi lc) 65 [⟨.int .i64, x0⟩, ⟨.int .i64, x1⟩, ⟨.int .i64, x2⟩, ⟨.int .u32, x3⟩] [⟨.sl (.int .u8), if pOk x0 x1 x2 = true then putL [x0, x1, x2] ++ sum4 x3 else []⟩, ⟨.int .i64, if pOk x0 x1 x2 = true then 0 else 1⟩] :=
  fun x0 x1 x2 x3 h0 h1 => by
    have eFc : c65.F = F65 := rfl
    have eFh := f65 x0 x1 x2 x3 h0 h1
    rw [← eFc] at eFh
    exact Does1.of hl0 eFh rfl
theorem f69 (x y : List Int) (hx : x.length < 1000000000) : F69 [⟨.sl (.int .u8), x⟩, ⟨.sl (.int .u8), y⟩] = some [⟨.bool, decide (x = y)⟩] := by
  simp only [F69, Fof, ir69]
  simp -implicitDefEqProofs
  by_cases hl : x.length = y.length
  · rw [if_pos (by omega)]
    refine (iter_meas (fun s : Int => (x.length - s).toNat) (fun s => [⟨.bool, decide (x.drop s.toNat = y.drop s.toNat)⟩]) (fun s => 0 ≤ s ∧ s ≤ x.length) ⟨by omega, by omega⟩ ?_).trans (by simp)
    rintro i ⟨h1, h2⟩
    by_cases hi : i < x.length
    · rw [if_pos hi, if_pos ⟨h1, hi⟩, if_pos ⟨h1, by omega⟩, getI h1 hi, getI h1 (by omega), dropI h1 hi, dropI (l := y) h1 (by omega)]
      by_cases he : x[i.toNat]'(by omega) = y[i.toNat]'(by omega)
      · rw [if_pos he]
        exact .inl ⟨i + 1, by rw [wi64 (i + 1) (by omega) (by omega)], ⟨by omega, by omega⟩, by omega, by simp [he]⟩
      · rw [if_neg he]
        exact .inr (by simp [he])
    · rw [if_neg hi, List.drop_eq_nil_of_le (by omega), List.drop_eq_nil_of_le (by omega)]
      exact .inr (by simp)
  · rw [if_neg (by omega)]
    have : x ≠ y := fun e => hl (by rw [e])
    simp [this]
theorem s69 {lc : List Ct} (hl0 : look (lc.map fun c => (c.sig.id, c)) 69 = some c69) : ∀ (x y : List Int) (hx : x.length < 1000000000), Does1 (Phi lc) 69 [⟨.sl (.int .u8), x⟩, ⟨.sl (.int .u8), y⟩] [⟨.bool, decide (x = y)⟩] :=
  fun x y hx => by
    have eFc : c69.F = F69 := rfl
    have eFh := f69 x y hx
    rw [← eFc] at eFh
    exact Does1.of hl0 eFh rfl
theorem f21 (x y : List Int) (hx : x.length < 1000000000) : F21 [⟨.sl (.int .u8), x⟩, ⟨.sl (.int .u8), y⟩] = some [⟨.bool, decide (x = y)⟩] := by
  have h69 := s69 (lc := [c69]) rfl
  simp only [F21, Fof, ir21]
  generalize Phi [c69] = Φ at *
  simp -implicitDefEqProofs [h69, hx]
theorem s21 {lc : List Ct} (hl0 : look (lc.map fun c => (c.sig.id, c)) 21 = some c21) : ∀ (x y : List Int) (hx : x.length < 1000000000), Does1 (Phi lc) 21 [⟨.sl (.int .u8), x⟩, ⟨.sl (.int .u8), y⟩] [⟨.bool, decide (x = y)⟩] :=
  fun x y hx => by
    have eFc : c21.F = F21 := rfl
    have eFh := f21 x y hx
    rw [← eFc] at eFh
    exact Does1.of hl0 eFh rfl
theorem f67 (x y : List Int) : F67 [⟨.sl (.int .u8), x⟩, ⟨.sl (.int .u8), y⟩] = some [⟨.bool, decide (x = y)⟩] := by
  simp only [F67, Fof, ir67]
  simp -implicitDefEqProofs
theorem s67 {lc : List Ct} (hl0 : look (lc.map fun c => (c.sig.id, c)) 67 = some c67) : ∀ (x y : List Int), Does1 (Phi lc) 67 [⟨.sl (.int .u8), x⟩, ⟨.sl (.int .u8), y⟩] [⟨.bool, decide (x = y)⟩] :=
  fun x y => by
    have eFc : c67.F = F67 := rfl
    have eFh := f67 x y
    rw [← eFc] at eFh
    exact Does1.of hl0 eFh rfl
theorem f27 (x0 x1 x2 x3 : Int) : F27 [⟨.int .i64, x0⟩, ⟨.int .i64, x1⟩, ⟨.int .i64, x2⟩, ⟨.int .u32, x3⟩] = some [⟨.bool, pOk x0 x1 x2⟩] := by
  simp only [F27, Fof, ir27]
  simp -implicitDefEqProofs
  simp only [pOk]
  by_cases h1 : 1 ≤ x0 <;> by_cases h2 : x0 ≤ 2147483647 <;> by_cases h3 : 0 ≤ x1 <;> by_cases h4 : x1 ≤ 2147483647 <;> by_cases h5 : 0 ≤ x2 <;> simp [h1, h2, h3, h4, h5]
theorem s27 {lc : List Ct} (hl0 : look (lc.map fun c => (c.sig.id, c)) 27 = some c27) : ∀ (x0 x1 x2 x3 : Int), Does1 (Phi lc) 27 [⟨.int .i64, x0⟩, ⟨.int .i64, x1⟩, ⟨.int .i64, x2⟩, ⟨.int .u32, x3⟩] [⟨.bool, pOk x0 x1 x2⟩] :=
  fun x0 x1 x2 x3 => by
    have eFc : c27.F = F27 := rfl
    have eFh := f27 x0 x1 x2 x3
    rw [← eFc] at eFh
    exact Does1.of hl0 eFh rfl
theorem f121 (x : Int) (h0 : 0 ≤ x) (h1 : x < 4294967296) : F121 [⟨.int .u32, x⟩] = some [⟨.sl (.int .u8), sum4 x⟩] := by
  simp only [F121, Fof, ir121]
  simp -implicitDefEqProofs
  have e0 : ∀ y : Int, 0 ≤ y → y < 4294967296 → IntKind.u32.wrap (y.tdiv 256) = y / 256 := fun y h0 h1 => by rw [td _ _ h0, wu32 _ (by omega) (by omega)]
  have e1 : ∀ y : Int, 0 ≤ y → IntKind.u8.wrap (y.tmod 256) = y % 256 := fun y h0 => by rw [tm _ _ h0, wu8]; omega
  rw [iter_again (s' := (x / 256, [x % 256], 1)) (by simp [e0 x h0 h1, e1 x h0, BIG, wi64])]
  rw [iter_again (s' := (x / 256 / 256, [x % 256, x / 256 % 256], 2)) (by simp [e0 (x / 256) (by omega) (by omega), e1 (x / 256) (by omega), BIG, wi64])]
  rw [iter_again (s' := (x / 256 / 256 / 256, [x % 256, x / 256 % 256, x / 256 / 256 % 256], 3)) (by simp [e0 (x / 256 / 256) (by omega) (by omega), e1 (x / 256 / 256) (by omega), BIG, wi64])]
  rw [iter_again (s' := (x / 256 / 256 / 256 / 256, [x % 256, x / 256 % 256, x / 256 / 256 % 256, x / 256 / 256 / 256 % 256], 4)) (by simp [e0 (x / 256 / 256 / 256) (by omega) (by omega), e1 (x / 256 / 256 / 256) (by omega), BIG, wi64])]
  rw [iter_out rfl]
  simp only [sum4, show x / 256 / 256 = x / 65536 by omega, show x / 65536 / 256 = x / 16777216 by omega]
theorem s121 {lc : List Ct} (hl0 : look (lc.map fun c => (c.sig.id, c)) 121 = some c121) : ∀ (x : Int) (h0 : 0 ≤ x) (h1 : x < 4294967296), Does1 (Phi lc) 121 [⟨.int .u32, x⟩] [⟨.sl (.int .u8), sum4 x⟩] :=
  fun x h0 h1 => by
    have eFc : c121.F = F121 := rfl
    have eFh := f121 x h0 h1
    rw [← eFc] at eFh
    exact Does1.of hl0 eFh rfl
theorem f120 (x : List Int) (h : ∀ u ∈ x, 0 ≤ u ∧ u < 18446744073709551616) (hl : x.length ≤ 1000000) : F120 [⟨.sl (.int .u64), x⟩] = some [⟨.sl (.int .u8), putL x⟩] := by
  have h71 := s71 (lc := [c71]) rfl
  simp only [F120, Fof, ir120]
  generalize Phi [c71] = Φ at *
  simp -implicitDefEqProofs [h71]
  refine (iter_meas (fun s : List Int × Int => (x.length - s.2).toNat) (fun s => [⟨.sl (.int .u8), s.1 ++ putL (x.drop s.2.toNat)⟩])
    (fun s => 0 ≤ s.2 ∧ s.2 ≤ x.length ∧ s.1.length ≤ 10 * s.2.toNat) ⟨by simp, by simp, by simp⟩ ?_).trans (by simp)
  rintro ⟨b, i⟩ ⟨h1, h2, h3⟩
  simp only at h1 h2 h3 ⊢
  by_cases hi : i < x.length
  · have hu := h (x[i.toNat]'(by omega)) (List.getElem_mem _)
    rw [if_pos hi, if_pos ⟨h1, hi⟩, getI h1 hi, dropI h1 hi]
    generalize x[i.toNat]'(by omega) = u at hu
    have hlen := one_len10 u.toNat (by omega)
    have hbig : b.length + (one u.toNat).length ≤ BIG := by simp only [BIG]; omega
    refine .inl ⟨(b ++ one u.toNat, i + 1), ?_, ⟨by simp; omega, by simp; omega, by simp; omega⟩, by simp; omega, ?_⟩
    · have h := h71 u hu
      simp -implicitDefEqProofs [h, hbig]
      exact wi64 (i + 1) (by omega) (by omega)
    · rw [putL_cons, List.append_assoc]
  · refine .inr ?_
    rw [if_neg hi, List.drop_eq_nil_of_le (by omega), putL_nil, List.append_nil]
theorem s120 {lc : List Ct} (hl0 : look (lc.map fun c => (c.sig.id, c)) 120 = some c120) : ∀ (x : List Int) (h : ∀ u ∈ x, 0 ≤ u ∧ u < 18446744073709551616) (hl : x.length ≤ 1000000), Does1 (Phi lc) 120 [⟨.sl (.int .u64), x⟩] [⟨.sl (.int .u8), putL x⟩] :=
  fun x h hl => by
    have eFc : c120.F = F120 := rfl
    have eFh := f120 x h hl
    rw [← eFc] at eFh
    exact Does1.of hl0 eFh rfl
theorem f17 (x0 y0 : Bool) (x1 y1 : List Int) (x2 x3 x4 x5 y2 y3 y4 y5 : Int) : F17 [⟨.bool, x0⟩, ⟨.sl (.int .u8), x1⟩, ⟨.int .i64, x2⟩, ⟨.int .i64, x3⟩, ⟨.int .i64, x4⟩, ⟨.int .u32, x5⟩, ⟨.bool, y0⟩, ⟨.sl (.int .u8), y1⟩, ⟨.int .i64, y2⟩, ⟨.int .i64, y3⟩, ⟨.int .i64, y4⟩, ⟨.int .u32, y5⟩] = some [⟨.bool, x0 == y0 && decide (x2 = y2 ∧ x3 = y3 ∧ x4 = y4 ∧ x5 = y5) && decide (x1 = y1)⟩] := by
  have h67 := s67 (lc := [c67]) rfl
  simp only [F17, Fof, ir17]
  generalize Phi [c67] = Φ at *
  simp -implicitDefEqProofs [h67]
  by_cases e1 : x0 = y0 <;> by_cases e2 : x2 = y2 ∧ x3 = y3 ∧ x4 = y4 ∧ x5 = y5
  · simp [e1, e2]
  · simp only [e1, e2, if_true, if_false]
    have : (decide (x2 = y2) && (decide (x3 = y3) && (decide (x4 = y4) && decide (x5 = y5)))) = false := by simpa using e2
    simp [this]
  · simp [e1]
  · simp [e1]
theorem s17 {lc : List Ct} (hl0 : look (lc.map fun c => (c.sig.id, c)) 17 = some c17) : ∀ (x0 y0 : Bool) (x1 y1 : List Int) (x2 x3 x4 x5 y2 y3 y4 y5 : Int), Does1 (Phi lc) 17 [⟨.bool, x0⟩, ⟨.sl (.int .u8), x1⟩, ⟨.int .i64, x2⟩, ⟨.int .i64, x3⟩, ⟨.int .i64, x4⟩, ⟨.int .u32, x5⟩, ⟨.bool, y0⟩, ⟨.sl (.int .u8), y1⟩, ⟨.int .i64, y2⟩, ⟨.int .i64, y3⟩, ⟨.int .i64, y4⟩, ⟨.int .u32, y5⟩] [⟨.bool, x0 == y0 && decide (x2 = y2 ∧ x3 = y3 ∧ x4 = y4 ∧ x5 = y5) && decide (x1 = y1)⟩] :=
  fun x0 y0 x1 y1 x2 x3 x4 x5 y2 y3 y4 y5 => by
    have eFc : c17.F = F17 := rfl
    have eFh := f17 x0 y0 x1 y1 x2 x3 x4 x5 y2 y3 y4 y5
    rw [← eFc] at eFh
    exact Does1.of hl0 eFh rfl
theorem f18 (x0 y0 : Bool) (x1 y1 : List Int) (x2 x3 x4 x5 y2 y3 y4 y5 : Int) (hx : x1.length < 1000000000) : F18 [⟨.bool, x0⟩, ⟨.sl (.int .u8), x1⟩, ⟨.int .i64, x2⟩, ⟨.int .i64, x3⟩, ⟨.int .i64, x4⟩, ⟨.int .u32, x5⟩, ⟨.bool, y0⟩, ⟨.sl (.int .u8), y1⟩, ⟨.int .i64, y2⟩, ⟨.int .i64, y3⟩, ⟨.int .i64, y4⟩, ⟨.int .u32, y5⟩] = some [⟨.bool, x0 == y0 && decide (x2 = y2 ∧ x3 = y3 ∧ x4 = y4 ∧ x5 = y5) && decide (x1 = y1)⟩] := by
  have h21 := s21 (lc := [c21]) rfl
  simp only [F18, Fof, ir18]
  generalize Phi [c21] = Φ at *
  simp -implicitDefEqProofs [h21, hx]
  by_cases e1 : x0 = y0 <;> by_cases e2 : x2 = y2 ∧ x3 = y3 ∧ x4 = y4 ∧ x5 = y5
  · simp [e1, e2]
  · simp only [e1, e2, if_true, if_false]
    have : (decide (x2 = y2) && (decide (x3 = y3) && (decide (x4 = y4) && decide (x5 = y5)))) = false := by simpa using e2
    simp [this]
  · simp [e1]
  · simp [e1]
theorem s18 {lc : List Ct} (hl0 : look (lc.map fun c => (c.sig.id, c)) 18 = some c18) : ∀ (x0 y0 : Bool) (x1 y1 : List Int) (x2 x3 x4 x5 y2 y3 y4 y5 : Int) (hx : x1.length < 1000000000), Does1 (Phi lc) 18 [⟨.bool, x0⟩, ⟨.sl (.int .u8), x1⟩, ⟨.int .i64, x2⟩, ⟨.int .i64, x3⟩, ⟨.int .i64, x4⟩, ⟨.int .u32, x5⟩, ⟨.bool, y0⟩, ⟨.sl (.int .u8), y1⟩, ⟨.int .i64, y2⟩, ⟨.int .i64, y3⟩, ⟨.int .i64, y4⟩, ⟨.int .u32, y5⟩] [⟨.bool, x0 == y0 && decide (x2 = y2 ∧ x3 = y3 ∧ x4 = y4 ∧ x5 = y5) && decide (x1 = y1)⟩] :=
  fun x0 y0 x1 y1 x2 x3 x4 x5 y2 y3 y4 y5 hx => by
    have eFc : c18.F = F18 := rfl
    have eFh := f18 x0 y0 x1 y1 x2 x3 x4 x5 y2 y3 y4 y5 hx
    rw [← eFc] at eFh
    exact Does1.of hl0 eFh rfl
theorem f19 (x0 : Bool) (x1 : List Int) (x2 x3 x4 x5 : Int) : F19 [⟨.bool, x0⟩, ⟨.sl (.int .u8), x1⟩, ⟨.int .i64, x2⟩, ⟨.int .i64, x3⟩, ⟨.int .i64, x4⟩, ⟨.int .u32, x5⟩] = some [⟨.bool, decide (cErr x0 x1 x2 x3 x4 x5 = 0)⟩] := by
  have h27 := s27 (lc := [c27]) rfl
  simp only [F19, Fof, ir19]
  generalize Phi [c27] = Φ at *
  simp -implicitDefEqProofs [h27]
  have sb : ∀ b : Bool, (b = true ↔ cErr x0 x1 x2 x3 x4 x5 = 0) → (some [⟨.bool, b⟩] : Option (List D)) = some [⟨.bool, decide (cErr x0 x1 x2 x3 x4 x5 = 0)⟩] := fun b hb => by
    have : b = decide (cErr x0 x1 x2 x3 x4 x5 = 0) := by rw [Bool.eq_iff_iff, hb]; simp
    rw [this]
  cases x0
  · rw [if_neg (by simp)]
    split
    · refine sb _ ?_
      simp only [cErr, Bool.false_eq_true, if_false, Bool.and_eq_true, decide_eq_true_eq]
      constructor
      · intro h; rw [if_neg (by omega)]
      · intro h; split at h
        · cases h
        · omega
    · refine sb _ ?_
      simp only [cErr, Bool.false_eq_true, if_false, false_iff]
      rw [if_pos (by omega)]; omega
  · rw [if_pos rfl]
    split
    · rename_i he; subst he
      refine sb _ ?_
      simp [cErr]
    · rename_i he
      refine sb _ ?_
      have : 0 < x1.length := List.length_pos_iff.2 he
      simp [cErr, this]
theorem s19 {lc : List Ct} (hl0 : look (lc.map fun c => (c.sig.id, c)) 19 = some c19) : ∀ (x0 : Bool) (x1 : List Int) (x2 x3 x4 x5 : Int), Does1 (Phi lc) 19 [⟨.bool, x0⟩, ⟨.sl (.int .u8), x1⟩, ⟨.int .i64, x2⟩, ⟨.int .i64, x3⟩, ⟨.int .i64, x4⟩, ⟨.int .u32, x5⟩] [⟨.bool, decide (cErr x0 x1 x2 x3 x4 x5 = 0)⟩] :=
  fun x0 x1 x2 x3 x4 x5 => by
    have eFc : c19.F = F19 := rfl
    have eFh := f19 x0 x1 x2 x3 x4 x5
    rw [← eFc] at eFh
    exact Does1.of hl0 eFh rfl
theorem f70 (x0 x1 x2 x3 : Int) (hp : pOk x0 x1 x2 = true) (h0 : 0 ≤ x3) (h1 : x3 < 4294967296) : F70 [⟨.int .i64, x0⟩, ⟨.int .i64, x1⟩, ⟨.int .i64, x2⟩, ⟨.int .u32, x3⟩] = some [⟨.sl (.int .u8), putL [x0, x1, x2] ++ sum4 x3⟩] := by
  have h120 := s120 (lc := [c120, c121]) rfl
  have h121 := s121 (lc := [c120, c121]) rfl
  simp only [F70, Fof, ir70]
  generalize Phi [c120, c121] = Φ at *
  have hp' : 1 ≤ x0 ∧ x0 ≤ 2147483647 ∧ 0 ≤ x1 ∧ x1 ≤ 2147483647 ∧ 0 ≤ x2 ∧ x2 ≤ 4096 := by simpa [pOk] using hp
  have hl : ∀ u ∈ [x0, x1, x2], 0 ≤ u ∧ u < 18446744073709551616 := by
    intro u hu; simp only [List.mem_cons, List.not_mem_nil, or_false] at hu; omega
  have hlen := putL_len _ hl
  have k1 := h120 [x0, x1, x2] hl (by simp)
  have k2 := h121 x3 h0 h1
  simp -implicitDefEqProofs [k1, k2, wu64 x0 (by omega) (by omega), wu64 x1 (by omega) (by omega), wu64 x2 (by omega) (by omega), BIG]
  simp [sum4] at hlen ⊢
  omega
theorem s70 {lc : List Ct} (hl0 : look (lc.map fun c => (c.sig.id, c)) 70 = some c70) : ∀ (x0 x1 x2 x3 : Int) (hp : pOk x0 x1 x2 = true) (h0 : 0 ≤ x3) (h1 : x3 < 4294967296), Does1 (Phi lc) 70 [⟨.int .i64, x0⟩, ⟨.int .i64, x1⟩, ⟨.int .i64, x2⟩, ⟨.int .u32, x3⟩] [⟨.sl (.int .u8), putL [x0, x1, x2] ++ sum4 x3⟩] :=
  fun x0 x1 x2 x3 hp h0 h1 => by
    have eFc : c70.F = F70 := rfl
    have eFh := f70 x0 x1 x2 x3 hp h0 h1
    rw [← eFc] at eFh
    exact Does1.of hl0 eFh rfl
theorem f22 (x0 : Bool) (x1 : List Int) (x2 x3 x4 x5 : Int) (hc : cErr x0 x1 x2 x3 x4 x5 = 0) (h0 : 0 ≤ x5) (h1 : x5 < 4294967296) : F22 [⟨.bool, x0⟩, ⟨.sl (.int .u8), x1⟩, ⟨.int .i64, x2⟩, ⟨.int .i64, x3⟩, ⟨.int .i64, x4⟩, ⟨.int .u32, x5⟩] = some [⟨.sl (.int .u8), putC x0 x1 x2 x3 x4 x5⟩] := by
  have h70 := s70 (lc := [c70, c71]) rfl
  have h71 := s71 (lc := [c70, c71]) rfl
  simp only [F22, Fof, ir22]
  generalize Phi [c70, c71] = Φ at *
  simp -implicitDefEqProofs [h70, h71]
  cases x0
  · have hl : x1.length ≤ 32 := by
      simp only [cErr, Bool.false_eq_true, if_false] at hc
      split at hc
      · cases hc
      · omega
    have k1 := h71 (x1.length : Int) (by omega)
    have k2 := one_len10 x1.length (by omega)
    simp -implicitDefEqProofs [k1, wu64 (x1.length : Int) (by omega) (by omega), BIG, putC]
    exact ⟨by omega, by omega⟩
  · have hp : pOk x2 x3 x4 = true := by
      simp only [cErr, if_true] at hc
      split at hc
      · cases hc
      · split at hc
        · assumption
        · cases hc
    have k := h70 x2 x3 x4 x5 hp h0 h1
    have hlen := putL_len [x2, x3, x4] (by have hp' : 1 ≤ x2 ∧ x2 ≤ 2147483647 ∧ 0 ≤ x3 ∧ x3 ≤ 2147483647 ∧ 0 ≤ x4 ∧ x4 ≤ 4096 := by simpa [pOk] using hp
                                           intro u hu; simp only [List.mem_cons, List.not_mem_nil, or_false] at hu; omega)
    simp [sum4] at hlen
    simp -implicitDefEqProofs [k, BIG, putC, sum4]
    omega
theorem s22 {lc : List Ct} (hl0 : look (lc.map fun c => (c.sig.id, c)) 22 = some c22) : ∀ (x0 : Bool) (x1 : List Int) (x2 x3 x4 x5 : Int) (hc : cErr x0 x1 x2 x3 x4 x5 = 0) (h0 : 0 ≤ x5) (h1 : x5 < 4294967296), Does1 (Phi lc) 22 [⟨.bool, x0⟩, ⟨.sl (.int .u8), x1⟩, ⟨.int .i64, x2⟩, ⟨.int .i64, x3⟩, ⟨.int .i64, x4⟩, ⟨.int .u32, x5⟩] [⟨.sl (.int .u8), putC x0 x1 x2 x3 x4 x5⟩] :=
  fun x0 x1 x2 x3 x4 x5 hc h0 h1 => by
    have eFc : c22.F = F22 := rfl
    have eFh := f22 x0 x1 x2 x3 x4 x5 hc h0 h1
    rw [← eFc] at eFh
    exact Does1.of hl0 eFh rfl
theorem f16 (x0 : Bool) (x1 : List Int) (x2 x3 x4 x5 : Int) (h0 : 0 ≤ x5) (h1 : x5 < 4294967296) : F16 [⟨.bool, x0⟩, ⟨.sl (.int .u8), x1⟩, ⟨.int .i64, x2⟩, ⟨.int .i64, x3⟩, ⟨.int .i64, x4⟩, ⟨.int .u32, x5⟩] = some [⟨.sl (.int .u8), if cErr x0 x1 x2 x3 x4 x5 = 0 then putC x0 x1 x2 x3 x4 x5 else []⟩, ⟨.int .i64, cErr x0 x1 x2 x3 x4 x5⟩] := by
  have h20 := s20 (lc := [c20, c65, c66]) rfl
  have h65 := s65 (lc := [c20, c65, c66]) rfl
  have h66 := s66 (lc := [c20, c65, c66]) rfl
  simp only [F16, Fof, ir16]
  generalize Phi [c20, c65, c66] = Φ at *
  simp -implicitDefEqProofs [h20, h65, h66]
  by_cases hc : cErr x0 x1 x2 x3 x4 x5 = 0
  · rw [if_pos hc, if_pos hc, hc]
    cases x0
    · have hl : x1.length ≤ 32 := by
        simp only [cErr, Bool.false_eq_true, if_false] at hc
        split at hc
        · cases hc
        · omega
      have k1 := h66 [(x1.length : Int)] (by simp; omega) (by simp)
      have k2 := one_len10 x1.length (by omega)
      have e : putL [(x1.length : Int)] = one x1.length := by simp [putL]
      rw [e] at k1
      simp -implicitDefEqProofs [k1, wu64 (x1.length : Int) (by omega) (by omega), BIG, putC]
      exact ⟨by omega, by omega⟩
    · have hp : pOk x2 x3 x4 = true := by
        simp only [cErr, if_true] at hc
        split at hc
        · cases hc
        · split at hc
          · assumption
          · cases hc
      have k := h65 x2 x3 x4 x5 h0 h1
      simp only [hp, if_true] at k
      have hlen := putL_len [x2, x3, x4] (by have hp' : 1 ≤ x2 ∧ x2 ≤ 2147483647 ∧ 0 ≤ x3 ∧ x3 ≤ 2147483647 ∧ 0 ≤ x4 ∧ x4 ≤ 4096 := by simpa [pOk] using hp
                                             intro u hu; simp only [List.mem_cons, List.not_mem_nil, or_false] at hu; omega)
      simp [sum4] at hlen
      simp -implicitDefEqProofs [k, BIG, putC, sum4]
      omega
  · simp [hc]
theorem s16 {lc : List Ct} (hl0 : look (lc.map fun c => (c.sig.id, c)) 16 = some c16) : ∀ (x0 : Bool) (x1 : List Int) (x2 x3 x4 x5 : Int) (h0 : 0 ≤ x5) (h1 : x5 < 4294967296), Does1 (Phi lc) 16 [⟨.bool, x0⟩, ⟨.sl (.int .u8), x1⟩, ⟨.int .i64, x2⟩, ⟨.int .i64, x3⟩, ⟨.int .i64, x4⟩, ⟨.int .u32, x5⟩] [⟨.sl (.int .u8), if cErr x0 x1 x2 x3 x4 x5 = 0 then putC x0 x1 x2 x3 x4 x5 else []⟩, ⟨.int .i64, cErr x0 x1 x2 x3 x4 x5⟩] :=
  fun x0 x1 x2 x3 x4 x5 h0 h1 => by
    have eFc : c16.F = F16 := rfl
    have eFh := f16 x0 x1 x2 x3 x4 x5 h0 h1
    rw [← eFc] at eFh
    exact Does1.of hl0 eFh rfl
end Go.Proofs.YtolcekkcenedjaaGreat.Sx

namespace Go.Proofs.YtolcekkcenedjaaGreat.Sx
theorem rec71 : ∀ (n : Nat) (u : Int), 0 ≤ u → u < 18446744073709551616 → u.toNat < 128 ^ (n + 1) → Frec sig71 [] ir71 (n + 1) [⟨.int .u64, u⟩] = some [⟨.sl (.int .u8), one u.toNat⟩]
  | 0, u, h0, h1, hu => by
    simp only [Frec, Fof, ir71]
    have hs : u < 128 := by simp at hu; omega
    rw [one_small (by omega), show ((u.toNat : Nat) : Int) = u by omega]
    simp -implicitDefEqProofs [hs, wu8]
    exact (by omega : u % 256 = u)
  | n + 1, u, h0, h1, hu => by
    by_cases hs : u < 128
    · rw [one_small (by omega), show ((u.toNat : Nat) : Int) = u by omega]
      simp only [Frec, Fof, ir71]
      simp -implicitDefEqProofs [hs, wu8]
      exact (by omega : u % 256 = u)
    · have ih := rec71 n (u / 128) (by omega) (by omega) (by
        rw [show (u / 128).toNat = u.toNat / 128 by omega, Nat.div_lt_iff_lt_mul (by omega), ← Nat.pow_succ]
        exact hu)
      have h71 : Does1 (Phi [⟨sig71, Frec sig71 [] ir71 (n + 1)⟩]) 71 [⟨.int .u64, u / 128⟩] [⟨.sl (.int .u8), one (u / 128).toNat⟩] := Does1.of rfl ih rfl
      have hb := one_len10 (u / 128).toNat (by omega)
      have hb' : 1 + (one (u / 128).toNat).length ≤ BIG := by simp only [BIG]; omega
      have hg : Frec sig71 [] ir71 (n + 1 + 1) [⟨.int .u64, u⟩] = den (Phi [⟨sig71, Frec sig71 [] ir71 (n + 1)⟩]) ir71 (List D) 0 [⟨.int .u64, u⟩] some (fun _ _ => none) := rfl
      rw [hg]
      generalize Frec sig71 [] ir71 (n + 1) = G at h71
      simp only [ir71]
      simp -implicitDefEqProofs [hs, wu8, td u 128 h0, tm u 128 h0, wu64 (u / 128) (by omega) (by omega), h71, hb']
      have e : one u.toNat = (u % 128 + 128) :: one (u / 128).toNat := by
        rw [one_big (by omega), show (u / 128).toNat = u.toNat / 128 by omega]
        congr 1
        omega
      rw [e, show (u % 128 + 128) % 256 = u % 128 + 128 by omega]

theorem go71 (u : Int) (h0 : 0 ≤ u) (h1 : u < 18446744073709551616) : ∃ n, Frec sig71 [] ir71 n [⟨.int .u64, u⟩] = some [⟨.sl (.int .u8), one u.toNat⟩] :=
  ⟨10, rec71 9 u h0 h1 (by omega)⟩

theorem any71 (ds rs : List D) (h : F71 ds = some rs) : ∃ n, Frec sig71 [] ir71 n ds = some rs := by
  unfold F71 at h
  split at h
  · split at h
    · rename_i u hu
      simp only [Option.some.injEq] at h
      subst h
      exact go71 u hu.1 hu.2
    · cases h
  · cases h
end Go.Proofs.YtolcekkcenedjaaGreat.Sx

namespace Go.Proofs.YtolcekkcenedjaaGreat.Sx
def sig72 : Sig := { id := 72, ins := [(false, (Ty.int .u8).sl)], outs := [(false, [((Ty.int .u8).sl, some 5)])] }
def ir72 : IR := .nilc (.v 0) (.ret [.l (.nil (Ty.int .u8))]) (.op (.mk (Ty.int .u8) 0) [] (.op .app [.v 1, .v 0] (.ret [.v 2])))
def sig122 : Sig := { id := 122, ins := [(false, Ty.int .u32), (false, (Ty.int .u8).sl)], outs := [(false, [(Ty.int .u32, none)])] }
def ir122 : IR := .op (.com .u32) [.v 0] (.op .len [.v 1] (.loop [.v 2, .l (.int .i64 0)] [Ty.int .u32, Ty.int .i64] (.op (.icmp .lss) [.v 5, .v 3] (.ite (.v 6) (.op .inb [.v 1, .v 5] (.op (.idx (Ty.int .u8)) [.v 1, .v 5] (.op (.conv .u32) [.v 7] (.op (.ibin .xor .u32) [.v 4, .v 8] (.loop [.v 9, .l (.int .i64 0)] [Ty.int .u32, Ty.int .i64] (.op (.icmp .lss) [.v 11, .l (.int .i64 8)] (.ite (.v 12) (.op (.ibin .and .u32) [.v 10, .l (.int .u32 1)] (.op (.ibin .shr .u32) [.v 10, .l (.int .u64 1)] (.op (.neg .u32) [.v 13] (.op (.ibin .and .u32) [.l (.int .u32 2197175160), .v 15] (.op (.ibin .xor .u32) [.v 14, .v 16] (.op (.ibin .add .i64) [.v 11, .l (.int .i64 1)] (.jump 1 [.v 17, .v 18]))))))) (.op (.ibin .add .i64) [.v 5, .l (.int .i64 1)] (.jump 0 [.v 10, .v 13]))))))))) (.op (.com .u32) [.v 4] (.ret [.v 7]))))))
def sig73 : Sig := { id := 73, ins := [(false, (Ty.int .u8).sl)], outs := [(false, [(Ty.int .u32, none)])] }
def ir73 : IR := .op (.call 122) [.l (.int .u32 0), .v 0] (.ret [.v 1])
def sig143 : Sig := { id := 143, ins := [(false, Ty.int .u32), (false, Ty.int .i64)], outs := [(false, [(Ty.int .i64, none)])] }
def ir143 : IR := .loop [.v 0, .l (.int .i64 0)] [Ty.int .u32, Ty.int .i64] (.op (.icmp .lss) [.v 3, .v 1] (.ite (.v 4) (.op (.ibin .quo .u32) [.v 2, .l (.int .u32 2)] (.op (.ibin .add .i64) [.v 3, .l (.int .i64 1)] (.jump 0 [.v 5, .v 6]))) (.op (.ibin .rem .u32) [.v 2, .l (.int .u32 2)] (.op (.conv .i64) [.v 5] (.ret [.v 6])))))
def sig142 : Sig := { id := 142, ins := [(false, Ty.int .u32), (false, Ty.int .i64)], outs := [(false, [(Ty.int .u32, none)])] }
def ir142 : IR := .op (.call 143) [.v 0, .l (.int .i64 0)] (.op (.icmp .neq) [.v 2, .v 1] (.ite (.v 3) (.op (.ibin .quo .u32) [.v 0, .l (.int .u32 2)] (.op (.ibin .xor .u32) [.v 4, .l (.int .u32 2197175160)] (.ret [.v 5]))) (.op (.ibin .quo .u32) [.v 0, .l (.int .u32 2)] (.ret [.v 4]))))
def sig123 : Sig := { id := 123, ins := [(false, Ty.int .u32), (false, (Ty.int .u8).sl)], outs := [(false, [(Ty.int .u32, none)])] }
def ir123 : IR := .loop [.v 0, .l (.int .i64 0)] [Ty.int .u32, Ty.int .i64] (.op .len [.v 1] (.op (.icmp .lss) [.v 3, .v 4] (.ite (.v 5) (.loop [.v 2, .l (.int .i64 0)] [Ty.int .u32, Ty.int .i64] (.op (.icmp .lss) [.v 7, .l (.int .i64 8)] (.ite (.v 8) (.op .inb [.v 1, .v 3] (.op (.idx (Ty.int .u8)) [.v 1, .v 3] (.op (.conv .u32) [.v 9] (.op (.call 143) [.v 10, .v 7] (.op (.call 142) [.v 6, .v 11] (.op (.ibin .add .i64) [.v 7, .l (.int .i64 1)] (.jump 1 [.v 12, .v 13]))))))) (.op (.ibin .add .i64) [.v 3, .l (.int .i64 1)] (.jump 0 [.v 6, .v 9]))))) (.ret [.v 2]))))
def sig74 : Sig := { id := 74, ins := [(false, (Ty.int .u8).sl)], outs := [(false, [(Ty.int .u32, none)])] }
def ir74 : IR := .op (.call 123) [.l (.int .u32 4294967295), .v 0] (.op (.ibin .xor .u32) [.l (.int .u32 4294967295), .v 1] (.ret [.v 2]))
def sig133 : Sig := { id := 133, ins := [(false, (Ty.int .u8).sl)], outs := [(false, [(Ty.int .u64, none)])] }
def ir133 : IR := .op .len [.v 0] (.op (.ibin .sub .i64) [.v 1, .l (.int .i64 1)] (.loop [.l (.int .u64 0), .v 2] [Ty.int .u64, Ty.int .i64] (.op (.icmp .geq) [.v 4, .l (.int .i64 0)] (.ite (.v 5) (.op (.ibin .mul .u64) [.v 3, .l (.int .u64 128)] (.op .inb [.v 0, .v 4] (.op (.idx (Ty.int .u8)) [.v 0, .v 4] (.op (.ibin .rem .u8) [.v 7, .l (.int .u8 128)] (.op (.conv .u64) [.v 8] (.op (.ibin .add .u64) [.v 6, .v 9] (.op (.ibin .sub .i64) [.v 4, .l (.int .i64 1)] (.jump 0 [.v 10, .v 11])))))))) (.ret [.v 3])))))
def sig92 : Sig := { id := 92, ins := [(false, (Ty.int .u8).sl)], outs := [(false, [(Ty.int .u64, none)]), (false, [(Ty.int .i64, none)])] }
def ir92 : IR := .loop [.l (.int .i64 1)] [Ty.int .i64] (.op .len [.v 0] (.op (.icmp .leq) [.v 1, .v 2] (.ite (.v 3) (.op (.icmp .leq) [.v 1, .l (.int .i64 10)] (.ite (.v 4) (.op (.ibin .sub .i64) [.v 1, .l (.int .i64 1)] (.op .inb [.v 0, .v 5] (.op (.idx (Ty.int .u8)) [.v 0, .v 5] (.op (.icmp .lss) [.v 6, .l (.int .u8 128)] (.ite (.v 7) (.op .sub [.v 0, .l (.int .i64 0), .v 1] (.op (.call 133) [.v 8] (.op (.call 71) [.v 9] (.op .sub [.v 0, .l (.int .i64 0), .v 1] (.op (.call 69) [.v 10, .v 11] (.ite (.v 12) (.ret [.v 9, .v 1]) (.ret [.l (.int .u64 0), .l (.int .i64 0)]))))))) (.op (.ibin .add .i64) [.v 1, .l (.int .i64 1)] (.jump 0 [.v 8]))))))) (.ret [.l (.int .u64 0), .l (.int .i64 0)]))) (.ret [.l (.int .u64 0), .l (.int .i64 0)]))))
def sig132 : Sig := { id := 132, ins := [(false, (Ty.int .u8).sl), (false, Ty.int .i64)], outs := [(false, [((Ty.int .u64).sl, some 105)]), (false, [(Ty.int .i64, none)]), (false, [(Ty.int .i64, none)])] }
def ir132 : IR := .op (.mk (Ty.int .u64) 0) [] (.loop [.v 2, .l (.int .i64 0), .l (.int .i64 0)] [(Ty.int .u64).sl, Ty.int .i64, Ty.int .i64] (.op (.icmp .lss) [.v 5, .v 1] (.ite (.v 6) (.op .sub [.v 0, .v 4] (.op (.call 92) [.v 7] (.op (.icmp .eql) [.v 9, .l (.int .i64 0)] (.ite (.v 10) (.ret [.l (.nil (Ty.int .u64)), .v 4, .l (.int .i64 2)]) (.op (.mk (Ty.int .u64) 1) [.v 8] (.op .app [.v 3, .v 11] (.op (.ibin .add .i64) [.v 4, .v 9] (.op (.ibin .add .i64) [.v 5, .l (.int .i64 1)] (.jump 0 [.v 12, .v 13, .v 14]))))))))) (.ret [.v 3, .v 4, .l (.int .i64 0)]))))
def sig91 : Sig := { id := 91, ins := [(false, (Ty.int .u8).sl)], outs := [(true, [(Ty.int .i64, none), (Ty.int .i64, none), (Ty.int .i64, none), (Ty.int .u32, none)]), (false, [(Ty.int .i64, none)])] }
def ir91 : IR := .op (.call 132) [.v 0, .l (.int .i64 3)] (.op (.icmp .neq) [.v 3, .l (.int .i64 0)] (.ite (.v 4) (.ret [.l (.int .i64 0), .l (.int .i64 0), .l (.int .i64 0), .l (.int .u32 0), .l (.int .i64 0)]) (.op (.ibin .add .i64) [.v 2, .l (.int .i64 4)] (.op .len [.v 0] (.op (.icmp .gtr) [.v 5, .v 6] (.ite (.v 7) (.ret [.l (.int .i64 0), .l (.int .i64 0), .l (.int .i64 0), .l (.int .u32 0), .l (.int .i64 0)]) (.op .inb [.v 1, .l (.int .i64 0)] (.op (.idx (Ty.int .u64)) [.v 1, .l (.int .i64 0)] (.op (.icmp .gtr) [.v 8, .l (.int .u64 2147483647)] (.ite (.v 9) (.ret [.l (.int .i64 0), .l (.int .i64 0), .l (.int .i64 0), .l (.int .u32 0), .l (.int .i64 0)]) (.op .inb [.v 1, .l (.int .i64 1)] (.op (.idx (Ty.int .u64)) [.v 1, .l (.int .i64 1)] (.op (.icmp .gtr) [.v 10, .l (.int .u64 2147483647)] (.ite (.v 11) (.ret [.l (.int .i64 0), .l (.int .i64 0), .l (.int .i64 0), .l (.int .u32 0), .l (.int .i64 0)]) (.op .inb [.v 1, .l (.int .i64 2)] (.op (.idx (Ty.int .u64)) [.v 1, .l (.int .i64 2)] (.op (.icmp .gtr) [.v 12, .l (.int .u64 4096)] (.ite (.v 13) (.ret [.l (.int .i64 0), .l (.int .i64 0), .l (.int .i64 0), .l (.int .u32 0), .l (.int .i64 0)]) (.op .inb [.v 1, .l (.int .i64 0)] (.op (.idx (Ty.int .u64)) [.v 1, .l (.int .i64 0)] (.op (.conv .i64) [.v 14] (.op .inb [.v 1, .l (.int .i64 1)] (.op (.idx (Ty.int .u64)) [.v 1, .l (.int .i64 1)] (.op (.conv .i64) [.v 16] (.op .inb [.v 1, .l (.int .i64 2)] (.op (.idx (Ty.int .u64)) [.v 1, .l (.int .i64 2)] (.op (.conv .i64) [.v 18] (.loop [.l (.int .i64 3), .l (.int .u32 0)] [Ty.int .i64, Ty.int .u32] (.op (.icmp .geq) [.v 20, .l (.int .i64 0)] (.ite (.v 22) (.op (.ibin .mul .u32) [.v 21, .l (.int .u32 256)] (.op (.ibin .add .i64) [.v 2, .v 20] (.op .inb [.v 0, .v 24] (.op (.idx (Ty.int .u8)) [.v 0, .v 24] (.op (.conv .u32) [.v 25] (.op (.ibin .add .u32) [.v 23, .v 26] (.op (.ibin .sub .i64) [.v 20, .l (.int .i64 1)] (.jump 0 [.v 28, .v 27])))))))) (.op (.call 27) [.v 15, .v 17, .v 19, .v 21] (.op .not [.v 23] (.ite (.v 24) (.ret [.l (.int .i64 0), .l (.int .i64 0), .l (.int .i64 0), .l (.int .u32 0), .l (.int .i64 0)]) (.op (.ibin .add .i64) [.v 2, .l (.int .i64 4)] (.ret [.v 15, .v 17, .v 19, .v 21, .v 25])))))))))))))))))))))))))))))))))))
def sig44 : Sig := { id := 44, ins := [(false, (Ty.int .u8).sl)], outs := [(true, [(Ty.bool, none), ((Ty.int .u8).sl, some 5), (Ty.int .i64, none), (Ty.int .i64, none), (Ty.int .i64, none), (Ty.int .u32, none)]), (false, [(Ty.int .i64, none)])] }
def ir44 : IR := .op .len [.v 0] (.op (.icmp .eql) [.v 1, .l (.int .i64 0)] (.ite (.v 2) (.ret [.l (.bool false), .l (.nil (Ty.int .u8)), .l (.int .i64 0), .l (.int .i64 0), .l (.int .i64 0), .l (.int .u32 0), .l (.int .i64 0)]) (.op .inb [.v 0, .l (.int .i64 0)] (.op (.idx (Ty.int .u8)) [.v 0, .l (.int .i64 0)] (.op (.icmp .gtr) [.v 3, .l (.int .u8 1)] (.ite (.v 4) (.ret [.l (.bool false), .l (.nil (Ty.int .u8)), .l (.int .i64 0), .l (.int .i64 0), .l (.int .i64 0), .l (.int .u32 0), .l (.int .i64 0)]) (.op .inb [.v 0, .l (.int .i64 0)] (.op (.idx (Ty.int .u8)) [.v 0, .l (.int .i64 0)] (.op (.icmp .eql) [.v 5, .l (.int .u8 1)] (.ite (.v 6) (.op .sub [.v 0, .l (.int .i64 1)] (.op (.call 91) [.v 7] (.op (.icmp .eql) [.v 12, .l (.int .i64 0)] (.ite (.v 13) (.ret [.l (.bool false), .l (.nil (Ty.int .u8)), .l (.int .i64 0), .l (.int .i64 0), .l (.int .i64 0), .l (.int .u32 0), .l (.int .i64 0)]) (.op (.ibin .add .i64) [.v 12, .l (.int .i64 1)] (.ret [.l (.bool true), .l (.nil (Ty.int .u8)), .v 8, .v 9, .v 10, .v 11, .v 14])))))) (.op .sub [.v 0, .l (.int .i64 1)] (.op (.call 92) [.v 7] (.op (.icmp .eql) [.v 9, .l (.int .i64 0)] (.ite (.v 10) (.ret [.l (.bool false), .l (.nil (Ty.int .u8)), .l (.int .i64 0), .l (.int .i64 0), .l (.int .i64 0), .l (.int .u32 0), .l (.int .i64 0)]) (.op (.icmp .gtr) [.v 8, .l (.int .u64 32)] (.ite (.v 11) (.ret [.l (.bool false), .l (.nil (Ty.int .u8)), .l (.int .i64 0), .l (.int .i64 0), .l (.int .i64 0), .l (.int .u32 0), .l (.int .i64 0)]) (.op .len [.v 0] (.op (.ibin .add .i64) [.l (.int .i64 1), .v 9] (.op (.conv .i64) [.v 8] (.op (.ibin .add .i64) [.v 13, .v 14] (.op (.icmp .lss) [.v 12, .v 15] (.ite (.v 16) (.ret [.l (.bool false), .l (.nil (Ty.int .u8)), .l (.int .i64 0), .l (.int .i64 0), .l (.int .i64 0), .l (.int .u32 0), .l (.int .i64 0)]) (.op (.mk (Ty.int .u8) 0) [] (.op (.ibin .add .i64) [.l (.int .i64 1), .v 9] (.op (.ibin .add .i64) [.l (.int .i64 1), .v 9] (.op (.conv .i64) [.v 8] (.op (.ibin .add .i64) [.v 19, .v 20] (.op .sub [.v 0, .v 18, .v 21] (.op .app [.v 17, .v 22] (.op (.ibin .add .i64) [.l (.int .i64 1), .v 9] (.op (.conv .i64) [.v 8] (.op (.ibin .add .i64) [.v 24, .v 25] (.ret [.l (.bool false), .v 23, .l (.int .i64 0), .l (.int .i64 0), .l (.int .i64 0), .l (.int .u32 0), .v 26])))))))))))))))))))))))))))))))))
def sig90 : Sig := { id := 90, ins := [(false, (Ty.int .u8).sl)], outs := [(false, [(Ty.int .u64, none)]), (false, [(Ty.int .i64, none)]), (false, [(Ty.int .i64, none)])] }
def ir90 : IR := .loop [.l (.int .u64 0), .l (.int .i64 0)] [Ty.int .u64, Ty.int .i64] (.op .len [.v 0] (.op (.icmp .lss) [.v 2, .v 3] (.ite (.v 4) (.op (.icmp .lss) [.v 2, .l (.int .i64 10)] (.ite (.v 5) (.op .inb [.v 0, .v 2] (.op (.idx (Ty.int .u8)) [.v 0, .v 2] (.op (.conv .u64) [.v 6] (.op (.icmp .eql) [.v 2, .l (.int .i64 9)] (.ite (.v 8) (.op (.icmp .gtr) [.v 7, .l (.int .u64 1)] (.ite (.v 9) (.ret [.l (.int .u64 0), .l (.int .i64 0), .l (.int .i64 2)]) (.op (.ibin .andNot .u64) [.v 7, .l (.int .u64 128)] (.op (.ibin .mul .i64) [.l (.int .i64 7), .v 2] (.op (.ibin .shl .u64) [.v 10, .v 11] (.op (.ibin .or .u64) [.v 1, .v 12] (.op (.icmp .lss) [.v 7, .l (.int .u64 128)] (.ite (.v 14) (.op (.icmp .eql) [.v 7, .l (.int .u64 0)] (.ite (.v 15) (.op (.icmp .gtr) [.v 2, .l (.int .i64 0)] (.ite (.v 16) (.ret [.l (.int .u64 0), .l (.int .i64 0), .l (.int .i64 2)]) (.op (.ibin .add .i64) [.v 2, .l (.int .i64 1)] (.ret [.v 13, .v 17, .l (.int .i64 0)])))) (.op (.ibin .add .i64) [.v 2, .l (.int .i64 1)] (.ret [.v 13, .v 16, .l (.int .i64 0)])))) (.op (.ibin .add .i64) [.v 2, .l (.int .i64 1)] (.jump 0 [.v 13, .v 15])))))))))) (.op (.ibin .andNot .u64) [.v 7, .l (.int .u64 128)] (.op (.ibin .mul .i64) [.l (.int .i64 7), .v 2] (.op (.ibin .shl .u64) [.v 9, .v 10] (.op (.ibin .or .u64) [.v 1, .v 11] (.op (.icmp .lss) [.v 7, .l (.int .u64 128)] (.ite (.v 13) (.op (.icmp .eql) [.v 7, .l (.int .u64 0)] (.ite (.v 14) (.op (.icmp .gtr) [.v 2, .l (.int .i64 0)] (.ite (.v 15) (.ret [.l (.int .u64 0), .l (.int .i64 0), .l (.int .i64 2)]) (.op (.ibin .add .i64) [.v 2, .l (.int .i64 1)] (.ret [.v 12, .v 16, .l (.int .i64 0)])))) (.op (.ibin .add .i64) [.v 2, .l (.int .i64 1)] (.ret [.v 12, .v 15, .l (.int .i64 0)])))) (.op (.ibin .add .i64) [.v 2, .l (.int .i64 1)] (.jump 0 [.v 12, .v 14]))))))))))))) (.ret [.l (.int .u64 0), .l (.int .i64 0), .l (.int .i64 2)]))) (.ret [.l (.int .u64 0), .l (.int .i64 0), .l (.int .i64 2)]))))
def sig129 : Sig := { id := 129, ins := [(false, (Ty.int .u8).sl), (false, Ty.int .i64)], outs := [(false, [((Ty.int .u64).sl, some 105)]), (false, [(Ty.int .i64, none)]), (false, [(Ty.int .i64, none)])] }
def ir129 : IR := .op (.icmp .lss) [.v 1, .l (.int .i64 0)] (.ite (.v 2) (.ret [.l (.nil (Ty.int .u64)), .l (.int .i64 0), .l (.int .i64 1)]) (.op (.icmp .gtr) [.v 1, .l (.int .i64 1000)] (.ite (.v 3) (.ret [.l (.nil (Ty.int .u64)), .l (.int .i64 0), .l (.int .i64 1)]) (.loop [.l (.nil (Ty.int .u64)), .l (.int .i64 0), .l (.int .i64 0)] [(Ty.int .u64).sl, Ty.int .i64, Ty.int .i64] (.op (.icmp .lss) [.v 6, .v 1] (.ite (.v 7) (.op .sub [.v 0, .v 5] (.op (.call 90) [.v 8] (.op (.icmp .neq) [.v 11, .l (.int .i64 0)] (.ite (.v 12) (.ret [.l (.nil (Ty.int .u64)), .v 5, .v 11]) (.op (.mk (Ty.int .u64) 1) [.v 9] (.op .app [.v 4, .v 13] (.op (.ibin .add .i64) [.v 5, .v 10] (.op (.ibin .add .i64) [.v 6, .l (.int .i64 1)] (.jump 0 [.v 14, .v 15, .v 16]))))))))) (.ret [.v 4, .v 5, .l (.int .i64 0)])))))))
def sig130 : Sig := { id := 130, ins := [(false, (Ty.int .u64).sl)], outs := [(false, [(Ty.int .u64, none)])] }
def ir130 : IR := .op .len [.v 0] (.op (.icmp .lss) [.v 1, .l (.int .i64 1)] (.ite (.v 2) .fail (.op .inb [.v 0, .l (.int .i64 0)] (.op (.idx (Ty.int .u64)) [.v 0, .l (.int .i64 0)] (.loop [.v 3, .l (.int .i64 1)] [Ty.int .u64, Ty.int .i64] (.op .len [.v 0] (.op (.icmp .lss) [.v 5, .v 6] (.ite (.v 7) (.op .inb [.v 0, .v 5] (.op (.idx (Ty.int .u64)) [.v 0, .v 5] (.op .max [.v 4, .v 8] (.op (.ibin .add .i64) [.v 5, .l (.int .i64 1)] (.jump 0 [.v 9, .v 10]))))) (.ret [.v 4])))))))))
def sig131 : Sig := { id := 131, ins := [(false, (Ty.int .u8).sl)], outs := [(false, [(Ty.int .u32, none)])] }
def ir131 : IR := .op .inb [.v 0, .l (.int .i64 0)] (.op (.idx (Ty.int .u8)) [.v 0, .l (.int .i64 0)] (.op (.conv .u32) [.v 1] (.op .inb [.v 0, .l (.int .i64 1)] (.op (.idx (Ty.int .u8)) [.v 0, .l (.int .i64 1)] (.op (.conv .u32) [.v 3] (.op (.ibin .shl .u32) [.v 4, .l (.int .u64 8)] (.op (.ibin .or .u32) [.v 2, .v 5] (.op .inb [.v 0, .l (.int .i64 2)] (.op (.idx (Ty.int .u8)) [.v 0, .l (.int .i64 2)] (.op (.conv .u32) [.v 7] (.op (.ibin .shl .u32) [.v 8, .l (.int .u64 16)] (.op (.ibin .or .u32) [.v 6, .v 9] (.op .inb [.v 0, .l (.int .i64 3)] (.op (.idx (Ty.int .u8)) [.v 0, .l (.int .i64 3)] (.op (.conv .u32) [.v 11] (.op (.ibin .shl .u32) [.v 12, .l (.int .u64 24)] (.op (.ibin .or .u32) [.v 10, .v 13] (.ret [.v 14]))))))))))))))))))
def sig89 : Sig := { id := 89, ins := [(false, (Ty.int .u8).sl)], outs := [(true, [(Ty.int .i64, none), (Ty.int .i64, none), (Ty.int .i64, none), (Ty.int .u32, none)]), (false, [(Ty.int .i64, none)]), (false, [(Ty.int .i64, none)])] }
def ir89 : IR := .op (.call 129) [.v 0, .l (.int .i64 3)] (.op (.icmp .neq) [.v 3, .l (.int .i64 0)] (.ite (.v 4) (.ret [.l (.int .i64 0), .l (.int .i64 0), .l (.int .i64 0), .l (.int .u32 0), .l (.int .i64 0), .l (.int .i64 2)]) (.op (.call 130) [.v 1] (.op (.icmp .gtr) [.v 5, .l (.int .u64 2147483647)] (.ite (.v 6) (.ret [.l (.int .i64 0), .l (.int .i64 0), .l (.int .i64 0), .l (.int .u32 0), .l (.int .i64 0), .l (.int .i64 2)]) (.op .len [.v 0] (.op (.ibin .sub .i64) [.v 7, .v 2] (.op (.icmp .lss) [.v 8, .l (.int .i64 4)] (.ite (.v 9) (.ret [.l (.int .i64 0), .l (.int .i64 0), .l (.int .i64 0), .l (.int .u32 0), .l (.int .i64 0), .l (.int .i64 2)]) (.op .inb [.v 1, .l (.int .i64 0)] (.op (.idx (Ty.int .u64)) [.v 1, .l (.int .i64 0)] (.op (.conv .i64) [.v 10] (.op .inb [.v 1, .l (.int .i64 1)] (.op (.idx (Ty.int .u64)) [.v 1, .l (.int .i64 1)] (.op (.conv .i64) [.v 12] (.op .inb [.v 1, .l (.int .i64 2)] (.op (.idx (Ty.int .u64)) [.v 1, .l (.int .i64 2)] (.op (.conv .i64) [.v 14] (.op .sub [.v 0, .v 2] (.op (.call 131) [.v 16] (.op (.call 68) [.v 11, .v 13, .v 15, .v 17] (.op (.icmp .neq) [.v 18, .l (.int .i64 0)] (.ite (.v 19) (.ret [.l (.int .i64 0), .l (.int .i64 0), .l (.int .i64 0), .l (.int .u32 0), .l (.int .i64 0), .l (.int .i64 2)]) (.op (.ibin .add .i64) [.v 2, .l (.int .i64 4)] (.ret [.v 11, .v 13, .v 15, .v 17, .v 20, .l (.int .i64 0)])))))))))))))))))))))))))
def sig43 : Sig := { id := 43, ins := [(false, (Ty.int .u8).sl)], outs := [(true, [(Ty.bool, none), ((Ty.int .u8).sl, some 5), (Ty.int .i64, none), (Ty.int .i64, none), (Ty.int .i64, none), (Ty.int .u32, none)]), (false, [(Ty.int .i64, none)]), (false, [(Ty.int .i64, none)])] }
def ir43 : IR := .op .len [.v 0] (.op (.icmp .eql) [.v 1, .l (.int .i64 0)] (.ite (.v 2) (.ret [.l (.bool false), .l (.nil (Ty.int .u8)), .l (.int .i64 0), .l (.int .i64 0), .l (.int .i64 0), .l (.int .u32 0), .l (.int .i64 0), .l (.int .i64 2)]) (.op .inb [.v 0, .l (.int .i64 0)] (.op (.idx (Ty.int .u8)) [.v 0, .l (.int .i64 0)] (.op (.icmp .gtr) [.v 3, .l (.int .u8 1)] (.ite (.v 4) (.ret [.l (.bool false), .l (.nil (Ty.int .u8)), .l (.int .i64 0), .l (.int .i64 0), .l (.int .i64 0), .l (.int .u32 0), .l (.int .i64 0), .l (.int .i64 2)]) (.op .inb [.v 0, .l (.int .i64 0)] (.op (.idx (Ty.int .u8)) [.v 0, .l (.int .i64 0)] (.op (.icmp .eql) [.v 5, .l (.int .u8 1)] (.ite (.v 6) (.op .sub [.v 0, .l (.int .i64 1)] (.op (.call 89) [.v 7] (.op (.icmp .neq) [.v 13, .l (.int .i64 0)] (.ite (.v 14) (.ret [.l (.bool false), .l (.nil (Ty.int .u8)), .l (.int .i64 0), .l (.int .i64 0), .l (.int .i64 0), .l (.int .u32 0), .l (.int .i64 0), .v 13]) (.op (.ibin .add .i64) [.v 12, .l (.int .i64 1)] (.ret [.l (.bool true), .l (.nil (Ty.int .u8)), .v 8, .v 9, .v 10, .v 11, .v 15, .l (.int .i64 0)])))))) (.op .sub [.v 0, .l (.int .i64 1)] (.op (.call 90) [.v 7] (.op (.icmp .neq) [.v 10, .l (.int .i64 0)] (.ite (.v 11) (.ret [.l (.bool false), .l (.nil (Ty.int .u8)), .l (.int .i64 0), .l (.int .i64 0), .l (.int .i64 0), .l (.int .u32 0), .l (.int .i64 0), .l (.int .i64 2)]) (.op (.icmp .gtr) [.v 8, .l (.int .u64 32)] (.ite (.v 12) (.ret [.l (.bool false), .l (.nil (Ty.int .u8)), .l (.int .i64 0), .l (.int .i64 0), .l (.int .i64 0), .l (.int .u32 0), .l (.int .i64 0), .l (.int .i64 2)]) (.op .len [.v 0] (.op (.ibin .sub .i64) [.v 13, .l (.int .i64 1)] (.op (.ibin .sub .i64) [.v 14, .v 9] (.op (.conv .i64) [.v 8] (.op (.icmp .lss) [.v 15, .v 16] (.ite (.v 17) (.ret [.l (.bool false), .l (.nil (Ty.int .u8)), .l (.int .i64 0), .l (.int .i64 0), .l (.int .i64 0), .l (.int .u32 0), .l (.int .i64 0), .l (.int .i64 2)]) (.op (.ibin .add .i64) [.l (.int .i64 1), .v 9] (.op (.conv .i64) [.v 8] (.op (.ibin .add .i64) [.v 18, .v 19] (.op (.ibin .add .i64) [.l (.int .i64 1), .v 9] (.op .sub [.v 0, .v 21, .v 20] (.op (.call 72) [.v 22] (.ret [.l (.bool false), .v 23, .l (.int .i64 0), .l (.int .i64 0), .l (.int .i64 0), .l (.int .u32 0), .v 20, .l (.int .i64 0)])))))))))))))))))))))))))))))
noncomputable def F72 : List D → Option (List D) := Fof [] ir72
noncomputable def c72 : Ct := ⟨sig72, F72⟩
noncomputable def F122 : List D → Option (List D) := Fof [] ir122
noncomputable def c122 : Ct := ⟨sig122, F122⟩
noncomputable def F73 : List D → Option (List D) := Fof [c122] ir73
noncomputable def c73 : Ct := ⟨sig73, F73⟩
noncomputable def F143 : List D → Option (List D) := Fof [] ir143
noncomputable def c143 : Ct := ⟨sig143, F143⟩
noncomputable def F142 : List D → Option (List D) := Fof [c143] ir142
noncomputable def c142 : Ct := ⟨sig142, F142⟩
noncomputable def F123 : List D → Option (List D) := Fof [c143, c142] ir123
noncomputable def c123 : Ct := ⟨sig123, F123⟩
noncomputable def F74 : List D → Option (List D) := Fof [c123] ir74
noncomputable def c74 : Ct := ⟨sig74, F74⟩
noncomputable def F133 : List D → Option (List D) := Fof [] ir133
noncomputable def c133 : Ct := ⟨sig133, F133⟩
noncomputable def F92 : List D → Option (List D) := Fof [c133, c71, c69] ir92
noncomputable def c92 : Ct := ⟨sig92, F92⟩
noncomputable def F132 : List D → Option (List D) := Fof [c92] ir132
noncomputable def c132 : Ct := ⟨sig132, F132⟩
noncomputable def F91 : List D → Option (List D) := Fof [c132, c27] ir91
noncomputable def c91 : Ct := ⟨sig91, F91⟩
noncomputable def F44 : List D → Option (List D) := Fof [c91, c92] ir44
noncomputable def c44 : Ct := ⟨sig44, F44⟩
noncomputable def F90 : List D → Option (List D) := Fof [] ir90
noncomputable def c90 : Ct := ⟨sig90, F90⟩
noncomputable def F129 : List D → Option (List D) := Fof [c90] ir129
noncomputable def c129 : Ct := ⟨sig129, F129⟩
noncomputable def F130 : List D → Option (List D) := Fof [] ir130
noncomputable def c130 : Ct := ⟨sig130, F130⟩
noncomputable def F131 : List D → Option (List D) := Fof [] ir131
noncomputable def c131 : Ct := ⟨sig131, F131⟩
noncomputable def F89 : List D → Option (List D) := Fof [c129, c130, c131, c68] ir89
noncomputable def c89 : Ct := ⟨sig89, F89⟩
noncomputable def F43 : List D → Option (List D) := Fof [c89, c90, c72] ir43
noncomputable def c43 : Ct := ⟨sig43, F43⟩
end Go.Proofs.YtolcekkcenedjaaGreat.Sx

namespace Go.Proofs.YtolcekkcenedjaaGreat.Sx

def val (b : BitVec 32) : Int := (b.toNat : Int)
def V (x : Int) : BitVec 32 := BitVec.ofInt 32 x
def Mx : BitVec 32 := 4294967295#32
def Po : BitVec 32 := 2197175160#32

theorem val_lt (b : BitVec 32) : 0 ≤ val b ∧ val b < 4294967296 := by unfold val; have := b.isLt; omega
theorem V_val (b : BitVec 32) : V (val b) = b := by unfold V val; simp
theorem val_V (x : Int) (h0 : 0 ≤ x) (h1 : x < 4294967296) : val (V x) = x := by
  obtain ⟨n, rfl⟩ := Int.eq_ofNat_of_zero_le h0
  unfold V val; simp [BitVec.ofInt_natCast]; omega
theorem xor_val (a b : BitVec 32) : bXor .u32 (val a) (val b) = val (a ^^^ b) := by
  unfold bXor val
  have e : ∀ c : BitVec 32, BitVec.ofInt IntKind.u32.bits (c.toNat : Int) = c := fun c => by show BitVec.ofInt 32 _ = c; simp
  rw [e, e]
  show IntKind.u32.wrap ((a ^^^ b : BitVec 32).toNat : Int) = _
  have h : (a ^^^ b).toNat < 4294967296 := (a ^^^ b).isLt
  exact wu32 _ (by omega) (by omega)
theorem and_val (a b : BitVec 32) : bAnd .u32 (val a) (val b) = val (a &&& b) := by
  unfold bAnd val
  have e : ∀ c : BitVec 32, BitVec.ofInt IntKind.u32.bits (c.toNat : Int) = c := fun c => by show BitVec.ofInt 32 _ = c; simp
  rw [e, e]
  show IntKind.u32.wrap ((a &&& b : BitVec 32).toNat : Int) = _
  have h : (a &&& b).toNat < 4294967296 := (a &&& b).isLt
  exact wu32 _ (by omega) (by omega)
theorem half_val (a : BitVec 32) : val a / (2 : Int) = val (a >>> 1) := by
  unfold val; rw [BitVec.toNat_ushiftRight, Nat.shiftRight_eq_div_pow]; omega

def st (r : BitVec 32) : BitVec 32 := (r >>> 1) ^^^ (if r.toNat % 2 = 1 then Po else 0#32)
def stN : Nat → BitVec 32 → BitVec 32
  | 0, r => r
  | n + 1, r => stN n (st r)
def crcL (r : BitVec 32) : List Int → BitVec 32
  | [] => r
  | c :: l => crcL (stN 8 (r ^^^ V c)) l
def crcOf (l : List Int) : Int := val (Mx ^^^ crcL Mx l)

theorem st_val (r : BitVec 32) : bXor .u32 (val r / 2) (bAnd .u32 2197175160 (IntKind.u32.wrap (-bAnd .u32 (val r) 1))) = val (st r) := by
  have h1 : bAnd .u32 (val r) 1 = ((r.toNat % 2 : Nat) : Int) := by
    rw [show (1 : Int) = val 1#32 from rfl, and_val]
    unfold val
    rw [BitVec.toNat_and]
    show ((r.toNat &&& 1 : Nat) : Int) = _
    rw [Nat.and_one_is_mod]
  rw [h1, half_val]
  unfold st
  rcases Nat.mod_two_eq_zero_or_one r.toNat with h | h
  · rw [h, if_neg (by omega)]
    rw [show IntKind.u32.wrap (-((0 : Nat) : Int)) = val 0#32 by decide, show (2197175160 : Int) = val Po from rfl, and_val, xor_val]
    simp
  · rw [h, if_pos rfl]
    rw [show IntKind.u32.wrap (-((1 : Nat) : Int)) = val Mx by decide, show (2197175160 : Int) = val Po from rfl, and_val, xor_val, show Po &&& Mx = Po by decide]

theorem fdiv1 (x : Int) : x.fdiv (2 ^ Nat.min 1 IntKind.u32.bits) = x / 2 := fdiv_pos x 2 (by omega)

theorem inv_val (x : Int) (h0 : 0 ≤ x) (h1 : x < 4294967296) : bXor .u32 (if IntKind.u32.signed = true then -1 else IntKind.u32.max) x = val (Mx ^^^ V x) := by
  rw [show (if IntKind.u32.signed = true then (-1 : Int) else IntKind.u32.max) = val Mx by decide, ← xor_val, val_V x h0 h1]

theorem f122 (x0 : Int) (x1 : List Int) (h0 : 0 ≤ x0) (h1 : x0 < 4294967296) (hb : ∀ c ∈ x1, 0 ≤ c ∧ c < 256) (hl : x1.length < 1000000000000000) : F122 [⟨.int .u32, x0⟩, ⟨.sl (.int .u8), x1⟩] = some [⟨.int .u32, val (Mx ^^^ crcL (Mx ^^^ V x0) x1)⟩] := by
  simp only [F122, Fof, ir122]
  simp -implicitDefEqProofs
  rw [inv_val x0 h0 h1]
  generalize Mx ^^^ V x0 = r0
  refine (iter_meas (fun s : Int × Int => (x1.length - s.2).toNat) (fun s => [⟨.int .u32, val (Mx ^^^ crcL (V s.1) (x1.drop s.2.toNat))⟩])
    (fun s => 0 ≤ s.2 ∧ s.2 ≤ x1.length ∧ 0 ≤ s.1 ∧ s.1 < 4294967296) (by have h1 := (val_lt r0).1; have h2 := (val_lt r0).2; exact ⟨by simp, by simp, h1, h2⟩) ?_).trans (by simp [V_val])
  rintro ⟨r, i⟩ ⟨k1, k2, k3, k4⟩
  simp only at k1 k2 k3 k4 ⊢
  by_cases hi : i < x1.length
  · rw [if_pos hi, if_pos ⟨k1, hi⟩, getI k1 hi, dropI k1 hi]
    have hc := hb (x1[i.toNat]'(by omega)) (List.getElem_mem _)
    generalize x1[i.toNat]'(by omega) = c at hc
    refine .inl ⟨(val (stN 8 (V r ^^^ V c)), i + 1), ?_, ⟨by simp; omega, by simp; omega, (val_lt (stN 8 (V r ^^^ V c))).1, (val_lt (stN 8 (V r ^^^ V c))).2⟩, by simp; omega, by simp only [V_val, crcL]⟩
    rw [wu32 c (by omega) (by omega), show bXor .u32 r c = val (V r ^^^ V c) by rw [← xor_val, val_V r k3 k4, val_V c (by omega) (by omega)]]
    generalize V r ^^^ V c = q0
    refine (iter_meas (fun t : Int × Int => (8 - t.2).toNat) (fun t => LS.again (val (stN (8 - t.2).toNat (V t.1)), i + 1)) (fun t => 0 ≤ t.2 ∧ t.2 ≤ 8 ∧ 0 ≤ t.1 ∧ t.1 < 4294967296)
      (by have h1 := (val_lt q0).1; have h2 := (val_lt q0).2; exact ⟨by simp, by simp, h1, h2⟩) ?_).trans (by simp [V_val])
    rintro ⟨q, k⟩ ⟨j1, j2, j3, j4⟩
    simp only at j1 j2 j3 j4 ⊢
    by_cases hk : k < 8
    · refine .inl ⟨(val (st (V q)), k + 1), ?_, ⟨by simp; omega, by simp; omega, (val_lt (st (V q))).1, (val_lt (st (V q))).2⟩, by simp; omega, ?_⟩
      · rw [if_pos hk, fdiv1, wi64 (k + 1) (by omega) (by omega), ← st_val, val_V q j3 j4]
      · simp only [V_val]
        rw [show (8 - k).toNat = (8 - (k + 1)).toNat + 1 by omega, stN]
    · refine .inr ?_
      rw [if_neg hk, wi64 (i + 1) (by omega) (by omega), show (8 - k).toNat = 0 by omega, stN, val_V q j3 j4]
  · refine .inr ?_
    rw [if_neg hi, List.drop_eq_nil_of_le (by omega), crcL, inv_val r k3 k4]
theorem s122 {lc : List Ct} (hl0 : look (lc.map fun c => (c.sig.id, c)) 122 = some c122) : ∀ (x0 : Int) (x1 : List Int) (h0 : 0 ≤ x0) (h1 : x0 < 4294967296) (hb : ∀ c ∈ x1, 0 ≤ c ∧ c < 256) (hl : x1.length < 1000000000000000), Does1 (Phi lc) 122 [⟨.int .u32, x0⟩, ⟨.sl (.int .u8), x1⟩] [⟨.int .u32, val (Mx ^^^ crcL (Mx ^^^ V x0) x1)⟩] :=
  fun x0 x1 h0 h1 hb hl => by
    have eFc : c122.F = F122 := rfl
    have eFh := f122 x0 x1 h0 h1 hb hl
    rw [← eFc] at eFh
    exact Does1.of hl0 eFh rfl
theorem f73 (x : List Int) (hb : ∀ c ∈ x, 0 ≤ c ∧ c < 256) (hl : x.length < 1000000000000000) : F73 [⟨.sl (.int .u8), x⟩] = some [⟨.int .u32, crcOf x⟩] := by
  have h122 := s122 (lc := [c122]) rfl
  simp only [F73, Fof, ir73]
  generalize Phi [c122] = Φ at *
  have k := h122 0 x (by omega) (by omega) hb hl
  rw [show Mx ^^^ V 0 = Mx by decide] at k
  simp -implicitDefEqProofs [k, crcOf]
theorem s73 {lc : List Ct} (hl0 : look (lc.map fun c => (c.sig.id, c)) 73 = some c73) : ∀ (x : List Int) (hb : ∀ c ∈ x, 0 ≤ c ∧ c < 256) (hl : x.length < 1000000000000000), Does1 (Phi lc) 73 [⟨.sl (.int .u8), x⟩] [⟨.int .u32, crcOf x⟩] :=
  fun x hb hl => by
    have eFc : c73.F = F73 := rfl
    have eFh := f73 x hb hl
    rw [← eFc] at eFh
    exact Does1.of hl0 eFh rfl
theorem f143 (x0 x1 : Int) (h0 : 0 ≤ x0) (h1 : x0 < 4294967296) (h2 : 0 ≤ x1) (h3 : x1 < 64) : F143 [⟨.int .u32, x0⟩, ⟨.int .i64, x1⟩] = some [⟨.int .i64, x0 / 2 ^ x1.toNat % 2⟩] := by
  simp only [F143, Fof, ir143]
  simp -implicitDefEqProofs
  refine (iter_meas (fun s : Int × Int => (x1 - s.2).toNat) (fun s => [⟨.int .i64, s.1 / 2 ^ (x1 - s.2).toNat % 2⟩])
    (fun s => 0 ≤ s.2 ∧ s.2 ≤ x1 ∧ 0 ≤ s.1 ∧ s.1 < 4294967296) ⟨by simp, by simp; omega, h0, h1⟩ ?_).trans (by simp)
  rintro ⟨n, i⟩ ⟨k1, k2, k3, k4⟩
  simp only at k1 k2 k3 k4 ⊢
  by_cases hi : i < x1
  · refine .inl ⟨(n / 2, i + 1), ?_, ⟨by simp; omega, by simp; omega, by simp; omega, by simp; omega⟩, by simp; omega, ?_⟩
    · rw [if_pos hi, td n 2 k3, wu32 (n / 2) (by omega) (by omega), wi64 (i + 1) (by omega) (by omega)]
    · simp only
      rw [show (x1 - i).toNat = (x1 - (i + 1)).toNat + 1 by omega, Int.pow_succ, Int.mul_comm, ← Int.ediv_ediv_of_nonneg (by omega)]
  · refine .inr ?_
    rw [if_neg hi, tm n 2 k3, wi64 (n % 2) (by omega) (by omega), show (x1 - i).toNat = 0 by omega]
    simp
theorem s143 {lc : List Ct} (hl0 : look (lc.map fun c => (c.sig.id, c)) 143 = some c143) : ∀ (x0 x1 : Int) (h0 : 0 ≤ x0) (h1 : x0 < 4294967296) (h2 : 0 ≤ x1) (h3 : x1 < 64), Does1 (Phi lc) 143 [⟨.int .u32, x0⟩, ⟨.int .i64, x1⟩] [⟨.int .i64, x0 / 2 ^ x1.toNat % 2⟩] :=
  fun x0 x1 h0 h1 h2 h3 => by
    have eFc : c143.F = F143 := rfl
    have eFh := f143 x0 x1 h0 h1 h2 h3
    rw [← eFc] at eFh
    exact Does1.of hl0 eFh rfl
def sr (r : BitVec 32) (b : Int) : BitVec 32 := if ((r.toNat % 2 : Nat) : Int) = b then r >>> 1 else (r >>> 1) ^^^ Po
theorem f142 (x0 x1 : Int) (h0 : 0 ≤ x0) (h1 : x0 < 4294967296) : F142 [⟨.int .u32, x0⟩, ⟨.int .i64, x1⟩] = some [⟨.int .u32, val (sr (V x0) x1)⟩] := by
  have h143 := s143 (lc := [c143]) rfl
  simp only [F142, Fof, ir142]
  generalize Phi [c143] = Φ at *
  have k := h143 x0 0 h0 h1 (by omega) (by omega)
  have e1 : x0 / 2 ^ (0 : Int).toNat % 2 = (((V x0).toNat % 2 : Nat) : Int) := by
    have := val_V x0 h0 h1
    unfold val at this
    simp; omega
  rw [e1] at k
  have e2 : IntKind.u32.wrap (x0.tdiv 2) = val (V x0 >>> 1) := by rw [td x0 2 h0, wu32 _ (by omega) (by omega), ← half_val, val_V x0 h0 h1]
  have e3 : bXor .u32 (val (V x0 >>> 1)) 2197175160 = val (V x0 >>> 1 ^^^ Po) := by rw [show (2197175160 : Int) = val Po from rfl, xor_val]
  by_cases hc : (((V x0).toNat % 2 : Nat) : Int) = x1
  · simp only [sr, if_pos hc]
    rw [hc] at k
    simp -implicitDefEqProofs [k, e2]
  · simp only [sr, if_neg hc]
    have hc' : ¬ ((V x0).toNat : Int) % 2 = x1 := by simpa using hc
    simp -implicitDefEqProofs [k, e2, e3, hc']
theorem s142 {lc : List Ct} (hl0 : look (lc.map fun c => (c.sig.id, c)) 142 = some c142) : ∀ (x0 x1 : Int) (h0 : 0 ≤ x0) (h1 : x0 < 4294967296), Does1 (Phi lc) 142 [⟨.int .u32, x0⟩, ⟨.int .i64, x1⟩] [⟨.int .u32, val (sr (V x0) x1)⟩] :=
  fun x0 x1 h0 h1 => by
    have eFc : c142.F = F142 := rfl
    have eFh := f142 x0 x1 h0 h1
    rw [← eFc] at eFh
    exact Does1.of hl0 eFh rfl

def refS (c : Int) : Nat → BitVec 32 → BitVec 32
  | 0, r => r
  | n + 1, r => refS c n (sr r (c / 2 ^ (7 - n) % 2))
def refL (r : BitVec 32) : List Int → BitVec 32
  | [] => r
  | c :: l => refL (refS c 8 r) l

theorem st_sr (r : BitVec 32) (d : Int) (h0 : 0 ≤ d) (h1 : d < 256) : st (r ^^^ V d) = sr r (d % 2) ^^^ V (d / 2) := by
  have e0 : (V d).toNat = d.toNat := by have := val_V d h0 (by omega); unfold val at this; omega
  have e1 : V d >>> 1 = V (d / 2) := by
    rw [← V_val (V d >>> 1), ← half_val, val_V d h0 (by omega)]
  have e2 : (r ^^^ V d).toNat % 2 = (r.toNat + d.toNat) % 2 := by 
    rw [BitVec.toNat_xor, e0]
    have h := Nat.xor_mod_two_pow (a := r.toNat) (b := d.toNat) (n := 1)
    rw [Nat.pow_one] at h
    rw [h]
    rcases Nat.mod_two_eq_zero_or_one r.toNat with h1 | h1 <;> rcases Nat.mod_two_eq_zero_or_one d.toNat with h2 | h2 <;> rw [h1, h2] <;> simp <;> omega
  unfold st sr
  rw [e2, BitVec.ushiftRight_xor_distrib, e1]
  have hd : d = (d.toNat : Int) := by omega
  by_cases h : ((r.toNat % 2 : Nat) : Int) = d % 2
  · rw [if_pos h, if_neg (by omega)]; simp
  · rw [if_neg h, if_pos (by omega)]
    rw [BitVec.xor_assoc, BitVec.xor_comm (V (d / 2)), ← BitVec.xor_assoc]

theorem stN_ref (c : Int) (h0 : 0 ≤ c) (h1 : c < 256) : ∀ (n : Nat), n ≤ 8 → ∀ r : BitVec 32, stN n (r ^^^ V (c / 2 ^ (8 - n))) = refS c n r ^^^ V (c / 2 ^ 8)
  | 0, _, r => rfl
  | n + 1, h, r => by
    have hp : (0 : Int) < 2 ^ (8 - (n + 1)) := Int.pow_pos (by omega)
    have hq : 0 ≤ c / 2 ^ (8 - (n + 1)) := Int.ediv_nonneg h0 (Int.le_of_lt hp)
    have hq' : c / 2 ^ (8 - (n + 1)) < 256 := Int.lt_of_le_of_lt (Int.ediv_le_self _ h0) h1
    rw [stN, st_sr _ _ hq hq', refS, Int.ediv_ediv_of_nonneg (Int.le_of_lt hp), ← Int.pow_succ, show (8 - (n + 1)).succ = 8 - n by omega, stN_ref c h0 h1 n (by omega), show 8 - (n + 1) = 7 - n by omega]

theorem crc_ref : ∀ (l : List Int) (r : BitVec 32), (∀ c ∈ l, 0 ≤ c ∧ c < 256) → crcL r l = refL r l
  | [], _, _ => rfl
  | c :: l, r, h => by
    obtain ⟨h0, h1⟩ := h c (by simp)
    have := stN_ref c h0 h1 8 (by omega) r
    simp only [Nat.sub_self, Int.pow_zero, Int.ediv_one] at this
    rw [crcL, refL, this, show c / 2 ^ 8 = 0 by omega, show V 0 = 0#32 by decide]
    simp only [BitVec.xor_zero]
    exact crc_ref l _ (fun c hc => h c (by simp [hc]))

theorem f123 (x0 : Int) (x1 : List Int) (h0 : 0 ≤ x0) (h1 : x0 < 4294967296) (hb : ∀ c ∈ x1, 0 ≤ c ∧ c < 256) (hl : x1.length < 1000000000000000) : F123 [⟨.int .u32, x0⟩, ⟨.sl (.int .u8), x1⟩] = some [⟨.int .u32, val (crcL (V x0) x1)⟩] := by
  have h143 := s143 (lc := [c143, c142]) rfl
  have h142 := s142 (lc := [c143, c142]) rfl
  simp only [F123, Fof, ir123]
  generalize Phi [c143, c142] = Φ at *
  simp -implicitDefEqProofs
  rw [crc_ref x1 _ hb]
  refine (iter_meas (fun s : Int × Int => (x1.length - s.2).toNat) (fun s => [⟨.int .u32, val (refL (V s.1) (x1.drop s.2.toNat))⟩])
    (fun s => 0 ≤ s.2 ∧ s.2 ≤ x1.length ∧ 0 ≤ s.1 ∧ s.1 < 4294967296) ⟨by simp, by simp, h0, h1⟩ ?_).trans (by simp)
  rintro ⟨r, i⟩ ⟨k1, k2, k3, k4⟩
  simp only at k1 k2 k3 k4 ⊢
  by_cases hi : i < x1.length
  · rw [if_pos hi, dropI k1 hi]
    have hg := getI (d := dflt (Ty.int IntKind.u8)) k1 hi
    have hc := hb (x1[i.toNat]'(by omega)) (List.getElem_mem _)
    simp only [hg]
    generalize x1[i.toNat]'(by omega) = c at hc
    refine .inl ⟨(val (refS c 8 (V r)), i + 1), ?_, ⟨by simp; omega, by simp; omega, (val_lt (refS c 8 (V r))).1, (val_lt (refS c 8 (V r))).2⟩, by simp; omega, by simp only [V_val, refL]⟩
    refine (iter_meas (fun t : Int × Int => (8 - t.2).toNat) (fun t => LS.again (val (refS c (8 - t.2).toNat (V t.1)), i + 1)) (fun t => 0 ≤ t.2 ∧ t.2 ≤ 8 ∧ 0 ≤ t.1 ∧ t.1 < 4294967296)
      (by exact ⟨by simp, by simp, k3, k4⟩) ?_).trans (by simp)
    rintro ⟨q, k⟩ ⟨j1, j2, j3, j4⟩
    simp only at j1 j2 j3 j4 ⊢
    by_cases hk : k < 8
    · refine .inl ⟨(val (sr (V q) (c / 2 ^ k.toNat % 2)), k + 1), ?_, ⟨by simp; omega, by simp; omega, (val_lt (sr (V q) (c / 2 ^ k.toNat % 2))).1, (val_lt (sr (V q) (c / 2 ^ k.toNat % 2))).2⟩, by simp; omega, ?_⟩
      · have m1 := h143 c k (by omega) (by omega) j1 (by omega)
        have m2 := h142 q (c / 2 ^ k.toNat % 2) j3 j4
        rw [if_pos hk, if_pos ⟨k1, hi⟩, wu32 c (by omega) (by omega)]
        simp -implicitDefEqProofs [m1, m2]
        exact wi64 (k + 1) (by omega) (by omega)
      · simp only [V_val]
        rw [show (8 - k).toNat = (8 - (k + 1)).toNat + 1 by omega, refS, show 7 - (8 - (k + 1)).toNat = k.toNat by omega]
    · refine .inr ?_
      rw [if_neg hk, wi64 (i + 1) (by omega) (by omega), show (8 - k).toNat = 0 by omega, refS, val_V q j3 j4]
  · refine .inr ?_
    rw [if_neg hi, List.drop_eq_nil_of_le (by omega), refL, val_V r k3 k4]
theorem s123 {lc : List Ct} (hl0 : look (lc.map fun c => (c.sig.id, c)) 123 = some c123) : ∀ (x0 : Int) (x1 : List Int) (h0 : 0 ≤ x0) (h1 : x0 < 4294967296) (hb : ∀ c ∈ x1, 0 ≤ c ∧ c < 256) (hl : x1.length < 1000000000000000), Does1 (Phi lc) 123 [⟨.int .u32, x0⟩, ⟨.sl (.int .u8), x1⟩] [⟨.int .u32, val (crcL (V x0) x1)⟩] :=
  fun x0 x1 h0 h1 hb hl => by
    have eFc : c123.F = F123 := rfl
    have eFh := f123 x0 x1 h0 h1 hb hl
    rw [← eFc] at eFh
    exact Does1.of hl0 eFh rfl
theorem f74 (x : List Int) (hb : ∀ c ∈ x, 0 ≤ c ∧ c < 256) (hl : x.length < 1000000000000000) : F74 [⟨.sl (.int .u8), x⟩] = some [⟨.int .u32, crcOf x⟩] := by
  have h123 := s123 (lc := [c123]) rfl
  simp only [F74, Fof, ir74]
  generalize Phi [c123] = Φ at *
  have k := h123 4294967295 x (by omega) (by omega) hb hl
  rw [show V 4294967295 = Mx by decide] at k
  have e : bXor .u32 4294967295 (val (crcL Mx x)) = crcOf x := by rw [show (4294967295 : Int) = val Mx from rfl, xor_val]; rfl
  simp -implicitDefEqProofs [k, e]
theorem s74 {lc : List Ct} (hl0 : look (lc.map fun c => (c.sig.id, c)) 74 = some c74) : ∀ (x : List Int) (hb : ∀ c ∈ x, 0 ≤ c ∧ c < 256) (hl : x.length < 1000000000000000), Does1 (Phi lc) 74 [⟨.sl (.int .u8), x⟩] [⟨.int .u32, crcOf x⟩] :=
  fun x hb hl => by
    have eFc : c74.F = F74 := rfl
    have eFh := f74 x hb hl
    rw [← eFc] at eFh
    exact Does1.of hl0 eFh rfl
theorem f72 (x : List Int) (hl : x.length < 100000000000) : F72 [⟨.sl (.int .u8), x⟩] = some [⟨.sl (.int .u8), x⟩] := by
  simp only [F72, Fof, ir72]
  have hb : x.length ≤ BIG := by simp only [BIG]; omega
  by_cases hx : x = []
  · subst hx; simp -implicitDefEqProofs [eqO, BIG]
  · simp -implicitDefEqProofs [hb, hx]
theorem s72 {lc : List Ct} (hl0 : look (lc.map fun c => (c.sig.id, c)) 72 = some c72) : ∀ (x : List Int) (hl : x.length < 100000000000), Does1 (Phi lc) 72 [⟨.sl (.int .u8), x⟩] [⟨.sl (.int .u8), x⟩] :=
  fun x hl => by
    have eFc : c72.F = F72 := rfl
    have eFh := f72 x hl
    rw [← eFc] at eFh
    exact Does1.of hl0 eFh rfl
end Go.Proofs.YtolcekkcenedjaaGreat.Sx

namespace Go.Proofs.YtolcekkcenedjaaGreat.Sx

theorem crcOf_lt (l : List Int) : 0 ≤ crcOf l ∧ crcOf l < 4294967296 := val_lt _

end Go.Proofs.YtolcekkcenedjaaGreat.Sx

namespace Go.Proofs.YtolcekkcenedjaaGreat.Sx

def dec : Nat → List Int → Option (Nat × Nat)
  | 0, _ => none
  | _, [] => none
  | k + 1, c :: l => if c < 128 then some (c.toNat, 1) else match dec k l with
    | some (v, n) => if v = 0 then none else some ((c % 128).toNat + 128 * v, n + 1)
    | none => none

def getv (b : List Int) : Option (Nat × Nat) := match dec 10 b with
  | some (v, n) => if v < 18446744073709551616 then some (v, n) else none
  | none => none
def gvV (b : List Int) : Int := match getv b with | some (v, _) => v | none => 0
def gvN (b : List Int) : Nat := match getv b with | some (_, n) => n | none => 0

theorem dec_one : ∀ (k v : Nat) (r : List Int), (one v).length ≤ k → dec k (one v ++ r) = some (v, (one v).length)
  | 0, v, r, h => by have := one_pos v; omega
  | k + 1, v, r, h => by
    by_cases hv : v < 128
    · rw [one_small hv]
      simp only [List.cons_append, List.nil_append, dec, List.length_cons, List.length_nil]
      rw [if_pos (by omega)]; simp
    · rw [one_big hv] at h ⊢
      simp only [List.cons_append, dec, List.length_cons] at h ⊢
      rw [if_neg (by omega), dec_one k (v / 128) r (by omega)]
      simp only
      rw [if_neg (by omega)]
      congr 2
      omega

theorem dec_inv : ∀ (k : Nat) (b : List Int) (v n : Nat), (∀ c ∈ b, 0 ≤ c ∧ c < 256) → dec k b = some (v, n) → b.take n = one v ∧ n = (one v).length ∧ n ≤ k ∧ n ≤ b.length
  | 0, b, v, n, _, h => by simp [dec] at h
  | k + 1, [], v, n, _, h => by simp [dec] at h
  | k + 1, c :: l, v, n, hb, h => by
    obtain ⟨c0, c1⟩ := hb c (by simp)
    simp only [dec] at h
    split at h
    · simp only [Option.some.injEq, Prod.mk.injEq] at h
      obtain ⟨rfl, rfl⟩ := h
      rw [one_small (by omega)]
      simp; omega
    · split at h
      · rename_i v' n' hd
        split at h
        · cases h
        · simp only [Option.some.injEq, Prod.mk.injEq] at h
          obtain ⟨rfl, rfl⟩ := h
          obtain ⟨k1, k2, k3, k4⟩ := dec_inv k l v' n' (fun c hc => hb c (by simp [hc])) hd
          have hbig : ¬ ((c % 128).toNat + 128 * v' < 128) := by omega
          rw [one_big hbig]
          have e1 : ((c % 128).toNat + 128 * v') / 128 = v' := by omega
          rw [e1]
          simp only [List.take_succ_cons, List.length_cons, k1]
          refine ⟨?_, by omega, by omega, by omega⟩
          congr 1
          omega
      · cases h

theorem getv_inv {b : List Int} (hb : ∀ c ∈ b, 0 ≤ c ∧ c < 256) {v n : Nat} (h : getv b = some (v, n)) : v < 18446744073709551616 ∧ b.take n = one v ∧ n = (one v).length ∧ n ≤ 10 ∧ n ≤ b.length ∧ 1 ≤ n := by
  unfold getv at h
  split at h
  · rename_i v' n' hd
    split at h
    · rename_i hv
      simp only [Option.some.injEq, Prod.mk.injEq] at h
      obtain ⟨rfl, rfl⟩ := h
      obtain ⟨h1, h2, h3, h4⟩ := dec_inv 10 b v' n' hb hd
      exact ⟨hv, h1, h2, h3, h4, by rw [h2]; exact one_pos _⟩
    · cases h
  · cases h

theorem getv_one (v : Nat) (r : List Int) (h : v < 18446744073709551616) : getv (one v ++ r) = some (v, (one v).length) := by
  unfold getv
  rw [dec_one 10 v r (one_len10 v h)]
  simp only [if_pos h]

theorem gv_none {b : List Int} (h : getv b = none) : gvV b = 0 ∧ gvN b = 0 := by simp [gvV, gvN, h]
theorem gv_some {b : List Int} {v n : Nat} (h : getv b = some (v, n)) : gvV b = v ∧ gvN b = n := by simp [gvV, gvN, h]
theorem gv_range {b : List Int} (hb : ∀ c ∈ b, 0 ≤ c ∧ c < 256) : 0 ≤ gvV b ∧ gvV b < 18446744073709551616 ∧ gvN b ≤ 10 ∧ gvN b ≤ b.length := by
  cases h : getv b with
  | none => obtain ⟨h1, h2⟩ := gv_none h; rw [h1, h2]; simp
  | some x =>
    obtain ⟨v, n⟩ := x
    obtain ⟨h1, h2⟩ := gv_some h
    obtain ⟨k1, k2, k3, k4, k5, k6⟩ := getv_inv hb h
    rw [h1, h2]; omega

theorem andNot128 (c : Int) (h0 : 0 ≤ c) (h1 : c < 256) : bAndNot .u64 c 128 = c % 128 := by
  obtain ⟨n, rfl⟩ := Int.eq_ofNat_of_zero_le h0
  have key : ∀ m : Nat, m < 256 → bAndNot .u64 (m : Int) 128 = (m : Int) % 128 := by decide +kernel
  exact key n (by omega)

theorem or_pow (x y : Int) (k : Nat) (h0 : 0 ≤ x) (h1 : x < 2 ^ k) (h2 : 0 ≤ y) (h3 : x + y * 2 ^ k < 18446744073709551616) : bOr .u64 x (IntKind.u64.wrap (y * 2 ^ k)) = x + y * 2 ^ k := by
  obtain ⟨a, rfl⟩ := Int.eq_ofNat_of_zero_le h0
  obtain ⟨b, rfl⟩ := Int.eq_ofNat_of_zero_le h2
  have hy : (0 : Int) ≤ (b : Int) * 2 ^ k := Int.mul_nonneg (by omega) (Int.le_of_lt (Int.pow_pos (by omega)))
  have e1 : ((b : Int) * 2 ^ k) = ((b * 2 ^ k : Nat) : Int) := by push_cast; rfl
  have ha : a < 2 ^ k := by
    have : ((a : Int)) < ((2 ^ k : Nat) : Int) := by push_cast; exact h1
    omega
  rw [wu64 _ hy (by omega)]
  rw [e1] at h3 ⊢
  unfold bOr
  rw [BitVec.toNat_or, ofInt_nat, ofInt_nat]
  show IntKind.u64.wrap ((a % 18446744073709551616 ||| b * 2 ^ k % 18446744073709551616 : Nat) : Int) = _
  rw [Nat.mod_eq_of_lt (by omega), Nat.mod_eq_of_lt (by omega), Nat.or_comm, Nat.mul_comm b, ← Nat.two_pow_add_eq_or_of_lt ha]
  rw [wu64 _ (by omega) (by rw [Nat.mul_comm] at h3; omega)]
  push_cast
  omega

theorem ite9 {α : Type} {p q : Prop} [Decidable p] [Decidable q] (h : ¬ (p ∧ q)) (F B : α) : (if p then (if q then F else B) else B) = B := by
  by_cases hp : p
  · rw [if_pos hp, if_neg (fun hq => h ⟨hp, hq⟩)]
  · rw [if_neg hp]

theorem pow7 : ∀ j : Nat, j < 9 → (2 : Int) ^ (7 * j) ≤ 72057594037927936 := by decide

def res90 (o : Option (Nat × Nat)) (u i : Int) : List D := match o with
  | some (v, n) => if (i ≤ 0 ∨ v ≠ 0) ∧ u + (v : Int) * 2 ^ (7 * i.toNat) < 18446744073709551616 then [⟨.int .u64, u + (v : Int) * 2 ^ (7 * i.toNat)⟩, ⟨.int .i64, i + n⟩, ⟨.int .i64, 0⟩] else [⟨.int .u64, 0⟩, ⟨.int .i64, 0⟩, ⟨.int .i64, 2⟩]
  | none => [⟨.int .u64, 0⟩, ⟨.int .i64, 0⟩, ⟨.int .i64, 2⟩]

theorem f90 (x : List Int) (hb : ∀ c ∈ x, 0 ≤ c ∧ c < 256) : F90 [⟨.sl (.int .u8), x⟩] = some [⟨.int .u64, gvV x⟩, ⟨.int .i64, gvN x⟩, ⟨.int .i64, if gvN x = 0 then 2 else 0⟩] := by
  simp only [F90, Fof, ir90]
  simp -implicitDefEqProofs
  refine (iter_meas (fun s : Int × Int => (10 - s.2).toNat) (fun s => res90 (dec (10 - s.2).toNat (x.drop s.2.toNat)) s.1 s.2)
    (fun s => 0 ≤ s.2 ∧ s.2 ≤ 10 ∧ s.2 ≤ x.length ∧ 0 ≤ s.1 ∧ s.1 < 2 ^ (7 * s.2.toNat)) (by exact ⟨by simp, by simp, by simp, by simp, by simp⟩) ?_).trans ?_
  · rintro ⟨u, i⟩ ⟨h1, h2, h3, h4, h5⟩
    simp only at h1 h2 h3 h4 h5 ⊢
    by_cases hi : i < x.length
    · by_cases hk : i < 10
      · have hg := getI (d := dflt (Ty.int IntKind.u8)) h1 hi
        have hc := hb (x[i.toNat]'(by omega)) (List.getElem_mem _)
        rw [dropI h1 hi, if_pos hi, if_pos hk, if_pos ⟨h1, hi⟩]
        simp only [hg]
        generalize x[i.toNat]'(by omega) = c at hc
        have e7 : IntKind.i64.wrap (7 * i) = 7 * i := wi64 _ (by omega) (by omega)
        have em : (7 * i).toNat.min IntKind.u64.bits = 7 * i.toNat := by
          show min (7 * i).toNat 64 = _
          omega
        have ei : IntKind.i64.wrap (i + 1) = i + 1 := wi64 _ (by omega) (by omega)
        rw [show (10 - i).toNat = (10 - (i + 1)).toNat + 1 by omega]
        simp only [wu64 c hc.1 (by omega), e7, em, ei, andNot128 c hc.1 hc.2, show ¬ (7 * i < 0) by omega, if_false]
        have hP : (0 : Int) < 2 ^ (7 * i.toNat) := Int.pow_pos (by omega)
        by_cases hA : i = 9 ∧ 1 < c
        · obtain ⟨rfl, hc1⟩ := hA
          refine .inr ?_
          rw [if_pos rfl, if_pos hc1]
          have hd : dec ((10 - (9 + 1) : Int).toNat + 1) (c :: x.drop (9 + 1 : Int).toNat) = if c < 128 then some (c.toNat, 1) else none := by simp [dec]
          rw [hd]
          split
          · simp only [res90]
            rw [if_neg]
            intro hh
            have : (9 : Int).toNat = 9 := rfl
            rw [this] at hh h5
            omega
          · rfl
        · rw [ite9 hA]
          have hle : c * 2 ^ (7 * i.toNat) ≤ 127 * 2 ^ (7 * i.toNat) ∨ 128 ≤ c := by
            by_cases h : 128 ≤ c
            · exact .inr h
            · exact .inl (Int.mul_le_mul_of_nonneg_right (by omega) (Int.le_of_lt hP))
          have hsum : c < 128 → u + c * 2 ^ (7 * i.toNat) < 18446744073709551616 := by
            intro hc'
            by_cases h9 : i = 9
            · have hc1 : c ≤ 1 := by omega
              subst h9
              have : (9 : Int).toNat = 9 := rfl
              rw [this] at h5 ⊢
              omega
            · have hp7 := pow7 i.toNat (by omega)
              generalize (2 : Int) ^ (7 * i.toNat) = P at *
              have : c * P ≤ 127 * P := by rcases hle with h | h <;> omega
              omega
          by_cases hc8 : c < 128
          · have e128 : c % 128 = c := by omega
            have hs := hsum hc8
            rw [if_pos hc8, e128, or_pow u c (7 * i.toNat) h4 h5 hc.1 hs]
            refine .inr ?_
            have hd : dec ((10 - (i + 1)).toNat + 1) (c :: x.drop (i + 1).toNat) = some (c.toNat, 1) := by simp [dec, hc8]
            rw [hd]
            have ec : ((c.toNat : Nat) : Int) = c := by omega
            by_cases hc0 : c = 0
            · rw [if_pos hc0]
              by_cases hi0 : 0 < i
              · rw [if_pos hi0]
                simp only [res90]
                rw [if_neg (by omega)]
              · rw [if_neg hi0]
                simp only [res90]
                rw [ec, if_pos ⟨by omega, hs⟩]
                rfl
            · rw [if_neg hc0]
              simp only [res90]
              rw [ec, if_pos ⟨by omega, hs⟩]
              rfl
          · rw [if_neg hc8]
            have h9 : i ≠ 9 := by omega
            have hp7 := pow7 i.toNat (by omega)
            have hmul : c % 128 * 2 ^ (7 * i.toNat) ≤ 127 * 2 ^ (7 * i.toNat) := Int.mul_le_mul_of_nonneg_right (by omega) (Int.le_of_lt hP)
            have hmul0 : 0 ≤ c % 128 * 2 ^ (7 * i.toNat) := Int.mul_nonneg (by omega) (Int.le_of_lt hP)
            have hP1 : (2 : Int) ^ (7 * (i + 1).toNat) = 128 * 2 ^ (7 * i.toNat) := by
              rw [show 7 * (i + 1).toNat = 7 + 7 * i.toNat by omega, Int.pow_add]; rfl
            rw [or_pow u (c % 128) (7 * i.toNat) h4 h5 (by omega) (by omega)]
            refine .inl ⟨(u + c % 128 * 2 ^ (7 * i.toNat), i + 1), rfl, ⟨by simp; omega, by simp; omega, by simp; omega, by simp only; omega, by simp only [hP1]; omega⟩, by simp only; omega, ?_⟩
            simp only
            simp only [dec, if_neg hc8]
            cases hd : dec (10 - (i + 1)).toNat (x.drop (i + 1).toNat) with
            | none => rfl
            | some y =>
              obtain ⟨v, n⟩ := y
              simp only [res90]
              by_cases hv : v = 0
              · rw [if_pos hv, if_neg (by omega)]
              · rw [if_neg hv]
                simp only [hP1]
                have e1 : (((c % 128).toNat + 128 * v : Nat) : Int) = c % 128 + 128 * (v : Int) := by omega
                have e2 : u + c % 128 * 2 ^ (7 * i.toNat) + (v : Int) * (128 * 2 ^ (7 * i.toNat)) = u + (c % 128 + 128 * (v : Int)) * 2 ^ (7 * i.toNat) := by
                  rw [Int.add_mul, ← Int.add_assoc, ← Int.mul_assoc, Int.mul_comm (v : Int) 128]
                rw [e1, e2]
                have hne : (c % 128).toNat + 128 * v ≠ 0 := by omega
                have e3 : i + 1 + (n : Int) = i + ((n + 1 : Nat) : Int) := by omega
                rw [e3]
                simp only [hv, hne, ne_eq, not_false_eq_true, or_true, true_and]
      · refine .inr ?_
        rw [if_pos hi, if_neg hk, show (10 - i).toNat = 0 by omega]
        simp [dec, res90]
    · refine .inr ?_
      rw [if_neg hi, List.drop_eq_nil_of_le (by omega)]
      cases (10 - i).toNat <;> simp [dec, res90]
  · simp only [Int.sub_zero, show (10 : Int).toNat = 10 from rfl, Int.toNat_zero, List.drop_zero]
    cases hd : dec 10 x with
    | none => simp [res90, gvV, gvN, getv, hd]
    | some y =>
      obtain ⟨v, n⟩ := y
      obtain ⟨k1, k2, k3, k4⟩ := dec_inv 10 x v n hb hd
      have k5 := one_pos v
      by_cases hv : v < 18446744073709551616
      · have : (v : Int) < 18446744073709551616 := by omega
        have hn : n ≠ 0 := by omega
        simp [res90, gvV, gvN, getv, hd, hv, this, hn]
      · have : ¬ (v : Int) < 18446744073709551616 := by omega
        simp [res90, gvV, gvN, getv, hd, hv, this]
theorem s90 {lc : List Ct} (hl0 : look (lc.map fun c => (c.sig.id, c)) 90 = some c90) : ∀ (x : List Int) (hb : ∀ c ∈ x, 0 ≤ c ∧ c < 256), Does1 (Phi lc) 90 [⟨.sl (.int .u8), x⟩] [⟨.int .u64, gvV x⟩, ⟨.int .i64, gvN x⟩, ⟨.int .i64, if gvN x = 0 then 2 else 0⟩] :=
  fun x hb => by
    have eFc : c90.F = F90 := rfl
    have eFh := f90 x hb
    rw [← eFc] at eFh
    exact Does1.of hl0 eFh rfl
end Go.Proofs.YtolcekkcenedjaaGreat.Sx

namespace Go.Proofs.YtolcekkcenedjaaGreat.Sx

def raw : List Int → Int
  | [] => 0
  | c :: l => c % 128 + 128 * raw l

theorem raw_one (v : Nat) : raw (one v) = v := by
  induction v using Nat.strongRecOn with
  | ind v ih =>
    by_cases hv : v < 128
    · rw [one_small hv]; simp [raw]; omega
    · rw [one_big hv]; simp only [raw]; rw [ih (v / 128) (by omega)]; omega

theorem raw_nonneg : ∀ l : List Int, 0 ≤ raw l
  | [] => by simp [raw]
  | c :: l => by have := raw_nonneg l; simp only [raw]; omega

structure Stop (x : List Int) (n : Nat) : Prop where
  pos : 1 ≤ n
  le : n ≤ x.length
  big : ∀ j c, j + 1 < n → x[j]? = some c → 128 ≤ c
  small : ∀ c, x[n - 1]? = some c → c < 128

theorem Stop.uniq {x : List Int} {m n : Nat} (h : Stop x m) (k : Stop x n) : m = n := by
  have h1 := h.pos; have h2 := h.le; have k1 := k.pos; have k2 := k.le
  rcases Nat.lt_trichotomy m n with hlt | rfl | hlt
  · have e := List.getElem?_eq_getElem (l := x) (i := m - 1) (by omega)
    have := k.big (m - 1) _ (by omega) e
    have := h.small _ e
    omega
  · rfl
  · have e := List.getElem?_eq_getElem (l := x) (i := n - 1) (by omega)
    have := h.big (n - 1) _ (by omega) e
    have := k.small _ e
    omega

theorem one_stop (v : Nat) : Stop (one v) (one v).length := by
  induction v using Nat.strongRecOn with
  | ind v ih =>
    by_cases hv : v < 128
    · rw [one_small hv]
      exact ⟨by simp, by simp, fun j c h => by simp at h, fun c h => by simp at h; omega⟩
    · have ih := ih (v / 128) (by omega)
      rw [one_big hv]
      refine ⟨by simp, by simp, fun j c h hj => ?_, fun c h => ?_⟩
      · cases j with
        | zero => simp at hj; omega
        | succ j => exact ih.big j c (by simpa using h) (by simpa using hj)
      · have hp := ih.pos
        simp only [List.length_cons, Nat.add_sub_cancel] at h
        rw [show (one (v / 128)).length = (one (v / 128)).length - 1 + 1 by omega, List.getElem?_cons_succ] at h
        exact ih.small c h

theorem stop_of {x : List Int} {v n : Nat} (h : x.take n = one v) (hn : n = (one v).length) (hl : n ≤ x.length) : Stop x n := by
  have hs := one_stop v
  rw [← hn, ← h] at hs
  refine ⟨hs.pos, hl, fun j c hj hc => hs.big j c hj ?_, fun c hc => hs.small c ?_⟩
  · rw [List.getElem?_take, if_pos (by omega)]; exact hc
  · have := hs.pos; rw [List.getElem?_take, if_pos (by omega)]; exact hc

theorem getv_stop {x : List Int} (hb : ∀ c ∈ x, 0 ≤ c ∧ c < 256) {n : Nat} (hs : Stop x n) (h10 : n ≤ 10) (u : Int) (hu : u = raw (x.take n) % 18446744073709551616) :
    (one u.toNat = x.take n → gvV x = u ∧ gvN x = n) ∧ (one u.toNat ≠ x.take n → gvV x = 0 ∧ gvN x = 0) := by
  have hr := raw_nonneg (x.take n)
  refine ⟨fun h => ?_, fun h => ?_⟩
  · have e : x = one u.toNat ++ x.drop n := by rw [h, List.take_append_drop]
    have k := getv_one u.toNat (x.drop n) (by omega)
    rw [← e] at k
    obtain ⟨k1, k2⟩ := gv_some k
    have hl := hs.le
    rw [k1, k2, h, List.length_take]
    omega
  · cases hg : getv x with
    | none => exact gv_none hg
    | some y =>
      obtain ⟨v, m⟩ := y
      obtain ⟨k1, k2, k3, k4, k5, k6⟩ := getv_inv hb hg
      have hm := (stop_of k2 k3 k5).uniq hs
      subst hm
      exfalso
      apply h
      rw [k2]
      congr 1
      rw [k2, raw_one] at hu
      omega

theorem getv_nostop {x : List Int} (hb : ∀ c ∈ x, 0 ≤ c ∧ c < 256) (h : ∀ n, n ≤ 10 → ¬ Stop x n) : gvV x = 0 ∧ gvN x = 0 := by
  cases hg : getv x with
  | none => exact gv_none hg
  | some y =>
    obtain ⟨v, m⟩ := y
    obtain ⟨k1, k2, k3, k4, k5, k6⟩ := getv_inv hb hg
    exact absurd (stop_of k2 k3 k5) (h m k4)

theorem f133 (x : List Int) (hb : ∀ c ∈ x, 0 ≤ c ∧ c < 256) (hl : x.length < 1000000000000) : F133 [⟨.sl (.int .u8), x⟩] = some [⟨.int .u64, raw x % 18446744073709551616⟩] := by
  simp only [F133, Fof, ir133]
  simp -implicitDefEqProofs
  refine (iter_meas (fun s : Int × Int => (s.2 + 1).toNat) (fun s => ([⟨.int .u64, raw x % 18446744073709551616⟩] : List D))
    (fun s => -1 ≤ s.2 ∧ s.2 < x.length ∧ s.1 = raw (x.drop (s.2 + 1).toNat) % 18446744073709551616) ?_ ?_)
  · rw [wi64 _ (by omega) (by omega)]
    refine ⟨by simp; omega, by simp; omega, ?_⟩
    simp only
    rw [List.drop_eq_nil_of_le (by omega)]
    simp [raw]
  · rintro ⟨u, i⟩ ⟨h1, h2, h3⟩
    simp only at h1 h2 h3 ⊢
    by_cases hi : 0 ≤ i
    · have hg := getI (d := dflt (Ty.int IntKind.u8)) hi h2
      have hd := dropI hi h2
      have hc := hb (x[i.toNat]'(by omega)) (List.getElem_mem _)
      rw [if_pos hi, if_pos ⟨hi, h2⟩]
      simp only [hg]
      generalize x[i.toNat]'(by omega) = c at hc hd
      refine .inl ⟨(raw (x.drop i.toNat) % 18446744073709551616, i - 1), ?_, ⟨by simp; omega, by simp; omega, by simp⟩, by simp; omega, trivial⟩
      rw [tm c 128 hc.1, wi64 (i - 1) (by omega) (by omega), hd, wu64', wu64', wu64', h3]
      simp only [raw]
      generalize raw (x.drop (i + 1).toNat) = r
      have : ((r % 18446744073709551616 * 128) % 18446744073709551616 + c % 128 % 18446744073709551616) % 18446744073709551616 = (c % 128 + 128 * r) % 18446744073709551616 := by omega
      rw [this]
    · refine .inr ?_
      rw [if_neg hi]
      have : i = -1 := by omega
      subst this
      simp at h3
      rw [h3]
theorem s133 {lc : List Ct} (hl0 : look (lc.map fun c => (c.sig.id, c)) 133 = some c133) : ∀ (x : List Int) (hb : ∀ c ∈ x, 0 ≤ c ∧ c < 256) (hl : x.length < 1000000000000), Does1 (Phi lc) 133 [⟨.sl (.int .u8), x⟩] [⟨.int .u64, raw x % 18446744073709551616⟩] :=
  fun x hb hl => by
    have eFc : c133.F = F133 := rfl
    have eFh := f133 x hb hl
    rw [← eFc] at eFh
    exact Does1.of hl0 eFh rfl
theorem f92 (x : List Int) (hb : ∀ c ∈ x, 0 ≤ c ∧ c < 256) (hl : x.length < 1000000000000) : F92 [⟨.sl (.int .u8), x⟩] = some [⟨.int .u64, gvV x⟩, ⟨.int .i64, gvN x⟩] := by
  have h133 := s133 (lc := [c133, c71, c69]) rfl
  have h71 := s71 (lc := [c133, c71, c69]) rfl
  have h69 := s69 (lc := [c133, c71, c69]) rfl
  simp only [F92, Fof, ir92]
  generalize Phi [c133, c71, c69] = Φ at *
  simp -implicitDefEqProofs
  refine (iter_meas (fun s : Int => (11 - s).toNat) (fun s => ([⟨.int .u64, gvV x⟩, ⟨.int .i64, gvN x⟩] : List D))
    (fun s => 1 ≤ s ∧ s ≤ 11 ∧ s ≤ x.length + 1 ∧ ∀ (j : Nat) (c : Int), (j : Int) + 1 < s → x[j]? = some c → 128 ≤ c) (by exact ⟨by omega, by omega, by omega, fun j c hj => by omega⟩) ?_)
  rintro n ⟨h1, h2, h3, h4⟩
  by_cases hn : n ≤ x.length
  · by_cases hk : n ≤ 10
    · have e1 : IntKind.i64.wrap (n - 1) = n - 1 := wi64 _ (by omega) (by omega)
      have hg := getI (l := x) (d := dflt (Ty.int IntKind.u8)) (i := n - 1) (by omega) (by omega)
      have hx : x[(n - 1).toNat]? = some (x[(n - 1).toNat]'(by omega)) := List.getElem?_eq_getElem (by omega)
      rw [if_pos hn, if_pos hk]
      simp only [e1, hg]
      rw [if_pos ⟨by omega, by omega⟩]
      generalize hcd : x[(n - 1).toNat]'(by omega) = c at hx
      by_cases hc : c < 128
      · have hs : Stop x n.toNat := ⟨by omega, by omega, fun j c' hj hc' => h4 j c' (by omega) hc', fun c' hc' => by
          rw [show n.toNat - 1 = (n - 1).toNat by omega, hx] at hc'
          simp only [Option.some.injEq] at hc'
          omega⟩
        have hbt : ∀ c ∈ x.take n.toNat, 0 ≤ c ∧ c < 256 := fun c hc => hb c (List.mem_of_mem_take hc)
        have k133 := h133 (x.take n.toNat) hbt (by rw [List.length_take]; omega)
        have hr := raw_nonneg (x.take n.toNat)
        obtain ⟨q1, q2⟩ := getv_stop hb hs (by omega) _ rfl
        have hu0 : 0 ≤ raw (x.take n.toNat) % 18446744073709551616 ∧ raw (x.take n.toNat) % 18446744073709551616 < 18446744073709551616 := by omega
        generalize raw (x.take n.toNat) % 18446744073709551616 = u at *
        have k71 := h71 u hu0
        have k69 := h69 (one u.toNat) (x.take n.toNat) (by have := one_len10 u.toNat (by omega); omega)
        refine .inr ?_
        have b1 : 0 ≤ n ∧ n ≤ (x.length : Int) := by omega
        by_cases he : one u.toNat = x.take n.toNat
        · obtain ⟨v1, v2⟩ := q1 he
          rw [v1, v2]
          simp only [he, decide_true] at k69
          simp -implicitDefEqProofs [hc, b1, k133, k71, k69, he]
          exact (by omega : n = max n 0)
        · obtain ⟨v1, v2⟩ := q2 he
          rw [v1, v2]
          simp only [he, decide_false] at k69
          simp -implicitDefEqProofs [hc, b1, k133, k71, k69]
      · rw [if_neg hc]
        refine .inl ⟨n + 1, by rw [wi64 (n + 1) (by omega) (by omega)], ⟨by omega, by omega, by omega, fun j c' hj hc' => ?_⟩, by omega, trivial⟩
        by_cases hj' : (j : Int) + 1 < n
        · exact h4 j c' hj' hc'
        · rw [show j = (n - 1).toNat by omega, hx] at hc'
          simp only [Option.some.injEq] at hc'
          omega
    · rw [if_pos hn, if_neg hk]
      obtain ⟨q1, q2⟩ := getv_nostop hb (fun m hm hs => by
        have e := List.getElem?_eq_getElem (l := x) (i := m - 1) (by have := hs.le; have := hs.pos; omega)
        have := hs.small _ e
        have := h4 (m - 1) _ (by have := hs.pos; omega) e
        omega)
      rw [q1, q2]; exact .inr rfl
  · rw [if_neg hn]
    obtain ⟨q1, q2⟩ := getv_nostop hb (fun m hm hs => by
        have e := List.getElem?_eq_getElem (l := x) (i := m - 1) (by have := hs.le; have := hs.pos; omega)
        have := hs.small _ e
        have := h4 (m - 1) _ (by have := hs.pos; have := hs.le; omega) e
        omega)
    rw [q1, q2]; exact .inr rfl
theorem s92 {lc : List Ct} (hl0 : look (lc.map fun c => (c.sig.id, c)) 92 = some c92) : ∀ (x : List Int) (hb : ∀ c ∈ x, 0 ≤ c ∧ c < 256) (hl : x.length < 1000000000000), Does1 (Phi lc) 92 [⟨.sl (.int .u8), x⟩] [⟨.int .u64, gvV x⟩, ⟨.int .i64, gvN x⟩] :=
  fun x hb hl => by
    have eFc : c92.F = F92 := rfl
    have eFh := f92 x hb hl
    rw [← eFc] at eFh
    exact Does1.of hl0 eFh rfl
end Go.Proofs.YtolcekkcenedjaaGreat.Sx

namespace Go.Proofs.YtolcekkcenedjaaGreat.Sx

def allL : Nat → List Int → Option (List Int)
  | 0, _ => some []
  | n + 1, b => if gvN b = 0 then none else match allL n (b.drop (gvN b)) with | some r => some (gvV b :: r) | none => none
def allA : Nat → List Int → Nat
  | 0, _ => 0
  | n + 1, b => if gvN b = 0 then 0 else gvN b + allA n (b.drop (gvN b))

def resA (o : Option (List Int)) (l : List Int) (a : Int) : List D := match o with
  | some r => [⟨.sl (.int .u64), l ++ r⟩, ⟨.int .i64, a⟩, ⟨.int .i64, 0⟩]
  | none => [⟨.sl (.int .u64), []⟩, ⟨.int .i64, a⟩, ⟨.int .i64, 2⟩]

theorem allA_le : ∀ (n : Nat) (b : List Int), (∀ c ∈ b, 0 ≤ c ∧ c < 256) → allA n b ≤ b.length
  | 0, b, _ => by simp [allA]
  | n + 1, b, h => by
    have h1 := gv_range h
    simp only [allA]
    split
    · omega
    · have := allA_le n (b.drop (gvN b)) (fun c hc => h c (List.mem_of_mem_drop hc))
      rw [List.length_drop] at this
      omega

theorem allL_len : ∀ (n : Nat) (b r : List Int), allL n b = some r → r.length = n
  | 0, b, r, h => by simp only [allL, Option.some.injEq] at h; subst h; rfl
  | n + 1, b, r, h => by
    simp only [allL] at h
    split at h
    · cases h
    · split at h
      · rename_i r' h'
        simp only [Option.some.injEq] at h
        subst h
        simp [allL_len n _ _ h']
      · cases h

theorem allL_range : ∀ (n : Nat) (b r : List Int), (∀ c ∈ b, 0 ≤ c ∧ c < 256) → allL n b = some r → ∀ u ∈ r, 0 ≤ u ∧ u < 18446744073709551616
  | 0, b, r, _, h => by simp only [allL, Option.some.injEq] at h; subst h; intro u hu; cases hu
  | n + 1, b, r, hb, h => by
    simp only [allL] at h
    split at h
    · cases h
    · split at h
      · rename_i r' h'
        simp only [Option.some.injEq] at h
        subst h
        intro u hu
        rcases List.mem_cons.1 hu with rfl | hu
        · have := gv_range hb; omega
        · exact allL_range n _ r' (fun c hc => hb c (List.mem_of_mem_drop hc)) h' u hu
      · cases h

theorem resA_step (n : Nat) (x l : List Int) (at_ : Nat) (h : gvN (x.drop at_) ≠ 0) : resA (allL n (x.drop (at_ + gvN (x.drop at_)))) (l ++ [gvV (x.drop at_)]) ((at_ + gvN (x.drop at_) : Nat) + allA n (x.drop (at_ + gvN (x.drop at_))) : Int) =
    resA (allL (n + 1) (x.drop at_)) l (at_ + allA (n + 1) (x.drop at_)) := by
  simp only [allL, allA, if_neg h, List.drop_drop]
  cases allL n (x.drop (at_ + gvN (x.drop at_))) with
  | none =>
    simp only [resA]
    rw [show ((at_ + gvN (x.drop at_) : Nat) : Int) + (allA n (x.drop (at_ + gvN (x.drop at_))) : Int) = at_ + ((gvN (x.drop at_) + allA n (x.drop (at_ + gvN (x.drop at_))) : Nat) : Int) by omega]
  | some r =>
    simp only [resA, List.append_assoc, List.cons_append, List.nil_append]
    rw [show ((at_ + gvN (x.drop at_) : Nat) : Int) + (allA n (x.drop (at_ + gvN (x.drop at_))) : Int) = at_ + ((gvN (x.drop at_) + allA n (x.drop (at_ + gvN (x.drop at_))) : Nat) : Int) by omega]

theorem f132 (x : List Int) (n : Int) (hb : ∀ c ∈ x, 0 ≤ c ∧ c < 256) (hl : x.length < 1000000000000) (h0 : 0 ≤ n) (h1 : n ≤ 1000) : F132 [⟨.sl (.int .u8), x⟩, ⟨.int .i64, n⟩] = some (resA (allL n.toNat x) [] (allA n.toNat x)) := by
  have h92 := s92 (lc := [c92]) rfl
  simp only [F132, Fof, ir132]
  generalize Phi [c92] = Φ at *
  simp -implicitDefEqProofs
  refine (iter_meas (fun s : List Int × Int × Int => (n - s.2.2).toNat) (fun s => resA (allL (n - s.2.2).toNat (x.drop s.2.1.toNat)) s.1 (s.2.1 + allA (n - s.2.2).toNat (x.drop s.2.1.toNat)))
    (fun s => 0 ≤ s.2.1 ∧ s.2.1 ≤ x.length ∧ 0 ≤ s.2.2 ∧ s.2.2 ≤ n ∧ s.1.length ≤ s.2.2.toNat) (by exact ⟨by simp, by simp, by simp, h0, by simp⟩) ?_).trans (by simp)
  rintro ⟨l, a, i⟩ ⟨k1, k2, k3, k4, k5⟩
  simp only at k1 k2 k3 k4 k5 ⊢
  by_cases hi : i < n
  · have hbd : ∀ c ∈ x.drop a.toNat, 0 ≤ c ∧ c < 256 := fun c hc => hb c (List.mem_of_mem_drop hc)
    have hr := gv_range hbd
    have hll : (x.drop a.toNat).length = x.length - a.toNat := List.length_drop
    have k92 := h92 (x.drop a.toNat) hbd (by omega)
    have b1 : 0 ≤ a ∧ a ≤ (x.length : Int) := ⟨k1, k2⟩
    rw [show (n - i).toNat = (n - (i + 1)).toNat + 1 by omega]
    by_cases hz : gvN (x.drop a.toNat) = 0
    · refine .inr ?_
      rw [hz] at k92
      simp -implicitDefEqProofs [hi, b1, k92, allL, allA, hz, resA]
    · have hz' : ¬ ((gvN (x.drop a.toNat) : Nat) : Int) = 0 := by omega
      have hbig : l.length + 1 ≤ BIG := by simp only [BIG]; omega
      refine .inl ⟨(l ++ [gvV (x.drop a.toNat)], a + gvN (x.drop a.toNat), i + 1), ?_, ⟨by simp only; omega, by simp only; omega, by simp only; omega, by simp only; omega, by simp; omega⟩, by simp only; omega, ?_⟩
      · simp -implicitDefEqProofs [hi, b1, k92, hz', hz, hbig]
        exact ⟨wi64 _ (by omega) (by omega), wi64 _ (by omega) (by omega)⟩
      · have := resA_step (n - (i + 1)).toNat x l a.toNat hz
        simp only
        rw [show (a + (gvN (x.drop a.toNat) : Int)).toNat = a.toNat + gvN (x.drop a.toNat) by omega]
        rw [show (a + (gvN (x.drop a.toNat) : Int)) = ((a.toNat + gvN (x.drop a.toNat) : Nat) : Int) by omega, this]
        congr 2
        omega
  · refine .inr ?_
    rw [if_neg hi, show (n - i).toNat = 0 by omega]
    simp [allL, allA, resA]
theorem s132 {lc : List Ct} (hl0 : look (lc.map fun c => (c.sig.id, c)) 132 = some c132) : ∀ (x : List Int) (n : Int) (hb : ∀ c ∈ x, 0 ≤ c ∧ c < 256) (hl : x.length < 1000000000000) (h0 : 0 ≤ n) (h1 : n ≤ 1000), Does1 (Phi lc) 132 [⟨.sl (.int .u8), x⟩, ⟨.int .i64, n⟩] (resA (allL n.toNat x) [] (allA n.toNat x)) :=
  fun x n hb hl h0 h1 => by
    have eFc : c132.F = F132 := rfl
    have eFh := f132 x n hb hl h0 h1
    rw [← eFc] at eFh
    exact Does1.of hl0 eFh (by unfold resA; split <;> rfl)
theorem f129 (x : List Int) (n : Int) (hb : ∀ c ∈ x, 0 ≤ c ∧ c < 256) (hl : x.length < 1000000000000) (h0 : 0 ≤ n) (h1 : n ≤ 1000) : F129 [⟨.sl (.int .u8), x⟩, ⟨.int .i64, n⟩] = some (resA (allL n.toNat x) [] (allA n.toNat x)) := by
  have h90 := s90 (lc := [c90]) rfl
  simp only [F129, Fof, ir129]
  generalize Phi [c90] = Φ at *
  simp -implicitDefEqProofs
  rw [if_neg (by omega), if_neg (by omega)]
  refine (iter_meas (fun s : List Int × Int × Int => (n - s.2.2).toNat) (fun s => resA (allL (n - s.2.2).toNat (x.drop s.2.1.toNat)) s.1 (s.2.1 + allA (n - s.2.2).toNat (x.drop s.2.1.toNat)))
    (fun s => 0 ≤ s.2.1 ∧ s.2.1 ≤ x.length ∧ 0 ≤ s.2.2 ∧ s.2.2 ≤ n ∧ s.1.length ≤ s.2.2.toNat) (by exact ⟨by simp, by simp, by simp, h0, by simp⟩) ?_).trans (by simp)
  rintro ⟨l, a, i⟩ ⟨k1, k2, k3, k4, k5⟩
  simp only at k1 k2 k3 k4 k5 ⊢
  by_cases hi : i < n
  · have hbd : ∀ c ∈ x.drop a.toNat, 0 ≤ c ∧ c < 256 := fun c hc => hb c (List.mem_of_mem_drop hc)
    have hr := gv_range hbd
    have hll : (x.drop a.toNat).length = x.length - a.toNat := List.length_drop
    have k90 := h90 (x.drop a.toNat) hbd
    have b1 : 0 ≤ a ∧ a ≤ (x.length : Int) := ⟨k1, k2⟩
    rw [show (n - i).toNat = (n - (i + 1)).toNat + 1 by omega]
    by_cases hz : gvN (x.drop a.toNat) = 0
    · refine .inr ?_
      rw [if_pos hz] at k90
      simp -implicitDefEqProofs [hi, b1, k90, allL, allA, hz, resA]
    · have hbig : l.length + 1 ≤ BIG := by simp only [BIG]; omega
      rw [if_neg hz] at k90
      refine .inl ⟨(l ++ [gvV (x.drop a.toNat)], a + gvN (x.drop a.toNat), i + 1), ?_, ⟨by simp only; omega, by simp only; omega, by simp only; omega, by simp only; omega, by simp; omega⟩, by simp only; omega, ?_⟩
      · simp -implicitDefEqProofs [hi, b1, k90, hbig]
        exact ⟨wi64 _ (by omega) (by omega), wi64 _ (by omega) (by omega)⟩
      · have := resA_step (n - (i + 1)).toNat x l a.toNat hz
        simp only
        rw [show (a + (gvN (x.drop a.toNat) : Int)).toNat = a.toNat + gvN (x.drop a.toNat) by omega]
        rw [show (a + (gvN (x.drop a.toNat) : Int)) = ((a.toNat + gvN (x.drop a.toNat) : Nat) : Int) by omega, this]
        congr 2
        omega
  · refine .inr ?_
    rw [if_neg hi, show (n - i).toNat = 0 by omega]
    simp [allL, allA, resA]
theorem s129 {lc : List Ct} (hl0 : look (lc.map fun c => (c.sig.id, c)) 129 = some c129) : ∀ (x : List Int) (n : Int) (hb : ∀ c ∈ x, 0 ≤ c ∧ c < 256) (hl : x.length < 1000000000000) (h0 : 0 ≤ n) (h1 : n ≤ 1000), Does1 (Phi lc) 129 [⟨.sl (.int .u8), x⟩, ⟨.int .i64, n⟩] (resA (allL n.toNat x) [] (allA n.toNat x)) :=
  fun x n hb hl h0 h1 => by
    have eFc : c129.F = F129 := rfl
    have eFh := f129 x n hb hl h0 h1
    rw [← eFc] at eFh
    exact Does1.of hl0 eFh (by unfold resA; split <;> rfl)
theorem f130 (a b c : Int) : F130 [⟨.sl (.int .u64), [a, b, c]⟩] = some [⟨.int .u64, max a (max b c)⟩] := by
  simp only [F130, Fof, ir130]
  simp -implicitDefEqProofs
  rw [iter_again (s' := (if a < b then b else a, 2)) (by simp [wi64]), iter_again (s' := (if (if a < b then b else a) < c then c else (if a < b then b else a), 3)) (by simp [wi64]), iter_out rfl]
  have : (if (if a < b then b else a) < c then c else if a < b then b else a) = max a (max b c) := by
    repeat' split
    all_goals omega
  rw [this]
theorem s130 {lc : List Ct} (hl0 : look (lc.map fun c => (c.sig.id, c)) 130 = some c130) : ∀ (a b c : Int), Does1 (Phi lc) 130 [⟨.sl (.int .u64), [a, b, c]⟩] [⟨.int .u64, max a (max b c)⟩] :=
  fun a b c => by
    have eFc : c130.F = F130 := rfl
    have eFh := f130 a b c
    rw [← eFc] at eFh
    exact Does1.of hl0 eFh rfl
theorem or_pow32 (x y : Int) (k : Nat) (h0 : 0 ≤ x) (h1 : x < 2 ^ k) (h2 : 0 ≤ y) (h3 : x + y * 2 ^ k < 4294967296) : bOr .u32 x (IntKind.u32.wrap (y * 2 ^ k)) = x + y * 2 ^ k := by
  obtain ⟨a, rfl⟩ := Int.eq_ofNat_of_zero_le h0
  obtain ⟨b, rfl⟩ := Int.eq_ofNat_of_zero_le h2
  have hy : (0 : Int) ≤ (b : Int) * 2 ^ k := Int.mul_nonneg (by omega) (Int.le_of_lt (Int.pow_pos (by omega)))
  have e1 : ((b : Int) * 2 ^ k) = ((b * 2 ^ k : Nat) : Int) := by push_cast; rfl
  have ha : a < 2 ^ k := by
    have : ((a : Int)) < ((2 ^ k : Nat) : Int) := by push_cast; exact h1
    omega
  rw [wu32 _ hy (by omega)]
  rw [e1] at h3 ⊢
  unfold bOr
  rw [BitVec.toNat_or, ofInt_nat, ofInt_nat]
  show IntKind.u32.wrap ((a % 4294967296 ||| b * 2 ^ k % 4294967296 : Nat) : Int) = _
  rw [Nat.mod_eq_of_lt (by omega), Nat.mod_eq_of_lt (by omega), Nat.or_comm, Nat.mul_comm b, ← Nat.two_pow_add_eq_or_of_lt ha]
  rw [wu32 _ (by omega) (by rw [Nat.mul_comm] at h3; omega)]
  push_cast
  omega
theorem f131 (a b c d : Int) (l : List Int) (ha : 0 ≤ a ∧ a < 256) (hb : 0 ≤ b ∧ b < 256) (hc : 0 ≤ c ∧ c < 256) (hd : 0 ≤ d ∧ d < 256) : F131 [⟨.sl (.int .u8), a :: b :: c :: d :: l⟩] = some [⟨.int .u32, a + b * 256 + c * 65536 + d * 16777216⟩] := by
  simp only [F131, Fof, ir131]
  have e : bOr .u32 (bOr .u32 (bOr .u32 (IntKind.u32.wrap a) (IntKind.u32.wrap (IntKind.u32.wrap b * 2 ^ Nat.min 8 IntKind.u32.bits))) (IntKind.u32.wrap (IntKind.u32.wrap c * 2 ^ Nat.min 16 IntKind.u32.bits)))
      (IntKind.u32.wrap (IntKind.u32.wrap d * 2 ^ Nat.min 24 IntKind.u32.bits)) = a + b * 256 + c * 65536 + d * 16777216 := by
    rw [wu32 a (by omega) (by omega), wu32 b (by omega) (by omega), wu32 c (by omega) (by omega), wu32 d (by omega) (by omega)]
    rw [show Nat.min 8 IntKind.u32.bits = 8 from rfl, show Nat.min 16 IntKind.u32.bits = 16 from rfl, show Nat.min 24 IntKind.u32.bits = 24 from rfl]
    rw [or_pow32 a b 8 (by omega) (by omega) (by omega) (by omega), or_pow32 _ c 16 (by omega) (by omega) (by omega) (by omega), or_pow32 _ d 24 (by omega) (by omega) (by omega) (by omega)]
    rfl
  simp -implicitDefEqProofs
  exact ⟨by omega, by omega, by omega, by omega, e⟩
theorem s131 {lc : List Ct} (hl0 : look (lc.map fun c => (c.sig.id, c)) 131 = some c131) : ∀ (a b c d : Int) (l : List Int) (ha : 0 ≤ a ∧ a < 256) (hb : 0 ≤ b ∧ b < 256) (hc : 0 ≤ c ∧ c < 256) (hd : 0 ≤ d ∧ d < 256), Does1 (Phi lc) 131 [⟨.sl (.int .u8), a :: b :: c :: d :: l⟩] [⟨.int .u32, a + b * 256 + c * 65536 + d * 16777216⟩] :=
  fun a b c d l ha hb hc hd => by
    have eFc : c131.F = F131 := rfl
    have eFh := f131 a b c d l ha hb hc hd
    rw [← eFc] at eFh
    exact Does1.of hl0 eFh rfl
def sumv : List Int → Int
  | a :: b :: c :: d :: _ => a + b * 256 + c * 65536 + d * 16777216
  | _ => 0
def getP (x : List Int) : Option (Int × Int × Int × Int × Nat) := match allL 3 x with
  | some [s, a, n] => if allA 3 x + 4 ≤ x.length ∧ pOk s a n = true then some (s, a, n, sumv (x.drop (allA 3 x)), allA 3 x + 4) else none
  | _ => none
def resP (o : Option (Int × Int × Int × Int × Nat)) : List D := match o with
  | some (s, a, n, m, k) => [⟨.int .i64, s⟩, ⟨.int .i64, a⟩, ⟨.int .i64, n⟩, ⟨.int .u32, m⟩, ⟨.int .i64, k⟩]
  | none => [⟨.int .i64, 0⟩, ⟨.int .i64, 0⟩, ⟨.int .i64, 0⟩, ⟨.int .u32, 0⟩, ⟨.int .i64, 0⟩]
def resPe (o : Option (Int × Int × Int × Int × Nat)) : List D := match o with
  | some (s, a, n, m, k) => [⟨.int .i64, s⟩, ⟨.int .i64, a⟩, ⟨.int .i64, n⟩, ⟨.int .u32, m⟩, ⟨.int .i64, k⟩, ⟨.int .i64, 0⟩]
  | none => [⟨.int .i64, 0⟩, ⟨.int .i64, 0⟩, ⟨.int .i64, 0⟩, ⟨.int .u32, 0⟩, ⟨.int .i64, 0⟩, ⟨.int .i64, 2⟩]
theorem four {l : List Int} (h : 4 ≤ l.length) : ∃ a b c d r, l = a :: b :: c :: d :: r := by
  match l, h with
  | a :: b :: c :: d :: r, _ => exact ⟨a, b, c, d, r, rfl⟩
theorem three {l : List Int} (h : l.length = 3) : ∃ a b c, l = [a, b, c] := by
  match l, h with
  | [a, b, c], _ => exact ⟨a, b, c, rfl⟩

theorem f89 (x : List Int) (hb : ∀ c ∈ x, 0 ≤ c ∧ c < 256) (hl : x.length < 1000000000000) : F89 [⟨.sl (.int .u8), x⟩] = some (resPe (getP x)) := by
  have h129 := s129 (lc := [c129, c130, c131, c68]) rfl
  have h130 := s130 (lc := [c129, c130, c131, c68]) rfl
  have h131 := s131 (lc := [c129, c130, c131, c68]) rfl
  have h68 := s68 (lc := [c129, c130, c131, c68]) rfl
  simp only [F89, Fof, ir89]
  generalize Phi [c129, c130, c131, c68] = Φ at *
  have k129 := h129 x 3 hb hl (by omega) (by omega)
  have hle := allA_le 3 x hb
  rw [show (3 : Int).toNat = 3 from rfl] at k129
  cases ha : allL 3 x with
  | none =>
    simp only [ha, resA] at k129
    simp -implicitDefEqProofs [k129, getP, ha, resPe]
  | some r =>
    have hr := allL_range 3 x r hb ha
    obtain ⟨s, a, n, rfl⟩ := three (allL_len 3 x r ha)
    simp only [ha, resA, List.nil_append] at k129
    have hs := hr s (by simp)
    have ha' := hr a (by simp)
    have hn := hr n (by simp)
    have k130 := h130 s a n
    simp only [getP, ha]
    generalize allA 3 x = m at *
    by_cases hm : 2147483647 < max s (max a n)
    · have hp : pOk s a n = false := by simp [pOk]; omega
      simp -implicitDefEqProofs [k129, k130, resPe, hm, hp]
    · have e : IntKind.i64.wrap ((x.length : Int) - m) = (x.length : Int) - m := wi64 _ (by omega) (by omega)
      have e5 : IntKind.i64.wrap ((m : Int) + 4) = (m : Int) + 4 := wi64 _ (by omega) (by omega)
      by_cases h4 : (x.length : Int) - m < 4
      · have h4' : ¬ (m + 4 ≤ x.length) := by omega
        simp -implicitDefEqProofs [k129, k130, resPe, hm, e, h4, h4']
      · have h4' : m + 4 ≤ x.length := by omega
        obtain ⟨p, q, r, t, w, hd⟩ := four (l := x.drop m) (by rw [List.length_drop]; omega)
        have hbd : ∀ c ∈ x.drop m, 0 ≤ c ∧ c < 256 := fun c hc => hb c (List.mem_of_mem_drop hc)
        rw [hd] at hbd
        have k131 := h131 p q r t w (hbd p (by simp)) (hbd q (by simp)) (hbd r (by simp)) (hbd t (by simp))
        have k68 := h68 s a n (p + q * 256 + r * 65536 + t * 16777216)
        have b2 : (m : Int) ≤ x.length := by omega
        have es : IntKind.i64.wrap s = s := wi64 s (by omega) (by omega)
        have ea : IntKind.i64.wrap a = a := wi64 a (by omega) (by omega)
        have en : IntKind.i64.wrap n = n := wi64 n (by omega) (by omega)
        have hsum : sumv (x.drop m) = p + q * 256 + r * 65536 + t * 16777216 := by rw [hd]; rfl
        rw [hsum]
        generalize p + q * 256 + r * 65536 + t * 16777216 = z at *
        rw [← hd] at k131
        clear hd hbd hsum
        by_cases hp : pOk s a n = true
        · rw [if_pos hp] at k68
          simp -implicitDefEqProofs [k129, k130, resPe, hm, e, e5, h4, h4', b2, k131, k68, hp, es, ea, en]
        · rw [if_neg hp] at k68
          simp -implicitDefEqProofs [k129, k130, resPe, hm, e, e5, h4, h4', b2, k131, k68, hp, es, ea, en]
theorem s89 {lc : List Ct} (hl0 : look (lc.map fun c => (c.sig.id, c)) 89 = some c89) : ∀ (x : List Int) (hb : ∀ c ∈ x, 0 ≤ c ∧ c < 256) (hl : x.length < 1000000000000), Does1 (Phi lc) 89 [⟨.sl (.int .u8), x⟩] (resPe (getP x)) :=
  fun x hb hl => by
    have eFc : c89.F = F89 := rfl
    have eFh := f89 x hb hl
    rw [← eFc] at eFh
    exact Does1.of hl0 eFh (by unfold resPe; split <;> rfl)
end Go.Proofs.YtolcekkcenedjaaGreat.Sx

namespace Go.Proofs.YtolcekkcenedjaaGreat.Sx

theorem f91 (x : List Int) (hb : ∀ c ∈ x, 0 ≤ c ∧ c < 256) (hl : x.length < 1000000000000) : F91 [⟨.sl (.int .u8), x⟩] = some (resP (getP x)) := by
  have h132 := s132 (lc := [c132, c27]) rfl
  have h27 := s27 (lc := [c132, c27]) rfl
  simp only [F91, Fof, ir91]
  generalize Phi [c132, c27] = Φ at *
  have k132 := h132 x 3 hb hl (by omega) (by omega)
  have hle := allA_le 3 x hb
  rw [show (3 : Int).toNat = 3 from rfl] at k132
  cases ha : allL 3 x with
  | none =>
    simp only [ha, resA] at k132
    simp -implicitDefEqProofs [k132, getP, ha, resP]
  | some r =>
    have hr := allL_range 3 x r hb ha
    obtain ⟨s, a, n, rfl⟩ := three (allL_len 3 x r ha)
    simp only [ha, resA, List.nil_append] at k132
    have hs := hr s (by simp)
    have ha' := hr a (by simp)
    have hn := hr n (by simp)
    simp only [getP, ha]
    generalize allA 3 x = m at *
    have e5 : IntKind.i64.wrap ((m : Int) + 4) = (m : Int) + 4 := wi64 _ (by omega) (by omega)
    by_cases h4 : (x.length : Int) < m + 4
    · have h4' : ¬ (m + 4 ≤ x.length) := by omega
      simp -implicitDefEqProofs [k132, resP, e5, h4, h4']
    · have h4' : m + 4 ≤ x.length := by omega
      by_cases c1 : 2147483647 < s
      · have hp : pOk s a n = false := by simp [pOk]; omega
        simp -implicitDefEqProofs [k132, resP, e5, h4, hp, c1]
      by_cases c2 : 2147483647 < a
      · have hp : pOk s a n = false := by simp [pOk]; omega
        simp -implicitDefEqProofs [k132, resP, e5, h4, hp, c1, c2]
      by_cases c3 : 4096 < n
      · have hp : pOk s a n = false := by simp [pOk]; omega
        simp -implicitDefEqProofs [k132, resP, e5, h4, hp, c1, c2, c3]
      obtain ⟨p, q, r, t, w, hd⟩ := four (l := x.drop m) (by rw [List.length_drop]; omega)
      have hbd : ∀ c ∈ x.drop m, 0 ≤ c ∧ c < 256 := fun c hc => hb c (List.mem_of_mem_drop hc)
      rw [hd] at hbd
      have hp0 := hbd p (by simp); have hq0 := hbd q (by simp); have hr0 := hbd r (by simp); have ht0 := hbd t (by simp)
      have get0 : ∀ (j : Nat) (y : Int), (x.drop m)[j]? = some y → x[m + j]? = some y := fun j y h => by rw [List.getElem?_drop] at h; exact h
      rw [hd] at get0
      have g0 := get0 0 p rfl; have g1 := get0 1 q rfl; have g2 := get0 2 r rfl; have g3 := get0 3 t rfl
      have hsum : sumv (x.drop m) = p + q * 256 + r * 65536 + t * 16777216 := by rw [hd]; rfl
      have es : IntKind.i64.wrap s = s := wi64 s (by omega) (by omega)
      have ea : IntKind.i64.wrap a = a := wi64 a (by omega) (by omega)
      have en : IntKind.i64.wrap n = n := wi64 n (by omega) (by omega)
      have k27 := h27 s a n (p + q * 256 + r * 65536 + t * 16777216)
      rw [hsum]
      simp -implicitDefEqProofs [k132, e5, h4, c1, c2, c3, es, ea, en]
      have stepk : ∀ (k v : Int) (y : Int), 0 ≤ k → k ≤ 3 → x[m + k.toNat]? = some y → 0 ≤ y → y < 256 → 0 ≤ v → v * 256 + y < 4294967296 →
          (0 ≤ k ∧ 0 ≤ IntKind.i64.wrap ((m : Int) + k) ∧ IntKind.i64.wrap ((m : Int) + k) < x.length ∧ IntKind.i64.wrap (k - 1) = k - 1 ∧
            IntKind.u32.wrap (IntKind.u32.wrap (v * 256) + IntKind.u32.wrap (x[(IntKind.i64.wrap ((m : Int) + k)).toNat]?.getD (dflt (Ty.int IntKind.u8)))) = v * 256 + y) := by
        intro k v y h0 h1 hy hy0 hy1 hv0 hv
        have ew : IntKind.i64.wrap ((m : Int) + k) = m + k := wi64 _ (by omega) (by omega)
        rw [ew, show ((m : Int) + k).toNat = m + k.toNat by omega, hy]
        refine ⟨h0, by omega, by omega, wi64 _ (by omega) (by omega), ?_⟩
        simp only [Option.getD_some]
        rw [wu32 (v * 256) (by omega) (by omega), wu32 y hy0 (by omega), wu32 _ (by omega) (by omega)]
      obtain ⟨_, a1, a2, a3, a4⟩ := stepk 3 0 t (by omega) (by omega) g3 ht0.1 ht0.2 (by omega) (by omega)
      obtain ⟨_, b1, b2, b3, b4⟩ := stepk 2 (0 * 256 + t) r (by omega) (by omega) g2 hr0.1 hr0.2 (by omega) (by omega)
      obtain ⟨_, d1, d2, d3, d4⟩ := stepk 1 ((0 * 256 + t) * 256 + r) q (by omega) (by omega) g1 hq0.1 hq0.2 (by omega) (by omega)
      obtain ⟨_, f1, f2, f3, f4⟩ := stepk 0 (((0 * 256 + t) * 256 + r) * 256 + q) p (by omega) (by omega) g0 hp0.1 hp0.2 (by omega) (by omega)
      rw [iter_again (s' := (2, 0 * 256 + t)) (by simp only [a4, a3]; rw [if_pos (by omega), if_pos ⟨a1, a2⟩]; rfl)]
      rw [iter_again (s' := (1, (0 * 256 + t) * 256 + r)) (by simp only [b4, b3]; rw [if_pos (by omega), if_pos ⟨b1, b2⟩]; rfl)]
      rw [iter_again (s' := (0, ((0 * 256 + t) * 256 + r) * 256 + q)) (by simp only [d4, d3]; rw [if_pos (by omega), if_pos ⟨d1, d2⟩]; rfl)]
      rw [iter_again (s' := (-1, (((0 * 256 + t) * 256 + r) * 256 + q) * 256 + p)) (by simp only [f4, f3]; rw [if_pos (by omega), if_pos ⟨f1, f2⟩]; rfl)]
      have ev : (((0 * 256 + t) * 256 + r) * 256 + q) * 256 + p = p + q * 256 + r * 65536 + t * 16777216 := by omega
      rw [ev]
      generalize p + q * 256 + r * 65536 + t * 16777216 = z at *
      apply iter_out
      by_cases hp : pOk s a n = true
      · rw [hp] at k27
        simp -implicitDefEqProofs [k27, hp, h4', resP, e5]
      · have hp : pOk s a n = false := by simpa using hp
        rw [hp] at k27
        simp -implicitDefEqProofs [k27, hp, resP]
theorem s91 {lc : List Ct} (hl0 : look (lc.map fun c => (c.sig.id, c)) 91 = some c91) : ∀ (x : List Int) (hb : ∀ c ∈ x, 0 ≤ c ∧ c < 256) (hl : x.length < 1000000000000), Does1 (Phi lc) 91 [⟨.sl (.int .u8), x⟩] (resP (getP x)) :=
  fun x hb hl => by
    have eFc : c91.F = F91 := rfl
    have eFh := f91 x hb hl
    rw [← eFc] at eFh
    exact Does1.of hl0 eFh (by unfold resP; split <;> rfl)

def Cl : Type := Bool × List Int × Int × Int × Int × Int × Nat
def getC : List Int → Option Cl
  | [] => none
  | c :: t => if 1 < c then none else if c = 1 then (match getP t with
      | some (s, a, n, m, k) => some (true, [], s, a, n, m, k + 1)
      | none => none)
    else if gvN t = 0 ∨ 32 < gvV t ∨ (t.length : Int) < gvN t + gvV t then none else some (false, (t.drop (gvN t)).take (gvV t).toNat, 0, 0, 0, 0, 1 + gvN t + (gvV t).toNat)
def resC (o : Option Cl) : List D := match o with
  | some (f, b, s, a, n, m, k) => [⟨.bool, f⟩, ⟨.sl (.int .u8), b⟩, ⟨.int .i64, s⟩, ⟨.int .i64, a⟩, ⟨.int .i64, n⟩, ⟨.int .u32, m⟩, ⟨.int .i64, k⟩]
  | none => [⟨.bool, false⟩, ⟨.sl (.int .u8), []⟩, ⟨.int .i64, 0⟩, ⟨.int .i64, 0⟩, ⟨.int .i64, 0⟩, ⟨.int .u32, 0⟩, ⟨.int .i64, 0⟩]
def resCe (o : Option Cl) : List D := match o with
  | some (f, b, s, a, n, m, k) => [⟨.bool, f⟩, ⟨.sl (.int .u8), b⟩, ⟨.int .i64, s⟩, ⟨.int .i64, a⟩, ⟨.int .i64, n⟩, ⟨.int .u32, m⟩, ⟨.int .i64, k⟩, ⟨.int .i64, 0⟩]
  | none => [⟨.bool, false⟩, ⟨.sl (.int .u8), []⟩, ⟨.int .i64, 0⟩, ⟨.int .i64, 0⟩, ⟨.int .i64, 0⟩, ⟨.int .u32, 0⟩, ⟨.int .i64, 0⟩, ⟨.int .i64, 2⟩]

theorem getP_k {x : List Int} {s a n m : Int} {k : Nat} (h : getP x = some (s, a, n, m, k)) : k ≤ x.length ∧ 4 ≤ k := by
  unfold getP at h
  split at h
  · split at h
    · rename_i hc
      simp only [Option.some.injEq, Prod.mk.injEq] at h
      omega
    · cases h
  · cases h

theorem f44 (x : List Int) (hb : ∀ c ∈ x, 0 ≤ c ∧ c < 256) (hl : x.length < 100000000000) : F44 [⟨.sl (.int .u8), x⟩] = some (resC (getC x)) := by
  have h91 := s91 (lc := [c91, c92]) rfl
  have h92 := s92 (lc := [c91, c92]) rfl
  simp only [F44, Fof, ir44]
  generalize Phi [c91, c92] = Φ at *
  cases x with
  | nil => simp -implicitDefEqProofs [getC, resC]
  | cons c t =>
    have hbt : ∀ c ∈ t, 0 ≤ c ∧ c < 256 := fun d hd => hb d (by simp [hd])
    have hlt : t.length < 100000000000 := by simp at hl; omega
    have L0 : ¬ ((t.length : Int) + 1 = 0) := by omega
    have L1 : (1 : Int) ≤ (t.length : Int) + 1 := by omega
    by_cases c1 : 1 < c
    · simp -implicitDefEqProofs [L0, L1, getC, resC, c1]
    by_cases c2 : c = 1
    · subst c2
      have k91 := h91 t hbt (by omega)
      cases hp : getP t with
      | none =>
        simp only [hp, resP] at k91
        simp -implicitDefEqProofs [L0, L1, getC, resC, k91, hp]
      | some y =>
        obtain ⟨s, a, n, m, k⟩ := y
        obtain ⟨q1, q2⟩ := getP_k hp
        simp only [hp, resP] at k91
        have ek : IntKind.i64.wrap ((k : Int) + 1) = (k : Int) + 1 := wi64 _ (by omega) (by omega)
        have hk : ¬ k = 0 := by omega
        simp -implicitDefEqProofs [L0, L1, getC, resC, k91, hp, ek, hk]
    · have k92 := h92 t hbt (by omega)
      have hr := gv_range hbt
      simp only [getC, if_neg c1, if_neg c2]
      generalize gvN t = g at *
      generalize gvV t = u at *
      by_cases hz : g = 0
      · simp -implicitDefEqProofs [L0, L1, resC, k92, c1, c2, hz]
      by_cases h32 : 32 < u
      · simp -implicitDefEqProofs [L0, L1, resC, k92, c1, c2, hz, h32]
      have w1 : IntKind.i64.wrap (1 + (g : Int)) = 1 + g := wi64 _ (by omega) (by omega)
      have w2 : IntKind.i64.wrap (u) = u := wi64 _ (by omega) (by omega)
      have w3 : IntKind.i64.wrap (1 + (g : Int) + u) = 1 + g + u := wi64 _ (by omega) (by omega)
      by_cases hlen : (t.length : Int) < g + u
      · have hlen' : (t.length : Int) + 1 < 1 + g + u := by omega
        simp -implicitDefEqProofs [L0, L1, resC, k92, c1, c2, hz, h32, w1, w2, w3, hlen, hlen']
      · have hlen' : ¬ (t.length : Int) + 1 < 1 + g + u := by omega
        have b1 : (0 : Int) ≤ 1 + g ∧ (1 + g : Int) ≤ 1 + g + u ∧ 1 + g + u ≤ (t.length : Int) + 1 := by omega
        simp -implicitDefEqProofs [L0, L1, resC, k92, c1, c2, hz, h32, w1, w2, w3, hlen, hlen', b1]
        refine ⟨by simp only [BIG]; omega, ?_, by omega⟩
        rw [show (1 + (g : Int)).toNat = g + 1 by omega, show (1 + (g : Int) + u).toNat = g + u.toNat + 1 by omega, List.take_succ_cons, List.drop_succ_cons, List.drop_take]
        congr 1
        omega
theorem s44 {lc : List Ct} (hl0 : look (lc.map fun c => (c.sig.id, c)) 44 = some c44) : ∀ (x : List Int) (hb : ∀ c ∈ x, 0 ≤ c ∧ c < 256) (hl : x.length < 100000000000), Does1 (Phi lc) 44 [⟨.sl (.int .u8), x⟩] (resC (getC x)) :=
  fun x hb hl => by
    have eFc : c44.F = F44 := rfl
    have eFh := f44 x hb hl
    rw [← eFc] at eFh
    exact Does1.of hl0 eFh (by unfold resC; split <;> rfl)
end Go.Proofs.YtolcekkcenedjaaGreat.Sx

namespace Go.Proofs.YtolcekkcenedjaaGreat.Sx

theorem f43 (x : List Int) (hb : ∀ c ∈ x, 0 ≤ c ∧ c < 256) (hl : x.length < 100000000000) : F43 [⟨.sl (.int .u8), x⟩] = some (resCe (getC x)) := by
  have h89 := s89 (lc := [c89, c90, c72]) rfl
  have h90 := s90 (lc := [c89, c90, c72]) rfl
  have h72 := s72 (lc := [c89, c90, c72]) rfl
  simp only [F43, Fof, ir43]
  generalize Phi [c89, c90, c72] = Φ at *
  cases x with
  | nil => simp -implicitDefEqProofs [getC, resCe]
  | cons c t =>
    have hbt : ∀ c ∈ t, 0 ≤ c ∧ c < 256 := fun d hd => hb d (by simp [hd])
    have hlt : t.length < 100000000000 := by simp at hl; omega
    have L0 : ¬ ((t.length : Int) + 1 = 0) := by omega
    have L1 : (1 : Int) ≤ (t.length : Int) + 1 := by omega
    by_cases c1 : 1 < c
    · simp -implicitDefEqProofs [L0, L1, getC, resCe, c1]
    by_cases c2 : c = 1
    · subst c2
      have k89 := h89 t hbt (by omega)
      cases hp : getP t with
      | none =>
        simp only [hp, resPe] at k89
        simp -implicitDefEqProofs [L0, L1, getC, resCe, k89, hp]
      | some y =>
        obtain ⟨s, a, n, m, k⟩ := y
        obtain ⟨q1, q2⟩ := getP_k hp
        simp only [hp, resPe] at k89
        have ek : IntKind.i64.wrap ((k : Int) + 1) = (k : Int) + 1 := wi64 _ (by omega) (by omega)
        simp -implicitDefEqProofs [L0, L1, getC, resCe, k89, hp, ek]
    · have k90 := h90 t hbt
      have hr := gv_range hbt
      simp only [getC, if_neg c1, if_neg c2]
      generalize gvN t = g at *
      generalize gvV t = u at *
      by_cases hz : g = 0
      · rw [if_pos hz] at k90
        simp -implicitDefEqProofs [L0, L1, resCe, k90, c1, c2, hz]
      rw [if_neg hz] at k90
      by_cases h32 : 32 < u
      · simp -implicitDefEqProofs [L0, L1, resCe, k90, c1, c2, hz, h32]
      have w0 : IntKind.i64.wrap (t.length : Int) = t.length := wi64 _ (by omega) (by omega)
      have w4 : IntKind.i64.wrap ((t.length : Int) - g) = t.length - g := wi64 _ (by omega) (by omega)
      have w1 : IntKind.i64.wrap (1 + (g : Int)) = 1 + g := wi64 _ (by omega) (by omega)
      have w2 : IntKind.i64.wrap u = u := wi64 _ (by omega) (by omega)
      have w3 : IntKind.i64.wrap (1 + (g : Int) + u) = 1 + g + u := wi64 _ (by omega) (by omega)
      by_cases hlen : (t.length : Int) < g + u
      · have hlen' : (t.length : Int) - g < u := by omega
        simp -implicitDefEqProofs [L0, L1, resCe, k90, c1, c2, hz, h32, w0, w1, w2, w3, w4, hlen, hlen']
      · have hlen' : ¬ (t.length : Int) - g < u := by omega
        have b1 : (0 : Int) ≤ 1 + g ∧ (1 + g : Int) ≤ 1 + g + u ∧ 1 + g + u ≤ (t.length : Int) + 1 := by omega
        have hlist : ((c :: t).take (1 + (g : Int) + u).toNat).drop (1 + (g : Int)).toNat = (t.drop g).take u.toNat := by
          rw [show (1 + (g : Int)).toNat = g + 1 by omega, show (1 + (g : Int) + u).toNat = g + u.toNat + 1 by omega, List.take_succ_cons, List.drop_succ_cons, List.drop_take]
          congr 1
          omega
        have k72 := h72 ((t.drop g).take u.toNat) (by rw [List.length_take]; omega)
        simp -implicitDefEqProofs [L0, L1, resCe, k90, c1, c2, hz, h32, w0, w1, w2, w3, w4, hlen, hlen', b1, hlist, k72]
        exact (by omega : u = max u 0)
theorem s43 {lc : List Ct} (hl0 : look (lc.map fun c => (c.sig.id, c)) 43 = some c43) : ∀ (x : List Int) (hb : ∀ c ∈ x, 0 ≤ c ∧ c < 256) (hl : x.length < 100000000000), Does1 (Phi lc) 43 [⟨.sl (.int .u8), x⟩] (resCe (getC x)) :=
  fun x hb hl => by
    have eFc : c43.F = F43 := rfl
    have eFh := f43 x hb hl
    rw [← eFc] at eFh
    exact Does1.of hl0 eFh (by unfold resCe; split <;> rfl)

theorem gv_one (v : Nat) (r : List Int) (h : v < 18446744073709551616) : gvV (one v ++ r) = v ∧ gvN (one v ++ r) = (one v).length := gv_some (getv_one v r h)

theorem all3 (s a n : Int) (r : List Int) (hs : 0 ≤ s ∧ s < 18446744073709551616) (ha : 0 ≤ a ∧ a < 18446744073709551616) (hn : 0 ≤ n ∧ n < 18446744073709551616) :
    allL 3 (putL [s, a, n] ++ r) = some [s, a, n] ∧ allA 3 (putL [s, a, n] ++ r) = (putL [s, a, n]).length := by
  have e : putL [s, a, n] ++ r = one s.toNat ++ (one a.toNat ++ (one n.toNat ++ r)) := by simp [putL]
  have p1 := one_pos s.toNat; have p2 := one_pos a.toNat; have p3 := one_pos n.toNat
  obtain ⟨v1, n1⟩ := gv_one s.toNat (one a.toNat ++ (one n.toNat ++ r)) (by omega)
  obtain ⟨v2, n2⟩ := gv_one a.toNat (one n.toNat ++ r) (by omega)
  obtain ⟨v3, n3⟩ := gv_one n.toNat r (by omega)
  rw [e]
  simp only [allL, allA, v1, n1, List.drop_left, v2, n2, v3, n3]
  rw [if_neg (by omega), if_neg (by omega), if_neg (by omega), if_neg (by omega), if_neg (by omega), if_neg (by omega)]
  refine ⟨?_, by simp [putL]⟩
  simp only
  congr 2
  · omega
  · congr 1
    · omega
    · congr 1; omega

theorem getC_putC (x0 : Bool) (x1 : List Int) (x2 x3 x4 x5 : Int) (more : List Int) (hc : cErr x0 x1 x2 x3 x4 x5 = 0) (h0 : 0 ≤ x5) (h1 : x5 < 4294967296) :
    getC (putC x0 x1 x2 x3 x4 x5 ++ more) = some (x0, x1, x2, x3, x4, x5, (putC x0 x1 x2 x3 x4 x5).length) := by
  cases x0
  · simp only [cErr, Bool.false_eq_true, if_false] at hc
    split at hc
    · cases hc
    · rename_i hh
      have hl : x1.length ≤ 32 := by omega
      obtain ⟨rfl, rfl, rfl, rfl⟩ : x2 = 0 ∧ x3 = 0 ∧ x4 = 0 ∧ x5 = 0 := by omega
      have p1 := one_pos x1.length
      obtain ⟨v1, n1⟩ := gv_one x1.length (x1 ++ more) (by omega)
      simp only [putC, Bool.false_eq_true, if_false, List.cons_append, List.append_assoc, getC, v1, n1]
      rw [if_neg (by omega), if_neg (by omega), if_neg (by simp only [List.length_append]; omega)]
      simp only [List.drop_left, Int.toNat_natCast, List.take_left, List.length_cons, List.length_append]
      congr 7
      omega
  · have hp : x1 = [] ∧ pOk x2 x3 x4 = true := by
      simp only [cErr, if_true] at hc
      split at hc
      · cases hc
      · split at hc
        · rename_i h _; exact ⟨List.length_eq_zero_iff.1 (by omega), by assumption⟩
        · cases hc
    obtain ⟨rfl, hp⟩ := hp
    have hp' : 1 ≤ x2 ∧ x2 ≤ 2147483647 ∧ 0 ≤ x3 ∧ x3 ≤ 2147483647 ∧ 0 ≤ x4 ∧ x4 ≤ 4096 := by simpa [pOk] using hp
    obtain ⟨a1, a2⟩ := all3 x2 x3 x4 (sum4 x5 ++ more) (by omega) (by omega) (by omega)
    have hg : getP (putL [x2, x3, x4] ++ (sum4 x5 ++ more)) = some (x2, x3, x4, x5, (putL [x2, x3, x4]).length + 4) := by
      simp only [getP, a1, a2, hp, and_true, List.drop_left]
      rw [if_pos (by simp [sum4])]
      have : sumv (sum4 x5 ++ more) = x5 := by simp only [sum4, List.cons_append, sumv]; omega
      rw [this]
    simp only [putC, if_true, List.cons_append, List.append_assoc, getC, hg]
    rw [if_neg (by omega)]
    simp [sum4]
    rfl

theorem putC_byte {x0 : Bool} {x1 : List Int} {x2 x3 x4 x5 : Int} (hb : ∀ c ∈ x1, 0 ≤ c ∧ c < 256) : ∀ c ∈ putC x0 x1 x2 x3 x4 x5, 0 ≤ c ∧ c < 256 := by
  intro c hc
  unfold putC at hc
  split at hc
  · rcases List.mem_cons.1 hc with rfl | hc
    · omega
    · rcases List.mem_append.1 hc with hc | hc
      · simp only [putL, List.map_cons, List.map_nil, List.flatten_cons, List.flatten_nil, List.append_nil, List.mem_append] at hc
        rcases hc with hc | hc | hc <;> (have := one_byte _ c hc; omega)
      · simp only [sum4, List.mem_cons, List.not_mem_nil, or_false] at hc
        rcases hc with rfl | rfl | rfl | rfl <;> omega
  · rcases List.mem_cons.1 hc with rfl | hc
    · omega
    · rcases List.mem_append.1 hc with hc | hc
      · have := one_byte _ c hc; omega
      · exact hb c hc

end Go.Proofs.YtolcekkcenedjaaGreat.Sx
