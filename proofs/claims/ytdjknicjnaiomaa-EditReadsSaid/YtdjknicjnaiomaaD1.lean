/-
  The texts of functions of chapters 02, 04 and 05, and what each answers, for every input within the bounds that each statement names.
-/
import Derived.Test.YtdjknicjnaiomaaK4
set_option linter.unusedVariables false
set_option linter.unusedSimpArgs false
/- The texts of the functions that the first laws reach. -/
namespace Go.Proofs.Ytdjknicjnaiomaa.Sx
def sig68 : Sig := { id := 68, ins := [(true, (Ty.int .i64).pair ((Ty.int .i64).pair ((Ty.int .i64).pair (Ty.int .u32))))], outs := [(false, [(Ty.int .i64, none)])] }
def ir68 : IR := .op (.icmp .lss) [.v 0, .l (.int .i64 1)] (.ite (.v 4) (.ret [.l (.int .i64 1)]) (.op (.icmp .gtr) [.v 0, .l (.int .i64 2147483647)] (.ite (.v 5) (.ret [.l (.int .i64 1)]) (.op (.icmp .lss) [.v 1, .l (.int .i64 0)] (.ite (.v 6) (.ret [.l (.int .i64 1)]) (.op (.icmp .gtr) [.v 1, .l (.int .i64 2147483647)] (.ite (.v 7) (.ret [.l (.int .i64 1)]) (.op (.icmp .lss) [.v 2, .l (.int .i64 0)] (.ite (.v 8) (.ret [.l (.int .i64 1)]) (.op (.icmp .gtr) [.v 2, .l (.int .i64 4096)] (.ite (.v 9) (.ret [.l (.int .i64 1)]) (.ret [.l (.int .i64 0)]))))))))))))
def sig20 : Sig := { id := 20, ins := [(true, Ty.bool.pair ((Ty.int .u8).sl.pair ((Ty.int .i64).pair ((Ty.int .i64).pair ((Ty.int .i64).pair (Ty.int .u32))))))], outs := [(false, [(Ty.int .i64, none)])] }
def ir20 : IR := .ite (.v 0) (.op .len [.v 1] (.op (.icmp .gtr) [.v 6, .l (.int .i64 0)] (.ite (.v 7) (.ret [.l (.int .i64 1)]) (.op (.call 68) [.v 2, .v 3, .v 4, .v 5] (.ret [.v 8]))))) (.op .len [.v 1] (.op (.icmp .gtr) [.v 6, .l (.int .i64 32)] (.ite (.v 7) (.ret [.l (.int .i64 1)]) (.op (.eqs true 4) [.v 2, .v 3, .v 4, .v 5, .l (.int .i64 0), .l (.int .i64 0), .l (.int .i64 0), .l (.int .u32 0)] (.ite (.v 8) (.ret [.l (.int .i64 1)]) (.ret [.l (.int .i64 0)]))))))
def sig66 : Sig := { id := 66, ins := [(false, (Ty.int .u64).sl)], outs := [(false, [((Ty.int .u8).sl, some 5)])] }
def ir66 : IR := .op .len [.v 0] (.loop [.l (.nil (Ty.int .u8)), .l (.int .i64 0)] [(Ty.int .u8).sl, Ty.int .i64] (.op (.icmp .lss) [.v 3, .v 1] (.ite (.v 4) (.op .inb [.v 0, .v 3] (.op (.idx (Ty.int .u64)) [.v 0, .v 3] (.loop [.v 2, .v 5] [(Ty.int .u8).sl, Ty.int .u64] (.op (.icmp .geq) [.v 7, .l (.int .u64 128)] (.ite (.v 8) (.op (.conv .u8) [.v 7] (.op (.ibin .or .u8) [.v 9, .l (.int .u8 128)] (.op (.mk (Ty.int .u8) 1) [.v 10] (.op .app [.v 6, .v 11] (.op (.ibin .shr .u64) [.v 7, .l (.int .u64 7)] (.jump 1 [.v 12, .v 13])))))) (.op (.conv .u8) [.v 7] (.op (.mk (Ty.int .u8) 1) [.v 9] (.op .app [.v 6, .v 10] (.op (.ibin .add .i64) [.v 3, .l (.int .i64 1)] (.jump 0 [.v 11, .v 12])))))))))) (.ret [.v 2]))))
def sig65 : Sig := { id := 65, ins := [(true, (Ty.int .i64).pair ((Ty.int .i64).pair ((Ty.int .i64).pair (Ty.int .u32))))], outs := [(false, [((Ty.int .u8).sl, some 5)]), (false, [(Ty.int .i64, none)])] }
def ir65 : IR := .op (.call 68) [.v 0, .v 1, .v 2, .v 3] (.op (.icmp .neq) [.v 4, .l (.int .i64 0)] (.ite (.v 5) (.ret [.l (.nil (Ty.int .u8)), .v 4]) (.op (.conv .u64) [.v 0] (.op (.conv .u64) [.v 1] (.op (.conv .u64) [.v 2] (.op (.mk (Ty.int .u64) 3) [.v 6, .v 7, .v 8] (.op (.call 66) [.v 9] (.op (.conv .u8) [.v 3] (.op (.ibin .shr .u32) [.v 3, .l (.int .u64 8)] (.op (.conv .u8) [.v 12] (.op (.ibin .shr .u32) [.v 3, .l (.int .u64 16)] (.op (.conv .u8) [.v 14] (.op (.ibin .shr .u32) [.v 3, .l (.int .u64 24)] (.op (.conv .u8) [.v 16] (.op (.mk (Ty.int .u8) 4) [.v 11, .v 13, .v 15, .v 17] (.op .app [.v 10, .v 18] (.ret [.v 19, .l (.int .i64 0)])))))))))))))))))
def sig16 : Sig := { id := 16, ins := [(true, Ty.bool.pair ((Ty.int .u8).sl.pair ((Ty.int .i64).pair ((Ty.int .i64).pair ((Ty.int .i64).pair (Ty.int .u32))))))], outs := [(false, [((Ty.int .u8).sl, some 5)]), (false, [(Ty.int .i64, none)])] }
def ir16 : IR := .op (.call 20) [.v 0, .v 1, .v 2, .v 3, .v 4, .v 5] (.op (.icmp .neq) [.v 6, .l (.int .i64 0)] (.ite (.v 7) (.ret [.l (.nil (Ty.int .u8)), .v 6]) (.ite (.v 0) (.op (.call 65) [.v 2, .v 3, .v 4, .v 5] (.op (.mk (Ty.int .u8) 1) [.l (.int .u8 1)] (.op .app [.v 10, .v 8] (.ret [.v 11, .v 9])))) (.op (.mk (Ty.int .u8) 1) [.l (.int .u8 0)] (.op .len [.v 1] (.op (.conv .u64) [.v 9] (.op (.mk (Ty.int .u64) 1) [.v 10] (.op (.call 66) [.v 11] (.op .app [.v 8, .v 12] (.op .app [.v 13, .v 1] (.ret [.v 14, .l (.int .i64 0)])))))))))))
def sig69 : Sig := { id := 69, ins := [(false, (Ty.int .u8).sl), (false, (Ty.int .u8).sl)], outs := [(false, [(Ty.bool, none)])] }
def ir69 : IR := .op .len [.v 0] (.op .len [.v 1] (.op (.icmp .neq) [.v 2, .v 3] (.ite (.v 4) (.ret [.l (.bool false)]) (.loop [.l (.int .i64 0)] [Ty.int .i64] (.op .len [.v 0] (.op (.icmp .lss) [.v 5, .v 6] (.ite (.v 7) (.op .inb [.v 0, .v 5] (.op (.idx (Ty.int .u8)) [.v 0, .v 5] (.op .inb [.v 1, .v 5] (.op (.idx (Ty.int .u8)) [.v 1, .v 5] (.op (.icmp .neq) [.v 8, .v 9] (.ite (.v 10) (.ret [.l (.bool false)]) (.op (.ibin .add .i64) [.v 5, .l (.int .i64 1)] (.jump 0 [.v 11])))))))) (.ret [.l (.bool true)]))))))))
def sig21 : Sig := { id := 21, ins := [(false, (Ty.int .u8).sl), (false, (Ty.int .u8).sl)], outs := [(false, [(Ty.bool, none)])] }
def ir21 : IR := .op (.call 69) [.v 0, .v 1] (.ret [.v 2])
def sig15 : Sig := { id := 15, ins := [], outs := [(false, [(Ty.bool, none)])] }
def ir15 : IR := .op (.mk (Ty.int .u8) 2) [.l (.int .u8 7), .l (.int .u8 8)] (.op (.call 16) [.l (.bool false), .v 0, .l (.int .i64 0), .l (.int .i64 0), .l (.int .i64 0), .l (.int .u32 0)] (.op (.icmp .eql) [.v 2, .l (.int .i64 0)] (.ite (.v 3) (.op (.mk (Ty.int .u8) 4) [.l (.int .u8 0), .l (.int .u8 2), .l (.int .u8 7), .l (.int .u8 8)] (.op (.call 21) [.v 1, .v 4] (.ret [.v 5]))) (.ret [.l (.bool false)]))))
def sig67 : Sig := { id := 67, ins := [(false, (Ty.int .u8).sl), (false, (Ty.int .u8).sl)], outs := [(false, [(Ty.bool, none)])] }
def ir67 : IR := .op .b2s [.v 0] (.op .b2s [.v 1] (.op (.scmp .eql) [.v 2, .v 3] (.ret [.v 4])))
def sig17 : Sig := { id := 17, ins := [(true, Ty.bool.pair ((Ty.int .u8).sl.pair ((Ty.int .i64).pair ((Ty.int .i64).pair ((Ty.int .i64).pair (Ty.int .u32)))))), (true, Ty.bool.pair ((Ty.int .u8).sl.pair ((Ty.int .i64).pair ((Ty.int .i64).pair ((Ty.int .i64).pair (Ty.int .u32))))))], outs := [(false, [(Ty.bool, none)])] }
def ir17 : IR := .op (.bcmp .eql) [.v 0, .v 6] (.ite (.v 12) (.op (.eqs false 4) [.v 2, .v 3, .v 4, .v 5, .v 8, .v 9, .v 10, .v 11] (.ite (.v 13) (.op (.call 67) [.v 1, .v 7] (.ret [.v 14])) (.ret [.l (.bool false)]))) (.ret [.l (.bool false)]))
def sig18 : Sig := { id := 18, ins := [(true, Ty.bool.pair ((Ty.int .u8).sl.pair ((Ty.int .i64).pair ((Ty.int .i64).pair ((Ty.int .i64).pair (Ty.int .u32)))))), (true, Ty.bool.pair ((Ty.int .u8).sl.pair ((Ty.int .i64).pair ((Ty.int .i64).pair ((Ty.int .i64).pair (Ty.int .u32))))))], outs := [(false, [(Ty.bool, none)])] }
def ir18 : IR := .op (.bcmp .eql) [.v 0, .v 6] (.ite (.v 12) (.op (.eqs false 4) [.v 2, .v 3, .v 4, .v 5, .v 8, .v 9, .v 10, .v 11] (.ite (.v 13) (.op (.call 21) [.v 1, .v 7] (.ret [.v 14])) (.ret [.l (.bool false)]))) (.ret [.l (.bool false)]))
def sig27 : Sig := { id := 27, ins := [(true, (Ty.int .i64).pair ((Ty.int .i64).pair ((Ty.int .i64).pair (Ty.int .u32))))], outs := [(false, [(Ty.bool, none)])] }
def ir27 : IR := .op (.icmp .geq) [.v 0, .l (.int .i64 1)] (.ite (.v 4) (.op (.icmp .leq) [.v 0, .l (.int .i64 2147483647)] (.ite (.v 5) (.op (.icmp .geq) [.v 1, .l (.int .i64 0)] (.ite (.v 6) (.op (.icmp .leq) [.v 1, .l (.int .i64 2147483647)] (.ite (.v 7) (.op (.icmp .geq) [.v 2, .l (.int .i64 0)] (.ite (.v 8) (.op (.icmp .leq) [.v 2, .l (.int .i64 4096)] (.ret [.v 9])) (.ret [.l (.bool false)]))) (.ret [.l (.bool false)]))) (.ret [.l (.bool false)]))) (.ret [.l (.bool false)]))) (.ret [.l (.bool false)]))
def sig19 : Sig := { id := 19, ins := [(true, Ty.bool.pair ((Ty.int .u8).sl.pair ((Ty.int .i64).pair ((Ty.int .i64).pair ((Ty.int .i64).pair (Ty.int .u32))))))], outs := [(false, [(Ty.bool, none)])] }
def ir19 : IR := .ite (.v 0) (.op .len [.v 1] (.op (.icmp .eql) [.v 6, .l (.int .i64 0)] (.ite (.v 7) (.op (.call 27) [.v 2, .v 3, .v 4, .v 5] (.ret [.v 8])) (.ret [.l (.bool false)])))) (.op .len [.v 1] (.op (.icmp .leq) [.v 6, .l (.int .i64 32)] (.ite (.v 7) (.op (.eqs false 4) [.v 2, .v 3, .v 4, .v 5, .l (.int .i64 0), .l (.int .i64 0), .l (.int .i64 0), .l (.int .u32 0)] (.ret [.v 8])) (.ret [.l (.bool false)]))))
def sig71 : Sig := { id := 71, ins := [(false, Ty.int .u64)], outs := [(false, [((Ty.int .u8).sl, some 5)])] }
def ir71 : IR := .op (.icmp .lss) [.v 0, .l (.int .u64 128)] (.ite (.v 1) (.op (.conv .u8) [.v 0] (.op (.mk (Ty.int .u8) 1) [.v 2] (.ret [.v 3]))) (.op (.ibin .rem .u64) [.v 0, .l (.int .u64 128)] (.op (.conv .u8) [.v 2] (.op (.ibin .add .u8) [.v 3, .l (.int .u8 128)] (.op (.mk (Ty.int .u8) 1) [.v 4] (.op (.ibin .quo .u64) [.v 0, .l (.int .u64 128)] (.op (.call 71) [.v 6] (.op .app [.v 5, .v 7] (.ret [.v 8])))))))))
def sig120 : Sig := { id := 120, ins := [(false, (Ty.int .u64).sl)], outs := [(false, [((Ty.int .u8).sl, some 5)])] }
def ir120 : IR := .op (.mk (Ty.int .u8) 0) [] (.loop [.v 1, .l (.int .i64 0)] [(Ty.int .u8).sl, Ty.int .i64] (.op .len [.v 0] (.op (.icmp .lss) [.v 3, .v 4] (.ite (.v 5) (.op .inb [.v 0, .v 3] (.op (.idx (Ty.int .u64)) [.v 0, .v 3] (.op (.call 71) [.v 6] (.op .app [.v 2, .v 7] (.op (.ibin .add .i64) [.v 3, .l (.int .i64 1)] (.jump 0 [.v 8, .v 9])))))) (.ret [.v 2])))))
def sig121 : Sig := { id := 121, ins := [(false, Ty.int .u32)], outs := [(false, [((Ty.int .u8).sl, some 5)])] }
def ir121 : IR := .op (.mk (Ty.int .u8) 0) [] (.loop [.v 0, .v 1, .l (.int .i64 0)] [Ty.int .u32, (Ty.int .u8).sl, Ty.int .i64] (.op (.icmp .lss) [.v 4, .l (.int .i64 4)] (.ite (.v 5) (.op (.ibin .rem .u32) [.v 2, .l (.int .u32 256)] (.op (.conv .u8) [.v 6] (.op (.mk (Ty.int .u8) 1) [.v 7] (.op .app [.v 3, .v 8] (.op (.ibin .quo .u32) [.v 2, .l (.int .u32 256)] (.op (.ibin .add .i64) [.v 4, .l (.int .i64 1)] (.jump 0 [.v 10, .v 9, .v 11]))))))) (.ret [.v 3]))))
def sig70 : Sig := { id := 70, ins := [(true, (Ty.int .i64).pair ((Ty.int .i64).pair ((Ty.int .i64).pair (Ty.int .u32))))], outs := [(false, [((Ty.int .u8).sl, some 5)])] }
def ir70 : IR := .op (.conv .u64) [.v 0] (.op (.conv .u64) [.v 1] (.op (.conv .u64) [.v 2] (.op (.mk (Ty.int .u64) 3) [.v 4, .v 5, .v 6] (.op (.call 120) [.v 7] (.op (.call 121) [.v 3] (.op .app [.v 8, .v 9] (.ret [.v 10])))))))
def sig22 : Sig := { id := 22, ins := [(true, Ty.bool.pair ((Ty.int .u8).sl.pair ((Ty.int .i64).pair ((Ty.int .i64).pair ((Ty.int .i64).pair (Ty.int .u32))))))], outs := [(false, [((Ty.int .u8).sl, some 5)])] }
def ir22 : IR := .ite (.v 0) (.op (.mk (Ty.int .u8) 1) [.l (.int .u8 1)] (.op (.call 70) [.v 2, .v 3, .v 4, .v 5] (.op .app [.v 6, .v 7] (.ret [.v 8])))) (.op (.mk (Ty.int .u8) 1) [.l (.int .u8 0)] (.op .len [.v 1] (.op (.conv .u64) [.v 7] (.op (.call 71) [.v 8] (.op .app [.v 6, .v 9] (.op .app [.v 10, .v 1] (.ret [.v 11])))))))
def sig3 : Sig := { id := 3, ins := [(true, Ty.bool.pair ((Ty.int .u8).sl.pair ((Ty.int .i64).pair ((Ty.int .i64).pair ((Ty.int .i64).pair (Ty.int .u32)))))), (true, Ty.bool.pair ((Ty.int .u8).sl.pair ((Ty.int .i64).pair ((Ty.int .i64).pair ((Ty.int .i64).pair (Ty.int .u32))))))], outs := [(false, [(Ty.bool, none)])] }
def ir3 : IR := .op .len [.v 1] (.op (.icmp .gtr) [.v 12, .l (.int .i64 200)] (.ite (.v 13) (.op (.call 15) [] (.ret [.v 14])) (.op .len [.v 7] (.op (.icmp .gtr) [.v 14, .l (.int .i64 200)] (.ite (.v 15) (.op (.call 15) [] (.ret [.v 16])) (.op (.call 16) [.v 0, .v 1, .v 2, .v 3, .v 4, .v 5] (.op (.call 17) [.v 0, .v 1, .v 2, .v 3, .v 4, .v 5, .v 6, .v 7, .v 8, .v 9, .v 10, .v 11] (.op (.call 18) [.v 0, .v 1, .v 2, .v 3, .v 4, .v 5, .v 6, .v 7, .v 8, .v 9, .v 10, .v 11] (.op (.bcmp .neq) [.v 18, .v 19] (.ite (.v 20) (.ret [.l (.bool false)]) (.op (.call 17) [.v 0, .v 1, .v 2, .v 3, .v 4, .v 5, .v 0, .v 1, .v 2, .v 3, .v 4, .v 5] (.op .not [.v 21] (.ite (.v 22) (.ret [.l (.bool false)]) (.op (.call 19) [.v 0, .v 1, .v 2, .v 3, .v 4, .v 5] (.op .not [.v 23] (.ite (.v 24) (.op (.call 20) [.v 0, .v 1, .v 2, .v 3, .v 4, .v 5] (.op (.icmp .eql) [.v 25, .l (.int .i64 1)] (.ite (.v 26) (.op (.icmp .eql) [.v 17, .l (.int .i64 1)] (.ite (.v 27) (.op .len [.v 16] (.op (.icmp .eql) [.v 28, .l (.int .i64 0)] (.ite (.v 29) (.op (.call 15) [] (.ret [.v 30])) (.ret [.l (.bool false)])))) (.ret [.l (.bool false)]))) (.ret [.l (.bool false)])))) (.op (.call 20) [.v 0, .v 1, .v 2, .v 3, .v 4, .v 5] (.op (.icmp .eql) [.v 25, .l (.int .i64 0)] (.ite (.v 26) (.op (.icmp .eql) [.v 17, .l (.int .i64 0)] (.ite (.v 27) (.op (.call 22) [.v 0, .v 1, .v 2, .v 3, .v 4, .v 5] (.op (.call 21) [.v 16, .v 28] (.ite (.v 29) (.op (.call 15) [] (.ret [.v 30])) (.ret [.l (.bool false)])))) (.ret [.l (.bool false)]))) (.ret [.l (.bool false)]))))))))))))))))))))
def F71 : List D → Option (List D)
  | [⟨.int .u64, u⟩] => if 0 ≤ u ∧ u < 18446744073709551616 then some [⟨.sl (.int .u8), one u.toNat⟩] else none
  | _ => none
def c71 : Ct := ⟨sig71, F71⟩
noncomputable def F68 : List D → Option (List D) := Fof [] ir68
noncomputable def c68 : Ct := ⟨sig68, F68⟩
noncomputable def F20 : List D → Option (List D) := Fof [c68] ir20
noncomputable def c20 : Ct := ⟨sig20, F20⟩
noncomputable def F66 : List D → Option (List D) := Fof [] ir66
noncomputable def c66 : Ct := ⟨sig66, F66⟩
noncomputable def F65 : List D → Option (List D) := Fof [c68, c66] ir65
noncomputable def c65 : Ct := ⟨sig65, F65⟩
noncomputable def F16 : List D → Option (List D) := Fof [c20, c65, c66] ir16
noncomputable def c16 : Ct := ⟨sig16, F16⟩
noncomputable def F69 : List D → Option (List D) := Fof [] ir69
noncomputable def c69 : Ct := ⟨sig69, F69⟩
noncomputable def F21 : List D → Option (List D) := Fof [c69] ir21
noncomputable def c21 : Ct := ⟨sig21, F21⟩
noncomputable def F15 : List D → Option (List D) := Fof [c16, c21] ir15
noncomputable def c15 : Ct := ⟨sig15, F15⟩
noncomputable def F67 : List D → Option (List D) := Fof [] ir67
noncomputable def c67 : Ct := ⟨sig67, F67⟩
noncomputable def F17 : List D → Option (List D) := Fof [c67] ir17
noncomputable def c17 : Ct := ⟨sig17, F17⟩
noncomputable def F18 : List D → Option (List D) := Fof [c21] ir18
noncomputable def c18 : Ct := ⟨sig18, F18⟩
noncomputable def F27 : List D → Option (List D) := Fof [] ir27
noncomputable def c27 : Ct := ⟨sig27, F27⟩
noncomputable def F19 : List D → Option (List D) := Fof [c27] ir19
noncomputable def c19 : Ct := ⟨sig19, F19⟩
noncomputable def F120 : List D → Option (List D) := Fof [c71] ir120
noncomputable def c120 : Ct := ⟨sig120, F120⟩
noncomputable def F121 : List D → Option (List D) := Fof [] ir121
noncomputable def c121 : Ct := ⟨sig121, F121⟩
noncomputable def F70 : List D → Option (List D) := Fof [c120, c121] ir70
noncomputable def c70 : Ct := ⟨sig70, F70⟩
noncomputable def F22 : List D → Option (List D) := Fof [c70, c71] ir22
noncomputable def c22 : Ct := ⟨sig22, F22⟩
noncomputable def F3 : List D → Option (List D) := Fof [c15, c16, c17, c18, c19, c20, c22, c21] ir3
noncomputable def c3 : Ct := ⟨sig3, F3⟩
end Go.Proofs.Ytdjknicjnaiomaa.Sx

/- What the functions of the first laws answer. -/
namespace Go.Proofs.Ytdjknicjnaiomaa.Sx

theorem f68 (x0 x1 x2 x3 : Int) : F68 [⟨.int .i64, x0⟩, ⟨.int .i64, x1⟩, ⟨.int .i64, x2⟩, ⟨.int .u32, x3⟩] = some [⟨.int .i64, if pOk x0 x1 x2 = true then 0 else 1⟩] := by
  simp only [F68, Fof, ir68]
  simp [↓den_start, ↓deb_op, ↓deb_ret, ↓deb_jump, ↓deb_itev, ↓deb_itel, ↓deb_loop, ↓deb_fail, ↓deb_nilcv, nilE_some, opE_some, debP_nil, debP_cons, pushL_nil, pushL_cons, retE_some, iteE_some, evB_nil, evB_v, evB_l, lkE_cons, consE_some, d_int, d_bool, d_str, d_nil, o_add, o_sub, o_mul, o_and, o_or, o_xor, o_andNot, o_quo, o_rem, o_shl, o_shr, o_eql, o_neq, o_lss, o_leq, o_gtr, o_geq, o_seql, o_sneq, o_slss, o_sleq, o_sgtr, o_sgeq, o_beql, o_bneq, o_scat, o_not, o_neg, o_com, o_conv, o_s2b, o_b2s, o_len, o_slen, o_inb, o_idx, o_sidx, o_sub3, o_sub2, o_ssub3, o_ssub2, o_app, o_apps, o_mk, mkE_some, consD_some, mkD_zero, mkD_int, mkD_str, mkD_sl, o_imin, o_imax, o_smin, o_smax, o_eqs, eqsE_some, eqC_nil, andE_some, eqC_int, eqC_bool, eqC_str, j1, outE_some, outE_none, outE_ite, agE_1, loopE_1, agE_2, loopE_2, agE_3, loopE_3, agE_4, loopE_4, agE_5, loopE_5, agE_6, loopE_6, agE_7, loopE_7, agE_8, loopE_8, agE_9, loopE_9, List.cons_append, List.nil_append, List.append_nil, split, List.take_succ_cons, List.take_zero, List.drop_succ_cons, List.drop_zero, pOk]
  by_cases h : 1 ≤ x0 ∧ x0 ≤ 2147483647 ∧ 0 ≤ x1 ∧ x1 ≤ 2147483647 ∧ 0 ≤ x2 ∧ x2 ≤ 4096
  · rw [if_pos h]
    repeat rw [if_neg (by omega)]
  · rw [if_neg h]
    repeat' split
    all_goals first | rfl | omega

theorem s68 {lc : List Ct} (h : look (lc.map fun c => (c.sig.id, c)) 68 = some c68) : ∀ x0 x1 x2 x3 : Int, Does1 (Phi lc) 68 [⟨.int .i64, x0⟩, ⟨.int .i64, x1⟩, ⟨.int .i64, x2⟩, ⟨.int .u32, x3⟩] [⟨.int .i64, if pOk x0 x1 x2 = true then 0 else 1⟩] :=
  fun x0 x1 x2 x3 => Does1.of h (f68 x0 x1 x2 x3) rfl

/-- why a cell may not be -/
def cErr (far : Bool) (b : List Int) (s a n m : Int) : Int :=
  if far = true then (if 0 < b.length then 1 else if pOk s a n = true then 0 else 1) else if 32 < b.length ∨ s ≠ 0 ∨ a ≠ 0 ∨ n ≠ 0 ∨ m ≠ 0 then 1 else 0

theorem f20 (x0 : Bool) (x1 : List Int) (x2 x3 x4 x5 : Int) : F20 [⟨.bool, x0⟩, ⟨.sl (.int .u8), x1⟩, ⟨.int .i64, x2⟩, ⟨.int .i64, x3⟩, ⟨.int .i64, x4⟩, ⟨.int .u32, x5⟩] = some [⟨.int .i64, cErr x0 x1 x2 x3 x4 x5⟩] := by
  have h68 := s68 (lc := [c68]) rfl
  simp only [F20, Fof, ir20]
  simp [↓den_start, ↓deb_op, ↓deb_ret, ↓deb_jump, ↓deb_itev, ↓deb_itel, ↓deb_loop, ↓deb_fail, ↓deb_nilcv, nilE_some, opE_some, debP_nil, debP_cons, pushL_nil, pushL_cons, retE_some, iteE_some, evB_nil, evB_v, evB_l, lkE_cons, consE_some, d_int, d_bool, d_str, d_nil, o_add, o_sub, o_mul, o_and, o_or, o_xor, o_andNot, o_quo, o_rem, o_shl, o_shr, o_eql, o_neq, o_lss, o_leq, o_gtr, o_geq, o_seql, o_sneq, o_slss, o_sleq, o_sgtr, o_sgeq, o_beql, o_bneq, o_scat, o_not, o_neg, o_com, o_conv, o_s2b, o_b2s, o_len, o_slen, o_inb, o_idx, o_sidx, o_sub3, o_sub2, o_ssub3, o_ssub2, o_app, o_apps, o_mk, mkE_some, consD_some, mkD_zero, mkD_int, mkD_str, mkD_sl, o_imin, o_imax, o_smin, o_smax, o_eqs, eqsE_some, eqC_nil, andE_some, eqC_int, eqC_bool, eqC_str, j1, outE_some, outE_none, outE_ite, agE_1, loopE_1, agE_2, loopE_2, agE_3, loopE_3, agE_4, loopE_4, agE_5, loopE_5, agE_6, loopE_6, agE_7, loopE_7, agE_8, loopE_8, agE_9, loopE_9, List.cons_append, List.nil_append, List.append_nil, split, List.take_succ_cons, List.take_zero, List.drop_succ_cons, List.drop_zero, h68, cErr]
  cases x0
  · simp only [Bool.false_eq_true, if_false]
    by_cases h : 32 < x1.length
    · rw [if_pos (by omega), if_pos (by omega)]
    · rw [if_neg (by omega)]; split <;> rename_i h2
      · rw [if_pos (by omega)]
      · rw [if_neg (by omega)]
  · simp only [if_true]; split <;> rfl

theorem f66 (l : List Int) (h : ∀ u ∈ l, 0 ≤ u ∧ u < 18446744073709551616) (hl : l.length ≤ 1000000) : F66 [⟨.sl (.int .u64), l⟩] = some [⟨.sl (.int .u8), putL l⟩] := by
  simp only [F66, Fof, ir66]
  simp [↓den_start, ↓deb_op, ↓deb_ret, ↓deb_jump, ↓deb_itev, ↓deb_itel, ↓deb_loop, ↓deb_fail, ↓deb_nilcv, nilE_some, opE_some, debP_nil, debP_cons, pushL_nil, pushL_cons, retE_some, iteE_some, evB_nil, evB_v, evB_l, lkE_cons, consE_some, d_int, d_bool, d_str, d_nil, o_add, o_sub, o_mul, o_and, o_or, o_xor, o_andNot, o_quo, o_rem, o_shl, o_shr, o_eql, o_neq, o_lss, o_leq, o_gtr, o_geq, o_seql, o_sneq, o_slss, o_sleq, o_sgtr, o_sgeq, o_beql, o_bneq, o_scat, o_not, o_neg, o_com, o_conv, o_s2b, o_b2s, o_len, o_slen, o_inb, o_idx, o_sidx, o_sub3, o_sub2, o_ssub3, o_ssub2, o_app, o_apps, o_mk, mkE_some, consD_some, mkD_zero, mkD_int, mkD_str, mkD_sl, o_imin, o_imax, o_smin, o_smax, o_eqs, eqsE_some, eqC_nil, andE_some, eqC_int, eqC_bool, eqC_str, j1, outE_some, outE_none, outE_ite, agE_1, loopE_1, agE_2, loopE_2, agE_3, loopE_3, agE_4, loopE_4, agE_5, loopE_5, agE_6, loopE_6, agE_7, loopE_7, agE_8, loopE_8, agE_9, loopE_9, List.cons_append, List.nil_append, List.append_nil, split, List.take_succ_cons, List.take_zero, List.drop_succ_cons, List.drop_zero]
  refine (iter_meas (fun s : List Int × Int => (l.length - s.2).toNat) (fun s => [⟨.sl (.int .u8), s.1 ++ putL (l.drop s.2.toNat)⟩])
    (fun s => 0 ≤ s.2 ∧ s.2 ≤ l.length ∧ s.1.length ≤ 10 * s.2.toNat) ⟨by simp, by simp, by simp⟩ ?_).trans (by simp)
  rintro ⟨b, i⟩ ⟨h1, h2, h3⟩
  simp only at h1 h2 h3 ⊢
  by_cases hi : i < l.length
  · refine .inl ⟨(b ++ one (l[i.toNat]'(by omega)).toNat, i + 1), ?_, ⟨by simp; omega, by simp; omega, ?_⟩, by simp; omega, ?_⟩
    · rw [if_pos hi, if_pos ⟨h1, hi⟩, getI h1 hi]
      have hu := h (l[i.toNat]'(by omega)) (List.getElem_mem _)
      generalize l[i.toNat]'(by omega) = u at hu
      refine (iter_meas (fun t : List Int × Int => t.2.toNat) (fun t => LS.again (t.1 ++ one t.2.toNat, i + 1)) (fun t => 0 ≤ t.2 ∧ t.2 < 18446744073709551616 ∧ t.1.length + (one t.2.toNat).length ≤ 10 * l.length + 10) ⟨hu.1, hu.2, ?_⟩ ?_)
      · have := one_len10 u.toNat (by omega); simp only; omega
      · rintro ⟨c, v⟩ ⟨k1, k2, k3⟩
        simp only at k1 k2 k3 ⊢
        have hb : c.length + 1 ≤ BIG := by have := one_pos v.toNat; simp only [BIG]; omega
        by_cases hv : 128 ≤ v
        · refine .inl ⟨(c ++ [v % 128 + 128], v / 128), ?_, ⟨by simp; omega, by simp; omega, ?_⟩, by simp; omega, ?_⟩
          · rw [if_pos hv, if_pos hb, wu8, or128 v k1, fdiv7]
          · rw [one_big (by omega)] at k3
            simp only [List.length_cons, List.length_append, List.length_nil] at k3 ⊢
            rw [show (v / 128).toNat = v.toNat / 128 by omega]
            omega
          · have e : one v.toNat = (v % 128 + 128) :: one (v / 128).toNat := by
              rw [one_big (by omega), show (v / 128).toNat = v.toNat / 128 by omega]
              congr 1; omega
            simp only [e, List.append_assoc, List.cons_append, List.nil_append]
        · refine .inr ?_
          rw [if_neg hv, if_pos hb, wu8, wi64 (i + 1) (by omega) (by omega), one_small (by omega)]
          rw [show v % 256 = v by omega, show ((v.toNat : Nat) : Int) = v by omega]
    · have := one_len10 (l[i.toNat]'(by omega)).toNat (by have := h (l[i.toNat]'(by omega)) (List.getElem_mem _); omega)
      simp only [List.length_append]; omega
    · rw [dropI h1 hi, putL_cons, List.append_assoc]
  · refine .inr ?_
    rw [if_neg hi, List.drop_eq_nil_of_le (by omega), putL_nil, List.append_nil]
end Go.Proofs.Ytdjknicjnaiomaa.Sx

/- What the functions of the first laws answer: cells. -/
namespace Go.Proofs.Ytdjknicjnaiomaa.Sx
theorem s20 {lc : List Ct} (hl0 : look (lc.map fun c => (c.sig.id, c)) 20 = some c20) : ∀ (x0 : Bool) (x1 : List Int) (x2 x3 x4 x5 : Int), Does1 (Phi lc) 20 [⟨.bool, x0⟩, ⟨.sl (.int .u8), x1⟩, ⟨.int .i64, x2⟩, ⟨.int .i64, x3⟩, ⟨.int .i64, x4⟩, ⟨.int .u32, x5⟩] [⟨.int .i64, cErr x0 x1 x2 x3 x4 x5⟩] :=
  fun x0 x1 x2 x3 x4 x5 => Does1.of hl0 (f20 x0 x1 x2 x3 x4 x5) rfl
theorem s66 {lc : List Ct} (hl0 : look (lc.map fun c => (c.sig.id, c)) 66 = some c66) : ∀ (x : List Int) (h : ∀ u ∈ x, 0 ≤ u ∧ u < 18446744073709551616) (hl : x.length ≤ 1000000), Does1 (Phi lc) 66 [⟨.sl (.int .u64), x⟩] [⟨.sl (.int .u8), putL x⟩] :=
  fun x h hl => Does1.of hl0 (f66 x h hl) rfl
theorem s71 {lc : List Ct} (hl0 : look (lc.map fun c => (c.sig.id, c)) 71 = some c71) : ∀ (u : Int) (h : 0 ≤ u ∧ u < 18446744073709551616), Does1 (Phi lc) 71 [⟨.int .u64, u⟩] [⟨.sl (.int .u8), one u.toNat⟩] :=
  fun u h => Does1.of hl0 (by simp only [c71, F71, if_pos h]) rfl

/-- a cell's bytes -/
def putC (far : Bool) (b : List Int) (s a n m : Int) : List Int :=
  if far = true then 1 :: (putL [s, a, n] ++ sum4 m) else 0 :: (one b.length ++ b)

theorem cErr_01 (far : Bool) (b : List Int) (s a n m : Int) : cErr far b s a n m = 0 ∨ cErr far b s a n m = 1 := by
  unfold cErr
  repeat' split
  all_goals simp

theorem putC_len {far : Bool} {b : List Int} {s a n m : Int} (h : cErr far b s a n m = 0) : (putC far b s a n m).length < 1000000000 := by
  cases far
  · simp only [cErr, Bool.false_eq_true, if_false] at h
    split at h
    · cases h
    · have := one_len10 b.length (by omega)
      simp [putC]; omega
  · simp only [cErr, if_true] at h
    split at h
    · cases h
    · split at h
      · rename_i hp
        have hp' : 1 ≤ s ∧ s ≤ 2147483647 ∧ 0 ≤ a ∧ a ≤ 2147483647 ∧ 0 ≤ n ∧ n ≤ 4096 := by simpa [pOk] using hp
        have := putL_len [s, a, n] (by intro u hu; simp only [List.mem_cons, List.not_mem_nil, or_false] at hu; omega)
        simp at this
        simp [putC, sum4]; omega
      · cases h

theorem f65 (x0 x1 x2 x3 : Int) (h0 : 0 ≤ x3) (h1 : x3 < 4294967296) : F65 [⟨.int .i64, x0⟩, ⟨.int .i64, x1⟩, ⟨.int .i64, x2⟩, ⟨.int .u32, x3⟩] = some [⟨.sl (.int .u8), if pOk x0 x1 x2 = true then putL [x0, x1, x2] ++ sum4 x3 else []⟩, ⟨.int .i64, if pOk x0 x1 x2 = true then 0 else 1⟩] := by
  have h68 := s68 (lc := [c68, c66]) rfl
  have h66 := s66 (lc := [c68, c66]) rfl
  simp only [F65, Fof, ir65]
  generalize Phi [c68, c66] = Φ at *
  simp [↓den_start, ↓deb_op, ↓deb_ret, ↓deb_jump, ↓deb_itev, ↓deb_itel, ↓deb_loop, ↓deb_fail, ↓deb_nilcv, nilE_some, opE_some, debP_nil, debP_cons, pushL_nil, pushL_cons, retE_some, iteE_some, evB_nil, evB_v, evB_l, lkE_cons, consE_some, d_int, d_bool, d_str, d_nil, o_add, o_sub, o_mul, o_and, o_or, o_xor, o_andNot, o_quo, o_rem, o_shl, o_shr, o_eql, o_neq, o_lss, o_leq, o_gtr, o_geq, o_seql, o_sneq, o_slss, o_sleq, o_sgtr, o_sgeq, o_beql, o_bneq, o_scat, o_not, o_neg, o_com, o_conv, o_s2b, o_b2s, o_len, o_slen, o_inb, o_idx, o_sidx, o_sub3, o_sub2, o_ssub3, o_ssub2, o_app, o_apps, o_mk, mkE_some, consD_some, mkD_zero, mkD_int, mkD_str, mkD_sl, o_imin, o_imax, o_smin, o_smax, o_eqs, eqsE_some, eqC_nil, andE_some, eqC_int, eqC_bool, eqC_str, j1, outE_some, outE_none, outE_ite, agE_1, loopE_1, agE_2, loopE_2, agE_3, loopE_3, agE_4, loopE_4, agE_5, loopE_5, agE_6, loopE_6, agE_7, loopE_7, agE_8, loopE_8, agE_9, loopE_9, List.cons_append, List.nil_append, List.append_nil, split, List.take_succ_cons, List.take_zero, List.drop_succ_cons, List.drop_zero, h68, h66]
  by_cases hp : pOk x0 x1 x2 = true
  · simp only [hp]
    have hp' : 1 ≤ x0 ∧ x0 ≤ 2147483647 ∧ 0 ≤ x1 ∧ x1 ≤ 2147483647 ∧ 0 ≤ x2 ∧ x2 ≤ 4096 := by simpa [pOk] using hp
    have hl : ∀ u ∈ [x0, x1, x2], 0 ≤ u ∧ u < 18446744073709551616 := by
      intro u hu; simp only [List.mem_cons, List.not_mem_nil, or_false] at hu; omega
    have hlen := putL_len _ hl
    rw [wu64 x0 (by omega) (by omega), wu64 x1 (by omega) (by omega), wu64 x2 (by omega) (by omega)]
    have h := h66 [x0, x1, x2] hl (by simp)
    simp [↓den_start, ↓deb_op, ↓deb_ret, ↓deb_jump, ↓deb_itev, ↓deb_itel, ↓deb_loop, ↓deb_fail, ↓deb_nilcv, nilE_some, opE_some, debP_nil, debP_cons, pushL_nil, pushL_cons, retE_some, iteE_some, evB_nil, evB_v, evB_l, lkE_cons, consE_some, d_int, d_bool, d_str, d_nil, o_add, o_sub, o_mul, o_and, o_or, o_xor, o_andNot, o_quo, o_rem, o_shl, o_shr, o_eql, o_neq, o_lss, o_leq, o_gtr, o_geq, o_seql, o_sneq, o_slss, o_sleq, o_sgtr, o_sgeq, o_beql, o_bneq, o_scat, o_not, o_neg, o_com, o_conv, o_s2b, o_b2s, o_len, o_slen, o_inb, o_idx, o_sidx, o_sub3, o_sub2, o_ssub3, o_ssub2, o_app, o_apps, o_mk, mkE_some, consD_some, mkD_zero, mkD_int, mkD_str, mkD_sl, o_imin, o_imax, o_smin, o_smax, o_eqs, eqsE_some, eqC_nil, andE_some, eqC_int, eqC_bool, eqC_str, j1, outE_some, outE_none, outE_ite, agE_1, loopE_1, agE_2, loopE_2, agE_3, loopE_3, agE_4, loopE_4, agE_5, loopE_5, agE_6, loopE_6, agE_7, loopE_7, agE_8, loopE_8, agE_9, loopE_9, List.cons_append, List.nil_append, List.append_nil, split, List.take_succ_cons, List.take_zero, List.drop_succ_cons, List.drop_zero, h, wu8, fdiv8, fdiv16, fdiv24, sum4, BIG]
    simp at hlen
    omega
  · simp [hp]
theorem s65 {lc : List Ct} (hl0 : look (lc.map fun c => (c.sig.id, c)) 65 = some c65) : ∀ (x0 x1 x2 x3 : Int) (h0 : 0 ≤ x3) (h1 : x3 < 4294967296), Does1 (Phi lc) 65 [⟨.int .i64, x0⟩, ⟨.int .i64, x1⟩, ⟨.int .i64, x2⟩, ⟨.int .u32, x3⟩] [⟨.sl (.int .u8), if pOk x0 x1 x2 = true then putL [x0, x1, x2] ++ sum4 x3 else []⟩, ⟨.int .i64, if pOk x0 x1 x2 = true then 0 else 1⟩] :=
  fun x0 x1 x2 x3 h0 h1 => Does1.of hl0 (f65 x0 x1 x2 x3 h0 h1) rfl
theorem f69 (x y : List Int) (hx : x.length < 1000000000) : F69 [⟨.sl (.int .u8), x⟩, ⟨.sl (.int .u8), y⟩] = some [⟨.bool, decide (x = y)⟩] := by
  simp only [F69, Fof, ir69]
  simp [↓den_start, ↓deb_op, ↓deb_ret, ↓deb_jump, ↓deb_itev, ↓deb_itel, ↓deb_loop, ↓deb_fail, ↓deb_nilcv, nilE_some, opE_some, debP_nil, debP_cons, pushL_nil, pushL_cons, retE_some, iteE_some, evB_nil, evB_v, evB_l, lkE_cons, consE_some, d_int, d_bool, d_str, d_nil, o_add, o_sub, o_mul, o_and, o_or, o_xor, o_andNot, o_quo, o_rem, o_shl, o_shr, o_eql, o_neq, o_lss, o_leq, o_gtr, o_geq, o_seql, o_sneq, o_slss, o_sleq, o_sgtr, o_sgeq, o_beql, o_bneq, o_scat, o_not, o_neg, o_com, o_conv, o_s2b, o_b2s, o_len, o_slen, o_inb, o_idx, o_sidx, o_sub3, o_sub2, o_ssub3, o_ssub2, o_app, o_apps, o_mk, mkE_some, consD_some, mkD_zero, mkD_int, mkD_str, mkD_sl, o_imin, o_imax, o_smin, o_smax, o_eqs, eqsE_some, eqC_nil, andE_some, eqC_int, eqC_bool, eqC_str, j1, outE_some, outE_none, outE_ite, agE_1, loopE_1, agE_2, loopE_2, agE_3, loopE_3, agE_4, loopE_4, agE_5, loopE_5, agE_6, loopE_6, agE_7, loopE_7, agE_8, loopE_8, agE_9, loopE_9, List.cons_append, List.nil_append, List.append_nil, split, List.take_succ_cons, List.take_zero, List.drop_succ_cons, List.drop_zero]
  by_cases hl : x.length = y.length
  · rw [if_pos (by omega)]
    refine (iter_meas (fun s : Int => (x.length - s).toNat) (fun s => [⟨.bool, decide (x.drop s.toNat = y.drop s.toNat)⟩]) (fun s => 0 ≤ s ∧ s ≤ x.length) ⟨by omega, by omega⟩ ?_).trans (by simp)
    rintro i ⟨h1, h2⟩
    by_cases hi : i < x.length
    · rw [if_pos hi, if_pos ⟨h1, hi⟩, if_pos ⟨h1, by omega⟩, getI h1 hi, getI h1 (by omega), dropI h1 hi, dropI (l := y) h1 (by omega)]
      by_cases he : x[i.toNat]'(by omega) = y[i.toNat]'(by omega)
      · rw [if_pos he]
        exact .inl ⟨i + 1, by rw [wi64 (i + 1) (by omega) (by omega)], ⟨by omega, by omega⟩, by omega, by simp [he]⟩
      · rw [if_neg he]
        exact .inr (by simp [he])
    · rw [if_neg hi, List.drop_eq_nil_of_le (by omega), List.drop_eq_nil_of_le (by omega)]
      exact .inr (by simp)
  · rw [if_neg (by omega)]
    have : x ≠ y := fun e => hl (by rw [e])
    simp [this]
theorem s69 {lc : List Ct} (hl0 : look (lc.map fun c => (c.sig.id, c)) 69 = some c69) : ∀ (x y : List Int) (hx : x.length < 1000000000), Does1 (Phi lc) 69 [⟨.sl (.int .u8), x⟩, ⟨.sl (.int .u8), y⟩] [⟨.bool, decide (x = y)⟩] :=
  fun x y hx => Does1.of hl0 (f69 x y hx) rfl
theorem f21 (x y : List Int) (hx : x.length < 1000000000) : F21 [⟨.sl (.int .u8), x⟩, ⟨.sl (.int .u8), y⟩] = some [⟨.bool, decide (x = y)⟩] := by
  have h69 := s69 (lc := [c69]) rfl
  simp only [F21, Fof, ir21]
  generalize Phi [c69] = Φ at *
  simp [↓den_start, ↓deb_op, ↓deb_ret, ↓deb_jump, ↓deb_itev, ↓deb_itel, ↓deb_loop, ↓deb_fail, ↓deb_nilcv, nilE_some, opE_some, debP_nil, debP_cons, pushL_nil, pushL_cons, retE_some, iteE_some, evB_nil, evB_v, evB_l, lkE_cons, consE_some, d_int, d_bool, d_str, d_nil, o_add, o_sub, o_mul, o_and, o_or, o_xor, o_andNot, o_quo, o_rem, o_shl, o_shr, o_eql, o_neq, o_lss, o_leq, o_gtr, o_geq, o_seql, o_sneq, o_slss, o_sleq, o_sgtr, o_sgeq, o_beql, o_bneq, o_scat, o_not, o_neg, o_com, o_conv, o_s2b, o_b2s, o_len, o_slen, o_inb, o_idx, o_sidx, o_sub3, o_sub2, o_ssub3, o_ssub2, o_app, o_apps, o_mk, mkE_some, consD_some, mkD_zero, mkD_int, mkD_str, mkD_sl, o_imin, o_imax, o_smin, o_smax, o_eqs, eqsE_some, eqC_nil, andE_some, eqC_int, eqC_bool, eqC_str, j1, outE_some, outE_none, outE_ite, agE_1, loopE_1, agE_2, loopE_2, agE_3, loopE_3, agE_4, loopE_4, agE_5, loopE_5, agE_6, loopE_6, agE_7, loopE_7, agE_8, loopE_8, agE_9, loopE_9, List.cons_append, List.nil_append, List.append_nil, split, List.take_succ_cons, List.take_zero, List.drop_succ_cons, List.drop_zero, h69, hx]
theorem s21 {lc : List Ct} (hl0 : look (lc.map fun c => (c.sig.id, c)) 21 = some c21) : ∀ (x y : List Int) (hx : x.length < 1000000000), Does1 (Phi lc) 21 [⟨.sl (.int .u8), x⟩, ⟨.sl (.int .u8), y⟩] [⟨.bool, decide (x = y)⟩] :=
  fun x y hx => Does1.of hl0 (f21 x y hx) rfl
theorem f67 (x y : List Int) : F67 [⟨.sl (.int .u8), x⟩, ⟨.sl (.int .u8), y⟩] = some [⟨.bool, decide (x = y)⟩] := by
  simp only [F67, Fof, ir67]
  simp [↓den_start, ↓deb_op, ↓deb_ret, ↓deb_jump, ↓deb_itev, ↓deb_itel, ↓deb_loop, ↓deb_fail, ↓deb_nilcv, nilE_some, opE_some, debP_nil, debP_cons, pushL_nil, pushL_cons, retE_some, iteE_some, evB_nil, evB_v, evB_l, lkE_cons, consE_some, d_int, d_bool, d_str, d_nil, o_add, o_sub, o_mul, o_and, o_or, o_xor, o_andNot, o_quo, o_rem, o_shl, o_shr, o_eql, o_neq, o_lss, o_leq, o_gtr, o_geq, o_seql, o_sneq, o_slss, o_sleq, o_sgtr, o_sgeq, o_beql, o_bneq, o_scat, o_not, o_neg, o_com, o_conv, o_s2b, o_b2s, o_len, o_slen, o_inb, o_idx, o_sidx, o_sub3, o_sub2, o_ssub3, o_ssub2, o_app, o_apps, o_mk, mkE_some, consD_some, mkD_zero, mkD_int, mkD_str, mkD_sl, o_imin, o_imax, o_smin, o_smax, o_eqs, eqsE_some, eqC_nil, andE_some, eqC_int, eqC_bool, eqC_str, j1, outE_some, outE_none, outE_ite, agE_1, loopE_1, agE_2, loopE_2, agE_3, loopE_3, agE_4, loopE_4, agE_5, loopE_5, agE_6, loopE_6, agE_7, loopE_7, agE_8, loopE_8, agE_9, loopE_9, List.cons_append, List.nil_append, List.append_nil, split, List.take_succ_cons, List.take_zero, List.drop_succ_cons, List.drop_zero]
theorem s67 {lc : List Ct} (hl0 : look (lc.map fun c => (c.sig.id, c)) 67 = some c67) : ∀ (x y : List Int), Does1 (Phi lc) 67 [⟨.sl (.int .u8), x⟩, ⟨.sl (.int .u8), y⟩] [⟨.bool, decide (x = y)⟩] :=
  fun x y => Does1.of hl0 (f67 x y) rfl
theorem f27 (x0 x1 x2 x3 : Int) : F27 [⟨.int .i64, x0⟩, ⟨.int .i64, x1⟩, ⟨.int .i64, x2⟩, ⟨.int .u32, x3⟩] = some [⟨.bool, pOk x0 x1 x2⟩] := by
  simp only [F27, Fof, ir27]
  simp [↓den_start, ↓deb_op, ↓deb_ret, ↓deb_jump, ↓deb_itev, ↓deb_itel, ↓deb_loop, ↓deb_fail, ↓deb_nilcv, nilE_some, opE_some, debP_nil, debP_cons, pushL_nil, pushL_cons, retE_some, iteE_some, evB_nil, evB_v, evB_l, lkE_cons, consE_some, d_int, d_bool, d_str, d_nil, o_add, o_sub, o_mul, o_and, o_or, o_xor, o_andNot, o_quo, o_rem, o_shl, o_shr, o_eql, o_neq, o_lss, o_leq, o_gtr, o_geq, o_seql, o_sneq, o_slss, o_sleq, o_sgtr, o_sgeq, o_beql, o_bneq, o_scat, o_not, o_neg, o_com, o_conv, o_s2b, o_b2s, o_len, o_slen, o_inb, o_idx, o_sidx, o_sub3, o_sub2, o_ssub3, o_ssub2, o_app, o_apps, o_mk, mkE_some, consD_some, mkD_zero, mkD_int, mkD_str, mkD_sl, o_imin, o_imax, o_smin, o_smax, o_eqs, eqsE_some, eqC_nil, andE_some, eqC_int, eqC_bool, eqC_str, j1, outE_some, outE_none, outE_ite, agE_1, loopE_1, agE_2, loopE_2, agE_3, loopE_3, agE_4, loopE_4, agE_5, loopE_5, agE_6, loopE_6, agE_7, loopE_7, agE_8, loopE_8, agE_9, loopE_9, List.cons_append, List.nil_append, List.append_nil, split, List.take_succ_cons, List.take_zero, List.drop_succ_cons, List.drop_zero]
  simp only [pOk]
  by_cases h1 : 1 ≤ x0 <;> by_cases h2 : x0 ≤ 2147483647 <;> by_cases h3 : 0 ≤ x1 <;> by_cases h4 : x1 ≤ 2147483647 <;> by_cases h5 : 0 ≤ x2 <;> simp [h1, h2, h3, h4, h5]
theorem s27 {lc : List Ct} (hl0 : look (lc.map fun c => (c.sig.id, c)) 27 = some c27) : ∀ (x0 x1 x2 x3 : Int), Does1 (Phi lc) 27 [⟨.int .i64, x0⟩, ⟨.int .i64, x1⟩, ⟨.int .i64, x2⟩, ⟨.int .u32, x3⟩] [⟨.bool, pOk x0 x1 x2⟩] :=
  fun x0 x1 x2 x3 => Does1.of hl0 (f27 x0 x1 x2 x3) rfl
theorem f121 (x : Int) (h0 : 0 ≤ x) (h1 : x < 4294967296) : F121 [⟨.int .u32, x⟩] = some [⟨.sl (.int .u8), sum4 x⟩] := by
  simp only [F121, Fof, ir121]
  simp [↓den_start, ↓deb_op, ↓deb_ret, ↓deb_jump, ↓deb_itev, ↓deb_itel, ↓deb_loop, ↓deb_fail, ↓deb_nilcv, nilE_some, opE_some, debP_nil, debP_cons, pushL_nil, pushL_cons, retE_some, iteE_some, evB_nil, evB_v, evB_l, lkE_cons, consE_some, d_int, d_bool, d_str, d_nil, o_add, o_sub, o_mul, o_and, o_or, o_xor, o_andNot, o_quo, o_rem, o_shl, o_shr, o_eql, o_neq, o_lss, o_leq, o_gtr, o_geq, o_seql, o_sneq, o_slss, o_sleq, o_sgtr, o_sgeq, o_beql, o_bneq, o_scat, o_not, o_neg, o_com, o_conv, o_s2b, o_b2s, o_len, o_slen, o_inb, o_idx, o_sidx, o_sub3, o_sub2, o_ssub3, o_ssub2, o_app, o_apps, o_mk, mkE_some, consD_some, mkD_zero, mkD_int, mkD_str, mkD_sl, o_imin, o_imax, o_smin, o_smax, o_eqs, eqsE_some, eqC_nil, andE_some, eqC_int, eqC_bool, eqC_str, j1, outE_some, outE_none, outE_ite, agE_1, loopE_1, agE_2, loopE_2, agE_3, loopE_3, agE_4, loopE_4, agE_5, loopE_5, agE_6, loopE_6, agE_7, loopE_7, agE_8, loopE_8, agE_9, loopE_9, List.cons_append, List.nil_append, List.append_nil, split, List.take_succ_cons, List.take_zero, List.drop_succ_cons, List.drop_zero]
  have e0 : ∀ y : Int, 0 ≤ y → y < 4294967296 → IntKind.u32.wrap (y.tdiv 256) = y / 256 := fun y h0 h1 => by rw [td _ _ h0, wu32 _ (by omega) (by omega)]
  have e1 : ∀ y : Int, 0 ≤ y → IntKind.u8.wrap (y.tmod 256) = y % 256 := fun y h0 => by rw [tm _ _ h0, wu8]; omega
  rw [iter_again (s' := (x / 256, [x % 256], 1)) (by simp [e0 x h0 h1, e1 x h0, BIG, wi64])]
  rw [iter_again (s' := (x / 256 / 256, [x % 256, x / 256 % 256], 2)) (by simp [e0 (x / 256) (by omega) (by omega), e1 (x / 256) (by omega), BIG, wi64])]
  rw [iter_again (s' := (x / 256 / 256 / 256, [x % 256, x / 256 % 256, x / 256 / 256 % 256], 3)) (by simp [e0 (x / 256 / 256) (by omega) (by omega), e1 (x / 256 / 256) (by omega), BIG, wi64])]
  rw [iter_again (s' := (x / 256 / 256 / 256 / 256, [x % 256, x / 256 % 256, x / 256 / 256 % 256, x / 256 / 256 / 256 % 256], 4)) (by simp [e0 (x / 256 / 256 / 256) (by omega) (by omega), e1 (x / 256 / 256 / 256) (by omega), BIG, wi64])]
  rw [iter_out rfl]
  simp only [sum4, show x / 256 / 256 = x / 65536 by omega, show x / 65536 / 256 = x / 16777216 by omega]
theorem s121 {lc : List Ct} (hl0 : look (lc.map fun c => (c.sig.id, c)) 121 = some c121) : ∀ (x : Int) (h0 : 0 ≤ x) (h1 : x < 4294967296), Does1 (Phi lc) 121 [⟨.int .u32, x⟩] [⟨.sl (.int .u8), sum4 x⟩] :=
  fun x h0 h1 => Does1.of hl0 (f121 x h0 h1) rfl
theorem f120 (x : List Int) (h : ∀ u ∈ x, 0 ≤ u ∧ u < 18446744073709551616) (hl : x.length ≤ 1000000) : F120 [⟨.sl (.int .u64), x⟩] = some [⟨.sl (.int .u8), putL x⟩] := by
  have h71 := s71 (lc := [c71]) rfl
  simp only [F120, Fof, ir120]
  generalize Phi [c71] = Φ at *
  simp [↓den_start, ↓deb_op, ↓deb_ret, ↓deb_jump, ↓deb_itev, ↓deb_itel, ↓deb_loop, ↓deb_fail, ↓deb_nilcv, nilE_some, opE_some, debP_nil, debP_cons, pushL_nil, pushL_cons, retE_some, iteE_some, evB_nil, evB_v, evB_l, lkE_cons, consE_some, d_int, d_bool, d_str, d_nil, o_add, o_sub, o_mul, o_and, o_or, o_xor, o_andNot, o_quo, o_rem, o_shl, o_shr, o_eql, o_neq, o_lss, o_leq, o_gtr, o_geq, o_seql, o_sneq, o_slss, o_sleq, o_sgtr, o_sgeq, o_beql, o_bneq, o_scat, o_not, o_neg, o_com, o_conv, o_s2b, o_b2s, o_len, o_slen, o_inb, o_idx, o_sidx, o_sub3, o_sub2, o_ssub3, o_ssub2, o_app, o_apps, o_mk, mkE_some, consD_some, mkD_zero, mkD_int, mkD_str, mkD_sl, o_imin, o_imax, o_smin, o_smax, o_eqs, eqsE_some, eqC_nil, andE_some, eqC_int, eqC_bool, eqC_str, j1, outE_some, outE_none, outE_ite, agE_1, loopE_1, agE_2, loopE_2, agE_3, loopE_3, agE_4, loopE_4, agE_5, loopE_5, agE_6, loopE_6, agE_7, loopE_7, agE_8, loopE_8, agE_9, loopE_9, List.cons_append, List.nil_append, List.append_nil, split, List.take_succ_cons, List.take_zero, List.drop_succ_cons, List.drop_zero, h71]
  refine (iter_meas (fun s : List Int × Int => (x.length - s.2).toNat) (fun s => [⟨.sl (.int .u8), s.1 ++ putL (x.drop s.2.toNat)⟩])
    (fun s => 0 ≤ s.2 ∧ s.2 ≤ x.length ∧ s.1.length ≤ 10 * s.2.toNat) ⟨by simp, by simp, by simp⟩ ?_).trans (by simp)
  rintro ⟨b, i⟩ ⟨h1, h2, h3⟩
  simp only at h1 h2 h3 ⊢
  by_cases hi : i < x.length
  · have hu := h (x[i.toNat]'(by omega)) (List.getElem_mem _)
    rw [if_pos hi, if_pos ⟨h1, hi⟩, getI h1 hi, dropI h1 hi]
    generalize x[i.toNat]'(by omega) = u at hu
    have hlen := one_len10 u.toNat (by omega)
    have hbig : b.length + (one u.toNat).length ≤ BIG := by simp only [BIG]; omega
    refine .inl ⟨(b ++ one u.toNat, i + 1), ?_, ⟨by simp; omega, by simp; omega, by simp; omega⟩, by simp; omega, ?_⟩
    · have h := h71 u hu
      simp [↓den_start, ↓deb_op, ↓deb_ret, ↓deb_jump, ↓deb_itev, ↓deb_itel, ↓deb_loop, ↓deb_fail, ↓deb_nilcv, nilE_some, opE_some, debP_nil, debP_cons, pushL_nil, pushL_cons, retE_some, iteE_some, evB_nil, evB_v, evB_l, lkE_cons, consE_some, d_int, d_bool, d_str, d_nil, o_add, o_sub, o_mul, o_and, o_or, o_xor, o_andNot, o_quo, o_rem, o_shl, o_shr, o_eql, o_neq, o_lss, o_leq, o_gtr, o_geq, o_seql, o_sneq, o_slss, o_sleq, o_sgtr, o_sgeq, o_beql, o_bneq, o_scat, o_not, o_neg, o_com, o_conv, o_s2b, o_b2s, o_len, o_slen, o_inb, o_idx, o_sidx, o_sub3, o_sub2, o_ssub3, o_ssub2, o_app, o_apps, o_mk, mkE_some, consD_some, mkD_zero, mkD_int, mkD_str, mkD_sl, o_imin, o_imax, o_smin, o_smax, o_eqs, eqsE_some, eqC_nil, andE_some, eqC_int, eqC_bool, eqC_str, j1, outE_some, outE_none, outE_ite, agE_1, loopE_1, agE_2, loopE_2, agE_3, loopE_3, agE_4, loopE_4, agE_5, loopE_5, agE_6, loopE_6, agE_7, loopE_7, agE_8, loopE_8, agE_9, loopE_9, List.cons_append, List.nil_append, List.append_nil, split, List.take_succ_cons, List.take_zero, List.drop_succ_cons, List.drop_zero, h, hbig]
      exact wi64 (i + 1) (by omega) (by omega)
    · rw [putL_cons, List.append_assoc]
  · refine .inr ?_
    rw [if_neg hi, List.drop_eq_nil_of_le (by omega), putL_nil, List.append_nil]
theorem s120 {lc : List Ct} (hl0 : look (lc.map fun c => (c.sig.id, c)) 120 = some c120) : ∀ (x : List Int) (h : ∀ u ∈ x, 0 ≤ u ∧ u < 18446744073709551616) (hl : x.length ≤ 1000000), Does1 (Phi lc) 120 [⟨.sl (.int .u64), x⟩] [⟨.sl (.int .u8), putL x⟩] :=
  fun x h hl => Does1.of hl0 (f120 x h hl) rfl
theorem f17 (x0 y0 : Bool) (x1 y1 : List Int) (x2 x3 x4 x5 y2 y3 y4 y5 : Int) : F17 [⟨.bool, x0⟩, ⟨.sl (.int .u8), x1⟩, ⟨.int .i64, x2⟩, ⟨.int .i64, x3⟩, ⟨.int .i64, x4⟩, ⟨.int .u32, x5⟩, ⟨.bool, y0⟩, ⟨.sl (.int .u8), y1⟩, ⟨.int .i64, y2⟩, ⟨.int .i64, y3⟩, ⟨.int .i64, y4⟩, ⟨.int .u32, y5⟩] = some [⟨.bool, x0 == y0 && decide (x2 = y2 ∧ x3 = y3 ∧ x4 = y4 ∧ x5 = y5) && decide (x1 = y1)⟩] := by
  have h67 := s67 (lc := [c67]) rfl
  simp only [F17, Fof, ir17]
  generalize Phi [c67] = Φ at *
  simp [↓den_start, ↓deb_op, ↓deb_ret, ↓deb_jump, ↓deb_itev, ↓deb_itel, ↓deb_loop, ↓deb_fail, ↓deb_nilcv, nilE_some, opE_some, debP_nil, debP_cons, pushL_nil, pushL_cons, retE_some, iteE_some, evB_nil, evB_v, evB_l, lkE_cons, consE_some, d_int, d_bool, d_str, d_nil, o_add, o_sub, o_mul, o_and, o_or, o_xor, o_andNot, o_quo, o_rem, o_shl, o_shr, o_eql, o_neq, o_lss, o_leq, o_gtr, o_geq, o_seql, o_sneq, o_slss, o_sleq, o_sgtr, o_sgeq, o_beql, o_bneq, o_scat, o_not, o_neg, o_com, o_conv, o_s2b, o_b2s, o_len, o_slen, o_inb, o_idx, o_sidx, o_sub3, o_sub2, o_ssub3, o_ssub2, o_app, o_apps, o_mk, mkE_some, consD_some, mkD_zero, mkD_int, mkD_str, mkD_sl, o_imin, o_imax, o_smin, o_smax, o_eqs, eqsE_some, eqC_nil, andE_some, eqC_int, eqC_bool, eqC_str, j1, outE_some, outE_none, outE_ite, agE_1, loopE_1, agE_2, loopE_2, agE_3, loopE_3, agE_4, loopE_4, agE_5, loopE_5, agE_6, loopE_6, agE_7, loopE_7, agE_8, loopE_8, agE_9, loopE_9, List.cons_append, List.nil_append, List.append_nil, split, List.take_succ_cons, List.take_zero, List.drop_succ_cons, List.drop_zero, h67]
  by_cases e1 : x0 = y0 <;> by_cases e2 : x2 = y2 ∧ x3 = y3 ∧ x4 = y4 ∧ x5 = y5
  · simp [e1, e2]
  · simp only [e1, e2, if_true, if_false]
    have : (decide (x2 = y2) && (decide (x3 = y3) && (decide (x4 = y4) && decide (x5 = y5)))) = false := by simpa using e2
    simp [this]
  · simp [e1]
  · simp [e1]
theorem s17 {lc : List Ct} (hl0 : look (lc.map fun c => (c.sig.id, c)) 17 = some c17) : ∀ (x0 y0 : Bool) (x1 y1 : List Int) (x2 x3 x4 x5 y2 y3 y4 y5 : Int), Does1 (Phi lc) 17 [⟨.bool, x0⟩, ⟨.sl (.int .u8), x1⟩, ⟨.int .i64, x2⟩, ⟨.int .i64, x3⟩, ⟨.int .i64, x4⟩, ⟨.int .u32, x5⟩, ⟨.bool, y0⟩, ⟨.sl (.int .u8), y1⟩, ⟨.int .i64, y2⟩, ⟨.int .i64, y3⟩, ⟨.int .i64, y4⟩, ⟨.int .u32, y5⟩] [⟨.bool, x0 == y0 && decide (x2 = y2 ∧ x3 = y3 ∧ x4 = y4 ∧ x5 = y5) && decide (x1 = y1)⟩] :=
  fun x0 y0 x1 y1 x2 x3 x4 x5 y2 y3 y4 y5 => Does1.of hl0 (f17 x0 y0 x1 y1 x2 x3 x4 x5 y2 y3 y4 y5) rfl
theorem f18 (x0 y0 : Bool) (x1 y1 : List Int) (x2 x3 x4 x5 y2 y3 y4 y5 : Int) (hx : x1.length < 1000000000) : F18 [⟨.bool, x0⟩, ⟨.sl (.int .u8), x1⟩, ⟨.int .i64, x2⟩, ⟨.int .i64, x3⟩, ⟨.int .i64, x4⟩, ⟨.int .u32, x5⟩, ⟨.bool, y0⟩, ⟨.sl (.int .u8), y1⟩, ⟨.int .i64, y2⟩, ⟨.int .i64, y3⟩, ⟨.int .i64, y4⟩, ⟨.int .u32, y5⟩] = some [⟨.bool, x0 == y0 && decide (x2 = y2 ∧ x3 = y3 ∧ x4 = y4 ∧ x5 = y5) && decide (x1 = y1)⟩] := by
  have h21 := s21 (lc := [c21]) rfl
  simp only [F18, Fof, ir18]
  generalize Phi [c21] = Φ at *
  simp [↓den_start, ↓deb_op, ↓deb_ret, ↓deb_jump, ↓deb_itev, ↓deb_itel, ↓deb_loop, ↓deb_fail, ↓deb_nilcv, nilE_some, opE_some, debP_nil, debP_cons, pushL_nil, pushL_cons, retE_some, iteE_some, evB_nil, evB_v, evB_l, lkE_cons, consE_some, d_int, d_bool, d_str, d_nil, o_add, o_sub, o_mul, o_and, o_or, o_xor, o_andNot, o_quo, o_rem, o_shl, o_shr, o_eql, o_neq, o_lss, o_leq, o_gtr, o_geq, o_seql, o_sneq, o_slss, o_sleq, o_sgtr, o_sgeq, o_beql, o_bneq, o_scat, o_not, o_neg, o_com, o_conv, o_s2b, o_b2s, o_len, o_slen, o_inb, o_idx, o_sidx, o_sub3, o_sub2, o_ssub3, o_ssub2, o_app, o_apps, o_mk, mkE_some, consD_some, mkD_zero, mkD_int, mkD_str, mkD_sl, o_imin, o_imax, o_smin, o_smax, o_eqs, eqsE_some, eqC_nil, andE_some, eqC_int, eqC_bool, eqC_str, j1, outE_some, outE_none, outE_ite, agE_1, loopE_1, agE_2, loopE_2, agE_3, loopE_3, agE_4, loopE_4, agE_5, loopE_5, agE_6, loopE_6, agE_7, loopE_7, agE_8, loopE_8, agE_9, loopE_9, List.cons_append, List.nil_append, List.append_nil, split, List.take_succ_cons, List.take_zero, List.drop_succ_cons, List.drop_zero, h21, hx]
  by_cases e1 : x0 = y0 <;> by_cases e2 : x2 = y2 ∧ x3 = y3 ∧ x4 = y4 ∧ x5 = y5
  · simp [e1, e2]
  · simp only [e1, e2, if_true, if_false]
    have : (decide (x2 = y2) && (decide (x3 = y3) && (decide (x4 = y4) && decide (x5 = y5)))) = false := by simpa using e2
    simp [this]
  · simp [e1]
  · simp [e1]
theorem s18 {lc : List Ct} (hl0 : look (lc.map fun c => (c.sig.id, c)) 18 = some c18) : ∀ (x0 y0 : Bool) (x1 y1 : List Int) (x2 x3 x4 x5 y2 y3 y4 y5 : Int) (hx : x1.length < 1000000000), Does1 (Phi lc) 18 [⟨.bool, x0⟩, ⟨.sl (.int .u8), x1⟩, ⟨.int .i64, x2⟩, ⟨.int .i64, x3⟩, ⟨.int .i64, x4⟩, ⟨.int .u32, x5⟩, ⟨.bool, y0⟩, ⟨.sl (.int .u8), y1⟩, ⟨.int .i64, y2⟩, ⟨.int .i64, y3⟩, ⟨.int .i64, y4⟩, ⟨.int .u32, y5⟩] [⟨.bool, x0 == y0 && decide (x2 = y2 ∧ x3 = y3 ∧ x4 = y4 ∧ x5 = y5) && decide (x1 = y1)⟩] :=
  fun x0 y0 x1 y1 x2 x3 x4 x5 y2 y3 y4 y5 hx => Does1.of hl0 (f18 x0 y0 x1 y1 x2 x3 x4 x5 y2 y3 y4 y5 hx) rfl
theorem f19 (x0 : Bool) (x1 : List Int) (x2 x3 x4 x5 : Int) : F19 [⟨.bool, x0⟩, ⟨.sl (.int .u8), x1⟩, ⟨.int .i64, x2⟩, ⟨.int .i64, x3⟩, ⟨.int .i64, x4⟩, ⟨.int .u32, x5⟩] = some [⟨.bool, decide (cErr x0 x1 x2 x3 x4 x5 = 0)⟩] := by
  have h27 := s27 (lc := [c27]) rfl
  simp only [F19, Fof, ir19]
  generalize Phi [c27] = Φ at *
  simp [↓den_start, ↓deb_op, ↓deb_ret, ↓deb_jump, ↓deb_itev, ↓deb_itel, ↓deb_loop, ↓deb_fail, ↓deb_nilcv, nilE_some, opE_some, debP_nil, debP_cons, pushL_nil, pushL_cons, retE_some, iteE_some, evB_nil, evB_v, evB_l, lkE_cons, consE_some, d_int, d_bool, d_str, d_nil, o_add, o_sub, o_mul, o_and, o_or, o_xor, o_andNot, o_quo, o_rem, o_shl, o_shr, o_eql, o_neq, o_lss, o_leq, o_gtr, o_geq, o_seql, o_sneq, o_slss, o_sleq, o_sgtr, o_sgeq, o_beql, o_bneq, o_scat, o_not, o_neg, o_com, o_conv, o_s2b, o_b2s, o_len, o_slen, o_inb, o_idx, o_sidx, o_sub3, o_sub2, o_ssub3, o_ssub2, o_app, o_apps, o_mk, mkE_some, consD_some, mkD_zero, mkD_int, mkD_str, mkD_sl, o_imin, o_imax, o_smin, o_smax, o_eqs, eqsE_some, eqC_nil, andE_some, eqC_int, eqC_bool, eqC_str, j1, outE_some, outE_none, outE_ite, agE_1, loopE_1, agE_2, loopE_2, agE_3, loopE_3, agE_4, loopE_4, agE_5, loopE_5, agE_6, loopE_6, agE_7, loopE_7, agE_8, loopE_8, agE_9, loopE_9, List.cons_append, List.nil_append, List.append_nil, split, List.take_succ_cons, List.take_zero, List.drop_succ_cons, List.drop_zero, h27]
  have sb : ∀ b : Bool, (b = true ↔ cErr x0 x1 x2 x3 x4 x5 = 0) → (some [⟨.bool, b⟩] : Option (List D)) = some [⟨.bool, decide (cErr x0 x1 x2 x3 x4 x5 = 0)⟩] := fun b hb => by
    have : b = decide (cErr x0 x1 x2 x3 x4 x5 = 0) := by rw [Bool.eq_iff_iff, hb]; simp
    rw [this]
  cases x0
  · rw [if_neg (by simp)]
    split
    · refine sb _ ?_
      simp only [cErr, Bool.false_eq_true, if_false, Bool.and_eq_true, decide_eq_true_eq]
      constructor
      · intro h; rw [if_neg (by omega)]
      · intro h; split at h
        · cases h
        · omega
    · refine sb _ ?_
      simp only [cErr, Bool.false_eq_true, if_false, false_iff]
      rw [if_pos (by omega)]; omega
  · rw [if_pos rfl]
    split
    · rename_i he; subst he
      refine sb _ ?_
      simp [cErr]
    · rename_i he
      refine sb _ ?_
      have : 0 < x1.length := List.length_pos_iff.2 he
      simp [cErr, this]
theorem s19 {lc : List Ct} (hl0 : look (lc.map fun c => (c.sig.id, c)) 19 = some c19) : ∀ (x0 : Bool) (x1 : List Int) (x2 x3 x4 x5 : Int), Does1 (Phi lc) 19 [⟨.bool, x0⟩, ⟨.sl (.int .u8), x1⟩, ⟨.int .i64, x2⟩, ⟨.int .i64, x3⟩, ⟨.int .i64, x4⟩, ⟨.int .u32, x5⟩] [⟨.bool, decide (cErr x0 x1 x2 x3 x4 x5 = 0)⟩] :=
  fun x0 x1 x2 x3 x4 x5 => Does1.of hl0 (f19 x0 x1 x2 x3 x4 x5) rfl
theorem f70 (x0 x1 x2 x3 : Int) (hp : pOk x0 x1 x2 = true) (h0 : 0 ≤ x3) (h1 : x3 < 4294967296) : F70 [⟨.int .i64, x0⟩, ⟨.int .i64, x1⟩, ⟨.int .i64, x2⟩, ⟨.int .u32, x3⟩] = some [⟨.sl (.int .u8), putL [x0, x1, x2] ++ sum4 x3⟩] := by
  have h120 := s120 (lc := [c120, c121]) rfl
  have h121 := s121 (lc := [c120, c121]) rfl
  simp only [F70, Fof, ir70]
  generalize Phi [c120, c121] = Φ at *
  have hp' : 1 ≤ x0 ∧ x0 ≤ 2147483647 ∧ 0 ≤ x1 ∧ x1 ≤ 2147483647 ∧ 0 ≤ x2 ∧ x2 ≤ 4096 := by simpa [pOk] using hp
  have hl : ∀ u ∈ [x0, x1, x2], 0 ≤ u ∧ u < 18446744073709551616 := by
    intro u hu; simp only [List.mem_cons, List.not_mem_nil, or_false] at hu; omega
  have hlen := putL_len _ hl
  have k1 := h120 [x0, x1, x2] hl (by simp)
  have k2 := h121 x3 h0 h1
  simp [↓den_start, ↓deb_op, ↓deb_ret, ↓deb_jump, ↓deb_itev, ↓deb_itel, ↓deb_loop, ↓deb_fail, ↓deb_nilcv, nilE_some, opE_some, debP_nil, debP_cons, pushL_nil, pushL_cons, retE_some, iteE_some, evB_nil, evB_v, evB_l, lkE_cons, consE_some, d_int, d_bool, d_str, d_nil, o_add, o_sub, o_mul, o_and, o_or, o_xor, o_andNot, o_quo, o_rem, o_shl, o_shr, o_eql, o_neq, o_lss, o_leq, o_gtr, o_geq, o_seql, o_sneq, o_slss, o_sleq, o_sgtr, o_sgeq, o_beql, o_bneq, o_scat, o_not, o_neg, o_com, o_conv, o_s2b, o_b2s, o_len, o_slen, o_inb, o_idx, o_sidx, o_sub3, o_sub2, o_ssub3, o_ssub2, o_app, o_apps, o_mk, mkE_some, consD_some, mkD_zero, mkD_int, mkD_str, mkD_sl, o_imin, o_imax, o_smin, o_smax, o_eqs, eqsE_some, eqC_nil, andE_some, eqC_int, eqC_bool, eqC_str, j1, outE_some, outE_none, outE_ite, agE_1, loopE_1, agE_2, loopE_2, agE_3, loopE_3, agE_4, loopE_4, agE_5, loopE_5, agE_6, loopE_6, agE_7, loopE_7, agE_8, loopE_8, agE_9, loopE_9, List.cons_append, List.nil_append, List.append_nil, split, List.take_succ_cons, List.take_zero, List.drop_succ_cons, List.drop_zero, k1, k2, wu64 x0 (by omega) (by omega), wu64 x1 (by omega) (by omega), wu64 x2 (by omega) (by omega), BIG]
  simp [sum4] at hlen ⊢
  omega
theorem s70 {lc : List Ct} (hl0 : look (lc.map fun c => (c.sig.id, c)) 70 = some c70) : ∀ (x0 x1 x2 x3 : Int) (hp : pOk x0 x1 x2 = true) (h0 : 0 ≤ x3) (h1 : x3 < 4294967296), Does1 (Phi lc) 70 [⟨.int .i64, x0⟩, ⟨.int .i64, x1⟩, ⟨.int .i64, x2⟩, ⟨.int .u32, x3⟩] [⟨.sl (.int .u8), putL [x0, x1, x2] ++ sum4 x3⟩] :=
  fun x0 x1 x2 x3 hp h0 h1 => Does1.of hl0 (f70 x0 x1 x2 x3 hp h0 h1) rfl
theorem f22 (x0 : Bool) (x1 : List Int) (x2 x3 x4 x5 : Int) (hc : cErr x0 x1 x2 x3 x4 x5 = 0) (h0 : 0 ≤ x5) (h1 : x5 < 4294967296) : F22 [⟨.bool, x0⟩, ⟨.sl (.int .u8), x1⟩, ⟨.int .i64, x2⟩, ⟨.int .i64, x3⟩, ⟨.int .i64, x4⟩, ⟨.int .u32, x5⟩] = some [⟨.sl (.int .u8), putC x0 x1 x2 x3 x4 x5⟩] := by
  have h70 := s70 (lc := [c70, c71]) rfl
  have h71 := s71 (lc := [c70, c71]) rfl
  simp only [F22, Fof, ir22]
  generalize Phi [c70, c71] = Φ at *
  simp [↓den_start, ↓deb_op, ↓deb_ret, ↓deb_jump, ↓deb_itev, ↓deb_itel, ↓deb_loop, ↓deb_fail, ↓deb_nilcv, nilE_some, opE_some, debP_nil, debP_cons, pushL_nil, pushL_cons, retE_some, iteE_some, evB_nil, evB_v, evB_l, lkE_cons, consE_some, d_int, d_bool, d_str, d_nil, o_add, o_sub, o_mul, o_and, o_or, o_xor, o_andNot, o_quo, o_rem, o_shl, o_shr, o_eql, o_neq, o_lss, o_leq, o_gtr, o_geq, o_seql, o_sneq, o_slss, o_sleq, o_sgtr, o_sgeq, o_beql, o_bneq, o_scat, o_not, o_neg, o_com, o_conv, o_s2b, o_b2s, o_len, o_slen, o_inb, o_idx, o_sidx, o_sub3, o_sub2, o_ssub3, o_ssub2, o_app, o_apps, o_mk, mkE_some, consD_some, mkD_zero, mkD_int, mkD_str, mkD_sl, o_imin, o_imax, o_smin, o_smax, o_eqs, eqsE_some, eqC_nil, andE_some, eqC_int, eqC_bool, eqC_str, j1, outE_some, outE_none, outE_ite, agE_1, loopE_1, agE_2, loopE_2, agE_3, loopE_3, agE_4, loopE_4, agE_5, loopE_5, agE_6, loopE_6, agE_7, loopE_7, agE_8, loopE_8, agE_9, loopE_9, List.cons_append, List.nil_append, List.append_nil, split, List.take_succ_cons, List.take_zero, List.drop_succ_cons, List.drop_zero, h70, h71]
  cases x0
  · have hl : x1.length ≤ 32 := by
      simp only [cErr, Bool.false_eq_true, if_false] at hc
      split at hc
      · cases hc
      · omega
    have k1 := h71 (x1.length : Int) (by omega)
    have k2 := one_len10 x1.length (by omega)
    simp [↓den_start, ↓deb_op, ↓deb_ret, ↓deb_jump, ↓deb_itev, ↓deb_itel, ↓deb_loop, ↓deb_fail, ↓deb_nilcv, nilE_some, opE_some, debP_nil, debP_cons, pushL_nil, pushL_cons, retE_some, iteE_some, evB_nil, evB_v, evB_l, lkE_cons, consE_some, d_int, d_bool, d_str, d_nil, o_add, o_sub, o_mul, o_and, o_or, o_xor, o_andNot, o_quo, o_rem, o_shl, o_shr, o_eql, o_neq, o_lss, o_leq, o_gtr, o_geq, o_seql, o_sneq, o_slss, o_sleq, o_sgtr, o_sgeq, o_beql, o_bneq, o_scat, o_not, o_neg, o_com, o_conv, o_s2b, o_b2s, o_len, o_slen, o_inb, o_idx, o_sidx, o_sub3, o_sub2, o_ssub3, o_ssub2, o_app, o_apps, o_mk, mkE_some, consD_some, mkD_zero, mkD_int, mkD_str, mkD_sl, o_imin, o_imax, o_smin, o_smax, o_eqs, eqsE_some, eqC_nil, andE_some, eqC_int, eqC_bool, eqC_str, j1, outE_some, outE_none, outE_ite, agE_1, loopE_1, agE_2, loopE_2, agE_3, loopE_3, agE_4, loopE_4, agE_5, loopE_5, agE_6, loopE_6, agE_7, loopE_7, agE_8, loopE_8, agE_9, loopE_9, List.cons_append, List.nil_append, List.append_nil, split, List.take_succ_cons, List.take_zero, List.drop_succ_cons, List.drop_zero, k1, wu64 (x1.length : Int) (by omega) (by omega), BIG, putC]
    exact ⟨by omega, by omega⟩
  · have hp : pOk x2 x3 x4 = true := by
      simp only [cErr, if_true] at hc
      split at hc
      · cases hc
      · split at hc
        · assumption
        · cases hc
    have k := h70 x2 x3 x4 x5 hp h0 h1
    have hlen := putL_len [x2, x3, x4] (by have hp' : 1 ≤ x2 ∧ x2 ≤ 2147483647 ∧ 0 ≤ x3 ∧ x3 ≤ 2147483647 ∧ 0 ≤ x4 ∧ x4 ≤ 4096 := by simpa [pOk] using hp
                                           intro u hu; simp only [List.mem_cons, List.not_mem_nil, or_false] at hu; omega)
    simp [sum4] at hlen
    simp [↓den_start, ↓deb_op, ↓deb_ret, ↓deb_jump, ↓deb_itev, ↓deb_itel, ↓deb_loop, ↓deb_fail, ↓deb_nilcv, nilE_some, opE_some, debP_nil, debP_cons, pushL_nil, pushL_cons, retE_some, iteE_some, evB_nil, evB_v, evB_l, lkE_cons, consE_some, d_int, d_bool, d_str, d_nil, o_add, o_sub, o_mul, o_and, o_or, o_xor, o_andNot, o_quo, o_rem, o_shl, o_shr, o_eql, o_neq, o_lss, o_leq, o_gtr, o_geq, o_seql, o_sneq, o_slss, o_sleq, o_sgtr, o_sgeq, o_beql, o_bneq, o_scat, o_not, o_neg, o_com, o_conv, o_s2b, o_b2s, o_len, o_slen, o_inb, o_idx, o_sidx, o_sub3, o_sub2, o_ssub3, o_ssub2, o_app, o_apps, o_mk, mkE_some, consD_some, mkD_zero, mkD_int, mkD_str, mkD_sl, o_imin, o_imax, o_smin, o_smax, o_eqs, eqsE_some, eqC_nil, andE_some, eqC_int, eqC_bool, eqC_str, j1, outE_some, outE_none, outE_ite, agE_1, loopE_1, agE_2, loopE_2, agE_3, loopE_3, agE_4, loopE_4, agE_5, loopE_5, agE_6, loopE_6, agE_7, loopE_7, agE_8, loopE_8, agE_9, loopE_9, List.cons_append, List.nil_append, List.append_nil, split, List.take_succ_cons, List.take_zero, List.drop_succ_cons, List.drop_zero, k, BIG, putC, sum4]
    omega
theorem s22 {lc : List Ct} (hl0 : look (lc.map fun c => (c.sig.id, c)) 22 = some c22) : ∀ (x0 : Bool) (x1 : List Int) (x2 x3 x4 x5 : Int) (hc : cErr x0 x1 x2 x3 x4 x5 = 0) (h0 : 0 ≤ x5) (h1 : x5 < 4294967296), Does1 (Phi lc) 22 [⟨.bool, x0⟩, ⟨.sl (.int .u8), x1⟩, ⟨.int .i64, x2⟩, ⟨.int .i64, x3⟩, ⟨.int .i64, x4⟩, ⟨.int .u32, x5⟩] [⟨.sl (.int .u8), putC x0 x1 x2 x3 x4 x5⟩] :=
  fun x0 x1 x2 x3 x4 x5 hc h0 h1 => Does1.of hl0 (f22 x0 x1 x2 x3 x4 x5 hc h0 h1) rfl
theorem f16 (x0 : Bool) (x1 : List Int) (x2 x3 x4 x5 : Int) (h0 : 0 ≤ x5) (h1 : x5 < 4294967296) : F16 [⟨.bool, x0⟩, ⟨.sl (.int .u8), x1⟩, ⟨.int .i64, x2⟩, ⟨.int .i64, x3⟩, ⟨.int .i64, x4⟩, ⟨.int .u32, x5⟩] = some [⟨.sl (.int .u8), if cErr x0 x1 x2 x3 x4 x5 = 0 then putC x0 x1 x2 x3 x4 x5 else []⟩, ⟨.int .i64, cErr x0 x1 x2 x3 x4 x5⟩] := by
  have h20 := s20 (lc := [c20, c65, c66]) rfl
  have h65 := s65 (lc := [c20, c65, c66]) rfl
  have h66 := s66 (lc := [c20, c65, c66]) rfl
  simp only [F16, Fof, ir16]
  generalize Phi [c20, c65, c66] = Φ at *
  simp [↓den_start, ↓deb_op, ↓deb_ret, ↓deb_jump, ↓deb_itev, ↓deb_itel, ↓deb_loop, ↓deb_fail, ↓deb_nilcv, nilE_some, opE_some, debP_nil, debP_cons, pushL_nil, pushL_cons, retE_some, iteE_some, evB_nil, evB_v, evB_l, lkE_cons, consE_some, d_int, d_bool, d_str, d_nil, o_add, o_sub, o_mul, o_and, o_or, o_xor, o_andNot, o_quo, o_rem, o_shl, o_shr, o_eql, o_neq, o_lss, o_leq, o_gtr, o_geq, o_seql, o_sneq, o_slss, o_sleq, o_sgtr, o_sgeq, o_beql, o_bneq, o_scat, o_not, o_neg, o_com, o_conv, o_s2b, o_b2s, o_len, o_slen, o_inb, o_idx, o_sidx, o_sub3, o_sub2, o_ssub3, o_ssub2, o_app, o_apps, o_mk, mkE_some, consD_some, mkD_zero, mkD_int, mkD_str, mkD_sl, o_imin, o_imax, o_smin, o_smax, o_eqs, eqsE_some, eqC_nil, andE_some, eqC_int, eqC_bool, eqC_str, j1, outE_some, outE_none, outE_ite, agE_1, loopE_1, agE_2, loopE_2, agE_3, loopE_3, agE_4, loopE_4, agE_5, loopE_5, agE_6, loopE_6, agE_7, loopE_7, agE_8, loopE_8, agE_9, loopE_9, List.cons_append, List.nil_append, List.append_nil, split, List.take_succ_cons, List.take_zero, List.drop_succ_cons, List.drop_zero, h20, h65, h66]
  by_cases hc : cErr x0 x1 x2 x3 x4 x5 = 0
  · rw [if_pos hc, if_pos hc, hc]
    cases x0
    · have hl : x1.length ≤ 32 := by
        simp only [cErr, Bool.false_eq_true, if_false] at hc
        split at hc
        · cases hc
        · omega
      have k1 := h66 [(x1.length : Int)] (by simp; omega) (by simp)
      have k2 := one_len10 x1.length (by omega)
      have e : putL [(x1.length : Int)] = one x1.length := by simp [putL]
      rw [e] at k1
      simp [↓den_start, ↓deb_op, ↓deb_ret, ↓deb_jump, ↓deb_itev, ↓deb_itel, ↓deb_loop, ↓deb_fail, ↓deb_nilcv, nilE_some, opE_some, debP_nil, debP_cons, pushL_nil, pushL_cons, retE_some, iteE_some, evB_nil, evB_v, evB_l, lkE_cons, consE_some, d_int, d_bool, d_str, d_nil, o_add, o_sub, o_mul, o_and, o_or, o_xor, o_andNot, o_quo, o_rem, o_shl, o_shr, o_eql, o_neq, o_lss, o_leq, o_gtr, o_geq, o_seql, o_sneq, o_slss, o_sleq, o_sgtr, o_sgeq, o_beql, o_bneq, o_scat, o_not, o_neg, o_com, o_conv, o_s2b, o_b2s, o_len, o_slen, o_inb, o_idx, o_sidx, o_sub3, o_sub2, o_ssub3, o_ssub2, o_app, o_apps, o_mk, mkE_some, consD_some, mkD_zero, mkD_int, mkD_str, mkD_sl, o_imin, o_imax, o_smin, o_smax, o_eqs, eqsE_some, eqC_nil, andE_some, eqC_int, eqC_bool, eqC_str, j1, outE_some, outE_none, outE_ite, agE_1, loopE_1, agE_2, loopE_2, agE_3, loopE_3, agE_4, loopE_4, agE_5, loopE_5, agE_6, loopE_6, agE_7, loopE_7, agE_8, loopE_8, agE_9, loopE_9, List.cons_append, List.nil_append, List.append_nil, split, List.take_succ_cons, List.take_zero, List.drop_succ_cons, List.drop_zero, k1, wu64 (x1.length : Int) (by omega) (by omega), BIG, putC]
      exact ⟨by omega, by omega⟩
    · have hp : pOk x2 x3 x4 = true := by
        simp only [cErr, if_true] at hc
        split at hc
        · cases hc
        · split at hc
          · assumption
          · cases hc
      have k := h65 x2 x3 x4 x5 h0 h1
      simp only [hp, if_true] at k
      have hlen := putL_len [x2, x3, x4] (by have hp' : 1 ≤ x2 ∧ x2 ≤ 2147483647 ∧ 0 ≤ x3 ∧ x3 ≤ 2147483647 ∧ 0 ≤ x4 ∧ x4 ≤ 4096 := by simpa [pOk] using hp
                                             intro u hu; simp only [List.mem_cons, List.not_mem_nil, or_false] at hu; omega)
      simp [sum4] at hlen
      simp [↓den_start, ↓deb_op, ↓deb_ret, ↓deb_jump, ↓deb_itev, ↓deb_itel, ↓deb_loop, ↓deb_fail, ↓deb_nilcv, nilE_some, opE_some, debP_nil, debP_cons, pushL_nil, pushL_cons, retE_some, iteE_some, evB_nil, evB_v, evB_l, lkE_cons, consE_some, d_int, d_bool, d_str, d_nil, o_add, o_sub, o_mul, o_and, o_or, o_xor, o_andNot, o_quo, o_rem, o_shl, o_shr, o_eql, o_neq, o_lss, o_leq, o_gtr, o_geq, o_seql, o_sneq, o_slss, o_sleq, o_sgtr, o_sgeq, o_beql, o_bneq, o_scat, o_not, o_neg, o_com, o_conv, o_s2b, o_b2s, o_len, o_slen, o_inb, o_idx, o_sidx, o_sub3, o_sub2, o_ssub3, o_ssub2, o_app, o_apps, o_mk, mkE_some, consD_some, mkD_zero, mkD_int, mkD_str, mkD_sl, o_imin, o_imax, o_smin, o_smax, o_eqs, eqsE_some, eqC_nil, andE_some, eqC_int, eqC_bool, eqC_str, j1, outE_some, outE_none, outE_ite, agE_1, loopE_1, agE_2, loopE_2, agE_3, loopE_3, agE_4, loopE_4, agE_5, loopE_5, agE_6, loopE_6, agE_7, loopE_7, agE_8, loopE_8, agE_9, loopE_9, List.cons_append, List.nil_append, List.append_nil, split, List.take_succ_cons, List.take_zero, List.drop_succ_cons, List.drop_zero, k, BIG, putC, sum4]
      omega
  · simp [hc]
theorem s16 {lc : List Ct} (hl0 : look (lc.map fun c => (c.sig.id, c)) 16 = some c16) : ∀ (x0 : Bool) (x1 : List Int) (x2 x3 x4 x5 : Int) (h0 : 0 ≤ x5) (h1 : x5 < 4294967296), Does1 (Phi lc) 16 [⟨.bool, x0⟩, ⟨.sl (.int .u8), x1⟩, ⟨.int .i64, x2⟩, ⟨.int .i64, x3⟩, ⟨.int .i64, x4⟩, ⟨.int .u32, x5⟩] [⟨.sl (.int .u8), if cErr x0 x1 x2 x3 x4 x5 = 0 then putC x0 x1 x2 x3 x4 x5 else []⟩, ⟨.int .i64, cErr x0 x1 x2 x3 x4 x5⟩] :=
  fun x0 x1 x2 x3 x4 x5 h0 h1 => Does1.of hl0 (f16 x0 x1 x2 x3 x4 x5 h0 h1) rfl
theorem f15  : F15 [] = some [⟨.bool, true⟩] := by
  have h16 := s16 (lc := [c16, c21]) rfl
  have h21 := s21 (lc := [c16, c21]) rfl
  simp only [F15, Fof, ir15]
  generalize Phi [c16, c21] = Φ at *
  have k1 := h16 false [7, 8] 0 0 0 0 (by omega) (by omega)
  have k2 : cErr false [7, 8] 0 0 0 0 = 0 := by decide
  have k3 : putC false [7, 8] 0 0 0 0 = [0, 2, 7, 8] := by simp [putC, one]
  rw [k2, k3] at k1
  simp only [if_true] at k1
  have k4 := h21 [0, 2, 7, 8] [0, 2, 7, 8] (by simp)
  simp [↓den_start, ↓deb_op, ↓deb_ret, ↓deb_jump, ↓deb_itev, ↓deb_itel, ↓deb_loop, ↓deb_fail, ↓deb_nilcv, nilE_some, opE_some, debP_nil, debP_cons, pushL_nil, pushL_cons, retE_some, iteE_some, evB_nil, evB_v, evB_l, lkE_cons, consE_some, d_int, d_bool, d_str, d_nil, o_add, o_sub, o_mul, o_and, o_or, o_xor, o_andNot, o_quo, o_rem, o_shl, o_shr, o_eql, o_neq, o_lss, o_leq, o_gtr, o_geq, o_seql, o_sneq, o_slss, o_sleq, o_sgtr, o_sgeq, o_beql, o_bneq, o_scat, o_not, o_neg, o_com, o_conv, o_s2b, o_b2s, o_len, o_slen, o_inb, o_idx, o_sidx, o_sub3, o_sub2, o_ssub3, o_ssub2, o_app, o_apps, o_mk, mkE_some, consD_some, mkD_zero, mkD_int, mkD_str, mkD_sl, o_imin, o_imax, o_smin, o_smax, o_eqs, eqsE_some, eqC_nil, andE_some, eqC_int, eqC_bool, eqC_str, j1, outE_some, outE_none, outE_ite, agE_1, loopE_1, agE_2, loopE_2, agE_3, loopE_3, agE_4, loopE_4, agE_5, loopE_5, agE_6, loopE_6, agE_7, loopE_7, agE_8, loopE_8, agE_9, loopE_9, List.cons_append, List.nil_append, List.append_nil, split, List.take_succ_cons, List.take_zero, List.drop_succ_cons, List.drop_zero, k1, k4]
theorem s15 {lc : List Ct} (hl0 : look (lc.map fun c => (c.sig.id, c)) 15 = some c15) : ∀ _u : Unit, Does1 (Phi lc) 15 [] [⟨.bool, true⟩] :=
  fun _ => Does1.of hl0 f15 rfl
theorem f3 (x0 y0 : Bool) (x1 y1 : List Int) (x2 x3 x4 x5 y2 y3 y4 y5 : Int) (h0 : 0 ≤ x5) (h1 : x5 < 4294967296) : F3 [⟨.bool, x0⟩, ⟨.sl (.int .u8), x1⟩, ⟨.int .i64, x2⟩, ⟨.int .i64, x3⟩, ⟨.int .i64, x4⟩, ⟨.int .u32, x5⟩, ⟨.bool, y0⟩, ⟨.sl (.int .u8), y1⟩, ⟨.int .i64, y2⟩, ⟨.int .i64, y3⟩, ⟨.int .i64, y4⟩, ⟨.int .u32, y5⟩] = some [⟨.bool, true⟩] := by
  have h15 := s15 (lc := [c15, c16, c17, c18, c19, c20, c22, c21]) rfl
  have h16 := s16 (lc := [c15, c16, c17, c18, c19, c20, c22, c21]) rfl
  have h17 := s17 (lc := [c15, c16, c17, c18, c19, c20, c22, c21]) rfl
  have h18 := s18 (lc := [c15, c16, c17, c18, c19, c20, c22, c21]) rfl
  have h19 := s19 (lc := [c15, c16, c17, c18, c19, c20, c22, c21]) rfl
  have h20 := s20 (lc := [c15, c16, c17, c18, c19, c20, c22, c21]) rfl
  have h22 := s22 (lc := [c15, c16, c17, c18, c19, c20, c22, c21]) rfl
  have h21 := s21 (lc := [c15, c16, c17, c18, c19, c20, c22, c21]) rfl
  simp only [F3, Fof, ir3]
  generalize Phi [c15, c16, c17, c18, c19, c20, c22, c21] = Φ at *
  have h15 := h15 ()
  by_cases g1 : (200 : Int) < x1.length
  · simp [↓den_start, ↓deb_op, ↓deb_ret, ↓deb_jump, ↓deb_itev, ↓deb_itel, ↓deb_loop, ↓deb_fail, ↓deb_nilcv, nilE_some, opE_some, debP_nil, debP_cons, pushL_nil, pushL_cons, retE_some, iteE_some, evB_nil, evB_v, evB_l, lkE_cons, consE_some, d_int, d_bool, d_str, d_nil, o_add, o_sub, o_mul, o_and, o_or, o_xor, o_andNot, o_quo, o_rem, o_shl, o_shr, o_eql, o_neq, o_lss, o_leq, o_gtr, o_geq, o_seql, o_sneq, o_slss, o_sleq, o_sgtr, o_sgeq, o_beql, o_bneq, o_scat, o_not, o_neg, o_com, o_conv, o_s2b, o_b2s, o_len, o_slen, o_inb, o_idx, o_sidx, o_sub3, o_sub2, o_ssub3, o_ssub2, o_app, o_apps, o_mk, mkE_some, consD_some, mkD_zero, mkD_int, mkD_str, mkD_sl, o_imin, o_imax, o_smin, o_smax, o_eqs, eqsE_some, eqC_nil, andE_some, eqC_int, eqC_bool, eqC_str, j1, outE_some, outE_none, outE_ite, agE_1, loopE_1, agE_2, loopE_2, agE_3, loopE_3, agE_4, loopE_4, agE_5, loopE_5, agE_6, loopE_6, agE_7, loopE_7, agE_8, loopE_8, agE_9, loopE_9, List.cons_append, List.nil_append, List.append_nil, split, List.take_succ_cons, List.take_zero, List.drop_succ_cons, List.drop_zero, h15, g1]
  by_cases g2 : (200 : Int) < y1.length
  · simp [↓den_start, ↓deb_op, ↓deb_ret, ↓deb_jump, ↓deb_itev, ↓deb_itel, ↓deb_loop, ↓deb_fail, ↓deb_nilcv, nilE_some, opE_some, debP_nil, debP_cons, pushL_nil, pushL_cons, retE_some, iteE_some, evB_nil, evB_v, evB_l, lkE_cons, consE_some, d_int, d_bool, d_str, d_nil, o_add, o_sub, o_mul, o_and, o_or, o_xor, o_andNot, o_quo, o_rem, o_shl, o_shr, o_eql, o_neq, o_lss, o_leq, o_gtr, o_geq, o_seql, o_sneq, o_slss, o_sleq, o_sgtr, o_sgeq, o_beql, o_bneq, o_scat, o_not, o_neg, o_com, o_conv, o_s2b, o_b2s, o_len, o_slen, o_inb, o_idx, o_sidx, o_sub3, o_sub2, o_ssub3, o_ssub2, o_app, o_apps, o_mk, mkE_some, consD_some, mkD_zero, mkD_int, mkD_str, mkD_sl, o_imin, o_imax, o_smin, o_smax, o_eqs, eqsE_some, eqC_nil, andE_some, eqC_int, eqC_bool, eqC_str, j1, outE_some, outE_none, outE_ite, agE_1, loopE_1, agE_2, loopE_2, agE_3, loopE_3, agE_4, loopE_4, agE_5, loopE_5, agE_6, loopE_6, agE_7, loopE_7, agE_8, loopE_8, agE_9, loopE_9, List.cons_append, List.nil_append, List.append_nil, split, List.take_succ_cons, List.take_zero, List.drop_succ_cons, List.drop_zero, h15, g1, g2]
  have k16 := h16 x0 x1 x2 x3 x4 x5 h0 h1
  have k18 := h18 x0 y0 x1 y1 x2 x3 x4 x5 y2 y3 y4 y5 (by omega)
  by_cases hc : cErr x0 x1 x2 x3 x4 x5 = 0
  · rw [if_pos hc] at k16
    have k22 := h22 x0 x1 x2 x3 x4 x5 hc h0 h1
    have k21 := h21 (putC x0 x1 x2 x3 x4 x5) (putC x0 x1 x2 x3 x4 x5) (putC_len hc)
    simp [↓den_start, ↓deb_op, ↓deb_ret, ↓deb_jump, ↓deb_itev, ↓deb_itel, ↓deb_loop, ↓deb_fail, ↓deb_nilcv, nilE_some, opE_some, debP_nil, debP_cons, pushL_nil, pushL_cons, retE_some, iteE_some, evB_nil, evB_v, evB_l, lkE_cons, consE_some, d_int, d_bool, d_str, d_nil, o_add, o_sub, o_mul, o_and, o_or, o_xor, o_andNot, o_quo, o_rem, o_shl, o_shr, o_eql, o_neq, o_lss, o_leq, o_gtr, o_geq, o_seql, o_sneq, o_slss, o_sleq, o_sgtr, o_sgeq, o_beql, o_bneq, o_scat, o_not, o_neg, o_com, o_conv, o_s2b, o_b2s, o_len, o_slen, o_inb, o_idx, o_sidx, o_sub3, o_sub2, o_ssub3, o_ssub2, o_app, o_apps, o_mk, mkE_some, consD_some, mkD_zero, mkD_int, mkD_str, mkD_sl, o_imin, o_imax, o_smin, o_smax, o_eqs, eqsE_some, eqC_nil, andE_some, eqC_int, eqC_bool, eqC_str, j1, outE_some, outE_none, outE_ite, agE_1, loopE_1, agE_2, loopE_2, agE_3, loopE_3, agE_4, loopE_4, agE_5, loopE_5, agE_6, loopE_6, agE_7, loopE_7, agE_8, loopE_8, agE_9, loopE_9, List.cons_append, List.nil_append, List.append_nil, split, List.take_succ_cons, List.take_zero, List.drop_succ_cons, List.drop_zero, h15, g1, g2, k16, k18, h17, h19, h20, hc, k22, k21]
  · rw [if_neg hc] at k16
    have hc1 : cErr x0 x1 x2 x3 x4 x5 = 1 := by rcases cErr_01 x0 x1 x2 x3 x4 x5 with h | h; exact absurd h hc; exact h
    simp [↓den_start, ↓deb_op, ↓deb_ret, ↓deb_jump, ↓deb_itev, ↓deb_itel, ↓deb_loop, ↓deb_fail, ↓deb_nilcv, nilE_some, opE_some, debP_nil, debP_cons, pushL_nil, pushL_cons, retE_some, iteE_some, evB_nil, evB_v, evB_l, lkE_cons, consE_some, d_int, d_bool, d_str, d_nil, o_add, o_sub, o_mul, o_and, o_or, o_xor, o_andNot, o_quo, o_rem, o_shl, o_shr, o_eql, o_neq, o_lss, o_leq, o_gtr, o_geq, o_seql, o_sneq, o_slss, o_sleq, o_sgtr, o_sgeq, o_beql, o_bneq, o_scat, o_not, o_neg, o_com, o_conv, o_s2b, o_b2s, o_len, o_slen, o_inb, o_idx, o_sidx, o_sub3, o_sub2, o_ssub3, o_ssub2, o_app, o_apps, o_mk, mkE_some, consD_some, mkD_zero, mkD_int, mkD_str, mkD_sl, o_imin, o_imax, o_smin, o_smax, o_eqs, eqsE_some, eqC_nil, andE_some, eqC_int, eqC_bool, eqC_str, j1, outE_some, outE_none, outE_ite, agE_1, loopE_1, agE_2, loopE_2, agE_3, loopE_3, agE_4, loopE_4, agE_5, loopE_5, agE_6, loopE_6, agE_7, loopE_7, agE_8, loopE_8, agE_9, loopE_9, List.cons_append, List.nil_append, List.append_nil, split, List.take_succ_cons, List.take_zero, List.drop_succ_cons, List.drop_zero, h15, g1, g2, k16, k18, h17, h19, h20, hc1]
theorem s3 {lc : List Ct} (hl0 : look (lc.map fun c => (c.sig.id, c)) 3 = some c3) : ∀ (x0 y0 : Bool) (x1 y1 : List Int) (x2 x3 x4 x5 y2 y3 y4 y5 : Int) (h0 : 0 ≤ x5) (h1 : x5 < 4294967296), Does1 (Phi lc) 3 [⟨.bool, x0⟩, ⟨.sl (.int .u8), x1⟩, ⟨.int .i64, x2⟩, ⟨.int .i64, x3⟩, ⟨.int .i64, x4⟩, ⟨.int .u32, x5⟩, ⟨.bool, y0⟩, ⟨.sl (.int .u8), y1⟩, ⟨.int .i64, y2⟩, ⟨.int .i64, y3⟩, ⟨.int .i64, y4⟩, ⟨.int .u32, y5⟩] [⟨.bool, true⟩] :=
  fun x0 y0 x1 y1 x2 x3 x4 x5 y2 y3 y4 y5 h0 h1 => Does1.of hl0 (f3 x0 y0 x1 y1 x2 x3 x4 x5 y2 y3 y4 y5 h0 h1) rfl
end Go.Proofs.Ytdjknicjnaiomaa.Sx

/- The function that calls itself: a number's bytes. -/
namespace Go.Proofs.Ytdjknicjnaiomaa.Sx
theorem rec71 : ∀ (n : Nat) (u : Int), 0 ≤ u → u < 18446744073709551616 → u.toNat < 128 ^ (n + 1) → Frec sig71 [] ir71 (n + 1) [⟨.int .u64, u⟩] = some [⟨.sl (.int .u8), one u.toNat⟩]
  | 0, u, h0, h1, hu => by
    simp only [Frec, Fof, ir71]
    have hs : u < 128 := by simp at hu; omega
    rw [one_small (by omega), show ((u.toNat : Nat) : Int) = u by omega]
    simp [↓den_start, ↓deb_op, ↓deb_ret, ↓deb_jump, ↓deb_itev, ↓deb_itel, ↓deb_loop, ↓deb_fail, ↓deb_nilcv, nilE_some, opE_some, debP_nil, debP_cons, pushL_nil, pushL_cons, retE_some, iteE_some, evB_nil, evB_v, evB_l, lkE_cons, consE_some, d_int, d_bool, d_str, d_nil, o_add, o_sub, o_mul, o_and, o_or, o_xor, o_andNot, o_quo, o_rem, o_shl, o_shr, o_eql, o_neq, o_lss, o_leq, o_gtr, o_geq, o_seql, o_sneq, o_slss, o_sleq, o_sgtr, o_sgeq, o_beql, o_bneq, o_scat, o_not, o_neg, o_com, o_conv, o_s2b, o_b2s, o_len, o_slen, o_inb, o_idx, o_sidx, o_sub3, o_sub2, o_ssub3, o_ssub2, o_app, o_apps, o_mk, mkE_some, consD_some, mkD_zero, mkD_int, mkD_str, mkD_sl, o_imin, o_imax, o_smin, o_smax, o_eqs, eqsE_some, eqC_nil, andE_some, eqC_int, eqC_bool, eqC_str, j1, outE_some, outE_none, outE_ite, agE_1, loopE_1, agE_2, loopE_2, agE_3, loopE_3, agE_4, loopE_4, agE_5, loopE_5, agE_6, loopE_6, agE_7, loopE_7, agE_8, loopE_8, agE_9, loopE_9, List.cons_append, List.nil_append, List.append_nil, split, List.take_succ_cons, List.take_zero, List.drop_succ_cons, List.drop_zero, hs, wu8]
    exact (by omega : u % 256 = u)
  | n + 1, u, h0, h1, hu => by
    by_cases hs : u < 128
    · rw [one_small (by omega), show ((u.toNat : Nat) : Int) = u by omega]
      simp only [Frec, Fof, ir71]
      simp [↓den_start, ↓deb_op, ↓deb_ret, ↓deb_jump, ↓deb_itev, ↓deb_itel, ↓deb_loop, ↓deb_fail, ↓deb_nilcv, nilE_some, opE_some, debP_nil, debP_cons, pushL_nil, pushL_cons, retE_some, iteE_some, evB_nil, evB_v, evB_l, lkE_cons, consE_some, d_int, d_bool, d_str, d_nil, o_add, o_sub, o_mul, o_and, o_or, o_xor, o_andNot, o_quo, o_rem, o_shl, o_shr, o_eql, o_neq, o_lss, o_leq, o_gtr, o_geq, o_seql, o_sneq, o_slss, o_sleq, o_sgtr, o_sgeq, o_beql, o_bneq, o_scat, o_not, o_neg, o_com, o_conv, o_s2b, o_b2s, o_len, o_slen, o_inb, o_idx, o_sidx, o_sub3, o_sub2, o_ssub3, o_ssub2, o_app, o_apps, o_mk, mkE_some, consD_some, mkD_zero, mkD_int, mkD_str, mkD_sl, o_imin, o_imax, o_smin, o_smax, o_eqs, eqsE_some, eqC_nil, andE_some, eqC_int, eqC_bool, eqC_str, j1, outE_some, outE_none, outE_ite, agE_1, loopE_1, agE_2, loopE_2, agE_3, loopE_3, agE_4, loopE_4, agE_5, loopE_5, agE_6, loopE_6, agE_7, loopE_7, agE_8, loopE_8, agE_9, loopE_9, List.cons_append, List.nil_append, List.append_nil, split, List.take_succ_cons, List.take_zero, List.drop_succ_cons, List.drop_zero, hs, wu8]
      exact (by omega : u % 256 = u)
    · have ih := rec71 n (u / 128) (by omega) (by omega) (by
        rw [show (u / 128).toNat = u.toNat / 128 by omega, Nat.div_lt_iff_lt_mul (by omega), ← Nat.pow_succ]
        exact hu)
      have h71 : Does1 (Phi [⟨sig71, Frec sig71 [] ir71 (n + 1)⟩]) 71 [⟨.int .u64, u / 128⟩] [⟨.sl (.int .u8), one (u / 128).toNat⟩] := Does1.of rfl ih rfl
      have hb := one_len10 (u / 128).toNat (by omega)
      have hb' : 1 + (one (u / 128).toNat).length ≤ BIG := by simp only [BIG]; omega
      have hg : Frec sig71 [] ir71 (n + 1 + 1) [⟨.int .u64, u⟩] = den (Phi [⟨sig71, Frec sig71 [] ir71 (n + 1)⟩]) ir71 (List D) 0 [⟨.int .u64, u⟩] some (fun _ _ => none) := rfl
      rw [hg]
      generalize Frec sig71 [] ir71 (n + 1) = G at h71
      simp only [ir71]
      simp [↓den_start, ↓deb_op, ↓deb_ret, ↓deb_jump, ↓deb_itev, ↓deb_itel, ↓deb_loop, ↓deb_fail, ↓deb_nilcv, nilE_some, opE_some, debP_nil, debP_cons, pushL_nil, pushL_cons, retE_some, iteE_some, evB_nil, evB_v, evB_l, lkE_cons, consE_some, d_int, d_bool, d_str, d_nil, o_add, o_sub, o_mul, o_and, o_or, o_xor, o_andNot, o_quo, o_rem, o_shl, o_shr, o_eql, o_neq, o_lss, o_leq, o_gtr, o_geq, o_seql, o_sneq, o_slss, o_sleq, o_sgtr, o_sgeq, o_beql, o_bneq, o_scat, o_not, o_neg, o_com, o_conv, o_s2b, o_b2s, o_len, o_slen, o_inb, o_idx, o_sidx, o_sub3, o_sub2, o_ssub3, o_ssub2, o_app, o_apps, o_mk, mkE_some, consD_some, mkD_zero, mkD_int, mkD_str, mkD_sl, o_imin, o_imax, o_smin, o_smax, o_eqs, eqsE_some, eqC_nil, andE_some, eqC_int, eqC_bool, eqC_str, j1, outE_some, outE_none, outE_ite, agE_1, loopE_1, agE_2, loopE_2, agE_3, loopE_3, agE_4, loopE_4, agE_5, loopE_5, agE_6, loopE_6, agE_7, loopE_7, agE_8, loopE_8, agE_9, loopE_9, List.cons_append, List.nil_append, List.append_nil, split, List.take_succ_cons, List.take_zero, List.drop_succ_cons, List.drop_zero, hs, wu8, td u 128 h0, tm u 128 h0, wu64 (u / 128) (by omega) (by omega), h71, hb']
      have e : one u.toNat = (u % 128 + 128) :: one (u / 128).toNat := by
        rw [one_big (by omega), show (u / 128).toNat = u.toNat / 128 by omega]
        congr 1
        omega
      rw [e, show (u % 128 + 128) % 256 = u % 128 + 128 by omega]

theorem go71 (u : Int) (h0 : 0 ≤ u) (h1 : u < 18446744073709551616) : ∃ n, Frec sig71 [] ir71 n [⟨.int .u64, u⟩] = some [⟨.sl (.int .u8), one u.toNat⟩] :=
  ⟨10, rec71 9 u h0 h1 (by omega)⟩

theorem any71 (ds rs : List D) (h : F71 ds = some rs) : ∃ n, Frec sig71 [] ir71 n ds = some rs := by
  unfold F71 at h
  split at h
  · split at h
    · rename_i u hu
      simp only [Option.some.injEq] at h
      subst h
      exact go71 u hu.1 hu.2
    · cases h
  · cases h
end Go.Proofs.Ytdjknicjnaiomaa.Sx
