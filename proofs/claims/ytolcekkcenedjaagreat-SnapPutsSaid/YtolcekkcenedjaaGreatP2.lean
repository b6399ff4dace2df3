/-
  Items and blocks: their bytes, and what is read back.
-/
import Derived.Test.YtolcekkcenedjaaGreatP1
set_option linter.unusedVariables false
set_option linter.unusedSimpArgs false
namespace Go.Proofs.YtolcekkcenedjaaGreat.Sx
def sig28 : Sig := { id := 28, ins := [(false, (Ty.str.pair (Ty.bool.pair (Ty.bool.pair ((Ty.int .u8).sl.pair ((Ty.int .i64).pair ((Ty.int .i64).pair ((Ty.int .i64).pair (Ty.int .u32)))))))).sl)], outs := [(false, [(Ty.bool, none)])] }
def ir28 : IR := .loop [.l (.int .i64 0)] [Ty.int .i64] (.op .len [.v 0] (.op (.icmp .lss) [.v 1, .v 2] (.ite (.v 3) (.op (.icmp .leq) [.v 1, .l (.int .i64 100)] (.ite (.v 4) (.op .inb [.v 0, .v 1] (.op (.idx (Ty.str.pair (Ty.bool.pair (Ty.bool.pair ((Ty.int .u8).sl.pair ((Ty.int .i64).pair ((Ty.int .i64).pair ((Ty.int .i64).pair (Ty.int .u32))))))))) [.v 0, .v 1] (.op .len [.v 5] (.op (.icmp .gtr) [.v 13, .l (.int .i64 200)] (.ite (.v 14) (.ret [.l (.bool false)]) (.op .inb [.v 0, .v 1] (.op (.idx (Ty.str.pair (Ty.bool.pair (Ty.bool.pair ((Ty.int .u8).sl.pair ((Ty.int .i64).pair ((Ty.int .i64).pair ((Ty.int .i64).pair (Ty.int .u32))))))))) [.v 0, .v 1] (.op .len [.v 18] (.op (.icmp .gtr) [.v 23, .l (.int .i64 200)] (.ite (.v 24) (.ret [.l (.bool false)]) (.op (.ibin .add .i64) [.v 1, .l (.int .i64 1)] (.jump 0 [.v 25])))))))))))) (.op .len [.v 0] (.op (.icmp .leq) [.v 5, .l (.int .i64 100)] (.ret [.v 6]))))) (.op .len [.v 0] (.op (.icmp .leq) [.v 4, .l (.int .i64 100)] (.ret [.v 5]))))))
def sig30 : Sig := { id := 30, ins := [(false, Ty.str), (false, Ty.str)], outs := [(false, [(Ty.int .i64, none)])] }
def ir30 : IR := .op .len [.v 0] (.op .len [.v 1] (.op .min [.v 2, .v 3] (.loop [.l (.int .i64 0)] [Ty.int .i64] (.op (.icmp .lss) [.v 5, .v 4] (.ite (.v 6) (.op .sidx [.v 0, .v 5] (.op .sidx [.v 1, .v 5] (.op (.icmp .neq) [.v 7, .v 8] (.ite (.v 9) (.ret [.v 5]) (.op (.ibin .add .i64) [.v 5, .l (.int .i64 1)] (.jump 0 [.v 10])))))) (.ret [.v 4]))))))
def sig31 : Sig := { id := 31, ins := [(false, Ty.str), (false, Ty.str)], outs := [(false, [(Ty.int .i64, none)])] }
def ir31 : IR := .loop [.l (.int .i64 0)] [Ty.int .i64] (.op .len [.v 0] (.op (.icmp .lss) [.v 2, .v 3] (.ite (.v 4) (.op .len [.v 1] (.op (.icmp .lss) [.v 2, .v 5] (.ite (.v 6) (.op .sidx [.v 0, .v 2] (.op .sidx [.v 1, .v 2] (.op (.icmp .eql) [.v 7, .v 8] (.ite (.v 9) (.op (.ibin .add .i64) [.v 2, .l (.int .i64 1)] (.jump 0 [.v 10])) (.ret [.v 2]))))) (.ret [.v 2])))) (.ret [.v 2]))))
def sig98 : Sig := { id := 98, ins := [(true, Ty.str.pair (Ty.bool.pair (Ty.bool.pair ((Ty.int .u8).sl.pair ((Ty.int .i64).pair ((Ty.int .i64).pair ((Ty.int .i64).pair (Ty.int .u32))))))))], outs := [(false, [(Ty.int .i64, none)])] }
def ir98 : IR := .op (.scmp .eql) [.v 0, .l (.str [])] (.ite (.v 8) (.ret [.l (.int .i64 1)]) (.op .len [.v 0] (.op (.icmp .gtr) [.v 9, .l (.int .i64 64)] (.ite (.v 10) (.ret [.l (.int .i64 1)]) (.ite (.v 1) (.op (.call 17) [.v 2, .v 3, .v 4, .v 5, .v 6, .v 7, .l (.bool false), .l (.nil (Ty.int .u8)), .l (.int .i64 0), .l (.int .i64 0), .l (.int .i64 0), .l (.int .u32 0)] (.op .not [.v 11] (.ite (.v 12) (.ret [.l (.int .i64 1)]) (.op (.call 20) [.v 2, .v 3, .v 4, .v 5, .v 6, .v 7] (.ret [.v 13]))))) (.op (.call 20) [.v 2, .v 3, .v 4, .v 5, .v 6, .v 7] (.ret [.v 11])))))))
def sig75 : Sig := { id := 75, ins := [(false, (Ty.str.pair (Ty.bool.pair (Ty.bool.pair ((Ty.int .u8).sl.pair ((Ty.int .i64).pair ((Ty.int .i64).pair ((Ty.int .i64).pair (Ty.int .u32)))))))).sl)], outs := [(false, [(Ty.bool, none)])] }
def ir75 : IR := .op .len [.v 0] (.loop [.l (.int .i64 0)] [Ty.int .i64] (.op (.icmp .lss) [.v 2, .v 1] (.ite (.v 3) (.op .inb [.v 0, .v 2] (.op (.idx (Ty.str.pair (Ty.bool.pair (Ty.bool.pair ((Ty.int .u8).sl.pair ((Ty.int .i64).pair ((Ty.int .i64).pair ((Ty.int .i64).pair (Ty.int .u32))))))))) [.v 0, .v 2] (.op (.call 98) [.v 4, .v 5, .v 6, .v 7, .v 8, .v 9, .v 10, .v 11] (.op (.icmp .neq) [.v 12, .l (.int .i64 0)] (.ite (.v 13) (.ret [.l (.bool false)]) (.op (.icmp .gtr) [.v 2, .l (.int .i64 0)] (.ite (.v 14) (.op (.ibin .sub .i64) [.v 2, .l (.int .i64 1)] (.op .inb [.v 0, .v 15] (.op (.idx (Ty.str.pair (Ty.bool.pair (Ty.bool.pair ((Ty.int .u8).sl.pair ((Ty.int .i64).pair ((Ty.int .i64).pair ((Ty.int .i64).pair (Ty.int .u32))))))))) [.v 0, .v 15] (.op (.scmp .geq) [.v 16, .v 4] (.ite (.v 24) (.ret [.l (.bool false)]) (.op (.ibin .add .i64) [.v 2, .l (.int .i64 1)] (.jump 0 [.v 25]))))))) (.op (.ibin .add .i64) [.v 2, .l (.int .i64 1)] (.jump 0 [.v 15]))))))))) (.ret [.l (.bool true)]))))
def sig76 : Sig := { id := 76, ins := [(true, Ty.str.pair (Ty.bool.pair (Ty.bool.pair ((Ty.int .u8).sl.pair ((Ty.int .i64).pair ((Ty.int .i64).pair ((Ty.int .i64).pair (Ty.int .u32))))))))], outs := [(false, [(Ty.int .u8, none)])] }
def ir76 : IR := .ite (.v 1) (.ret [.l (.int .u8 1)]) (.ret [.l (.int .u8 0)])
def sig32 : Sig := { id := 32, ins := [(false, (Ty.str.pair (Ty.bool.pair (Ty.bool.pair ((Ty.int .u8).sl.pair ((Ty.int .i64).pair ((Ty.int .i64).pair ((Ty.int .i64).pair (Ty.int .u32)))))))).sl)], outs := [(false, [((Ty.int .u8).sl, some 5)]), (false, [(Ty.int .i64, none)])] }
def ir32 : IR := .op .len [.v 0] (.op (.icmp .lss) [.v 1, .l (.int .i64 1)] (.ite (.v 2) (.ret [.l (.nil (Ty.int .u8)), .l (.int .i64 1)]) (.op .len [.v 0] (.op (.icmp .gtr) [.v 3, .l (.int .i64 256)] (.ite (.v 4) (.ret [.l (.nil (Ty.int .u8)), .l (.int .i64 1)]) (.op (.call 75) [.v 0] (.op .not [.v 5] (.ite (.v 6) (.ret [.l (.nil (Ty.int .u8)), .l (.int .i64 1)]) (.op .len [.v 0] (.op (.conv .u64) [.v 7] (.op (.mk (Ty.int .u64) 1) [.v 8] (.op (.call 66) [.v 9] (.op .len [.v 0] (.loop [.v 10, .l (.str []), .l (.int .i64 0)] [(Ty.int .u8).sl, Ty.str, Ty.int .i64] (.op (.icmp .lss) [.v 14, .v 11] (.ite (.v 15) (.op .inb [.v 0, .v 14] (.op (.idx (Ty.str.pair (Ty.bool.pair (Ty.bool.pair ((Ty.int .u8).sl.pair ((Ty.int .i64).pair ((Ty.int .i64).pair ((Ty.int .i64).pair (Ty.int .u32))))))))) [.v 0, .v 14] (.op (.call 30) [.v 13, .v 16] (.op (.conv .u64) [.v 24] (.op .len [.v 16] (.op (.ibin .sub .i64) [.v 26, .v 24] (.op (.conv .u64) [.v 27] (.op (.mk (Ty.int .u64) 2) [.v 25, .v 28] (.op (.call 66) [.v 29] (.op .app [.v 12, .v 30] (.op .ssub [.v 16, .v 24] (.op .apps [.v 31, .v 32] (.op (.call 76) [.v 16, .v 17, .v 18, .v 19, .v 20, .v 21, .v 22, .v 23] (.op (.mk (Ty.int .u8) 1) [.v 34] (.op .app [.v 33, .v 35] (.op .not [.v 17] (.ite (.v 37) (.op (.call 16) [.v 18, .v 19, .v 20, .v 21, .v 22, .v 23] (.op .app [.v 36, .v 38] (.op (.ibin .add .i64) [.v 14, .l (.int .i64 1)] (.jump 0 [.v 40, .v 16, .v 41])))) (.op (.ibin .add .i64) [.v 14, .l (.int .i64 1)] (.jump 0 [.v 36, .v 16, .v 38]))))))))))))))))))) (.ret [.v 12, .l (.int .i64 0)])))))))))))))))))
def sig124 : Sig := { id := 124, ins := [(true, Ty.str.pair (Ty.bool.pair (Ty.bool.pair ((Ty.int .u8).sl.pair ((Ty.int .i64).pair ((Ty.int .i64).pair ((Ty.int .i64).pair (Ty.int .u32))))))))], outs := [(false, [(Ty.bool, none)])] }
def ir124 : IR := .op (.scmp .neq) [.v 0, .l (.str [])] (.ite (.v 8) (.op .len [.v 0] (.op (.icmp .leq) [.v 9, .l (.int .i64 64)] (.ite (.v 10) (.op (.call 19) [.v 2, .v 3, .v 4, .v 5, .v 6, .v 7] (.ite (.v 11) (.op .not [.v 1] (.ite (.v 12) (.ret [.l (.bool true)]) (.op (.call 18) [.v 2, .v 3, .v 4, .v 5, .v 6, .v 7, .l (.bool false), .l (.nil (Ty.int .u8)), .l (.int .i64 0), .l (.int .i64 0), .l (.int .i64 0), .l (.int .u32 0)] (.ret [.v 13])))) (.ret [.l (.bool false)]))) (.ret [.l (.bool false)])))) (.ret [.l (.bool false)]))
def sig77 : Sig := { id := 77, ins := [(false, (Ty.str.pair (Ty.bool.pair (Ty.bool.pair ((Ty.int .u8).sl.pair ((Ty.int .i64).pair ((Ty.int .i64).pair ((Ty.int .i64).pair (Ty.int .u32)))))))).sl)], outs := [(false, [(Ty.bool, none)])] }
def ir77 : IR := .loop [.l (.int .i64 0)] [Ty.int .i64] (.op .len [.v 0] (.op (.icmp .lss) [.v 1, .v 2] (.ite (.v 3) (.op .inb [.v 0, .v 1] (.op (.idx (Ty.str.pair (Ty.bool.pair (Ty.bool.pair ((Ty.int .u8).sl.pair ((Ty.int .i64).pair ((Ty.int .i64).pair ((Ty.int .i64).pair (Ty.int .u32))))))))) [.v 0, .v 1] (.op (.call 124) [.v 4, .v 5, .v 6, .v 7, .v 8, .v 9, .v 10, .v 11] (.op .not [.v 12] (.ite (.v 13) (.ret [.l (.bool false)]) (.op (.icmp .gtr) [.v 1, .l (.int .i64 0)] (.ite (.v 14) (.op (.ibin .sub .i64) [.v 1, .l (.int .i64 1)] (.op .inb [.v 0, .v 15] (.op (.idx (Ty.str.pair (Ty.bool.pair (Ty.bool.pair ((Ty.int .u8).sl.pair ((Ty.int .i64).pair ((Ty.int .i64).pair ((Ty.int .i64).pair (Ty.int .u32))))))))) [.v 0, .v 15] (.op .inb [.v 0, .v 1] (.op (.idx (Ty.str.pair (Ty.bool.pair (Ty.bool.pair ((Ty.int .u8).sl.pair ((Ty.int .i64).pair ((Ty.int .i64).pair ((Ty.int .i64).pair (Ty.int .u32))))))))) [.v 0, .v 1] (.op (.scmp .geq) [.v 16, .v 24] (.ite (.v 32) (.ret [.l (.bool false)]) (.op (.ibin .add .i64) [.v 1, .l (.int .i64 1)] (.jump 0 [.v 33]))))))))) (.op (.ibin .add .i64) [.v 1, .l (.int .i64 1)] (.jump 0 [.v 15]))))))))) (.ret [.l (.bool true)]))))
def sig33 : Sig := { id := 33, ins := [(false, (Ty.str.pair (Ty.bool.pair (Ty.bool.pair ((Ty.int .u8).sl.pair ((Ty.int .i64).pair ((Ty.int .i64).pair ((Ty.int .i64).pair (Ty.int .u32)))))))).sl)], outs := [(false, [(Ty.bool, none)])] }
def ir33 : IR := .op .len [.v 0] (.op (.icmp .geq) [.v 1, .l (.int .i64 1)] (.ite (.v 2) (.op .len [.v 0] (.op (.icmp .leq) [.v 3, .l (.int .i64 256)] (.ite (.v 4) (.op (.call 77) [.v 0] (.ret [.v 5])) (.ret [.l (.bool false)])))) (.ret [.l (.bool false)])))
def sig34 : Sig := { id := 34, ins := [(false, (Ty.str.pair (Ty.bool.pair (Ty.bool.pair ((Ty.int .u8).sl.pair ((Ty.int .i64).pair ((Ty.int .i64).pair ((Ty.int .i64).pair (Ty.int .u32)))))))).sl)], outs := [(false, [((Ty.int .u8).sl, some 5)])] }
def ir34 : IR := .op .len [.v 0] (.op (.conv .u64) [.v 1] (.op (.call 71) [.v 2] (.loop [.v 3, .l (.int .i64 0)] [(Ty.int .u8).sl, Ty.int .i64] (.op .len [.v 0] (.op (.icmp .lss) [.v 5, .v 6] (.ite (.v 7) (.op (.icmp .gtr) [.v 5, .l (.int .i64 0)] (.ite (.v 8) (.op (.ibin .sub .i64) [.v 5, .l (.int .i64 1)] (.op .inb [.v 0, .v 9] (.op (.idx (Ty.str.pair (Ty.bool.pair (Ty.bool.pair ((Ty.int .u8).sl.pair ((Ty.int .i64).pair ((Ty.int .i64).pair ((Ty.int .i64).pair (Ty.int .u32))))))))) [.v 0, .v 9] (.op .inb [.v 0, .v 5] (.op (.idx (Ty.str.pair (Ty.bool.pair (Ty.bool.pair ((Ty.int .u8).sl.pair ((Ty.int .i64).pair ((Ty.int .i64).pair ((Ty.int .i64).pair (Ty.int .u32))))))))) [.v 0, .v 5] (.op (.call 31) [.v 10, .v 18] (.op (.conv .u64) [.v 26] (.op (.call 71) [.v 27] (.op .app [.v 4, .v 28] (.op .inb [.v 0, .v 5] (.op (.idx (Ty.str.pair (Ty.bool.pair (Ty.bool.pair ((Ty.int .u8).sl.pair ((Ty.int .i64).pair ((Ty.int .i64).pair ((Ty.int .i64).pair (Ty.int .u32))))))))) [.v 0, .v 5] (.op .len [.v 30] (.op (.ibin .sub .i64) [.v 38, .v 26] (.op (.conv .u64) [.v 39] (.op (.call 71) [.v 40] (.op .app [.v 29, .v 41] (.op .inb [.v 0, .v 5] (.op (.idx (Ty.str.pair (Ty.bool.pair (Ty.bool.pair ((Ty.int .u8).sl.pair ((Ty.int .i64).pair ((Ty.int .i64).pair ((Ty.int .i64).pair (Ty.int .u32))))))))) [.v 0, .v 5] (.op .ssub [.v 43, .v 26] (.op .apps [.v 42, .v 51] (.op .inb [.v 0, .v 5] (.op (.idx (Ty.str.pair (Ty.bool.pair (Ty.bool.pair ((Ty.int .u8).sl.pair ((Ty.int .i64).pair ((Ty.int .i64).pair ((Ty.int .i64).pair (Ty.int .u32))))))))) [.v 0, .v 5] (.ite (.v 54) (.op (.mk (Ty.int .u8) 1) [.l (.int .u8 1)] (.op .app [.v 52, .v 61] (.op (.ibin .add .i64) [.v 5, .l (.int .i64 1)] (.jump 0 [.v 62, .v 63])))) (.op (.mk (Ty.int .u8) 1) [.l (.int .u8 0)] (.op .app [.v 52, .v 61] (.op .inb [.v 0, .v 5] (.op (.idx (Ty.str.pair (Ty.bool.pair (Ty.bool.pair ((Ty.int .u8).sl.pair ((Ty.int .i64).pair ((Ty.int .i64).pair ((Ty.int .i64).pair (Ty.int .u32))))))))) [.v 0, .v 5] (.op (.call 22) [.v 65, .v 66, .v 67, .v 68, .v 69, .v 70] (.op .app [.v 62, .v 71] (.op (.ibin .add .i64) [.v 5, .l (.int .i64 1)] (.jump 0 [.v 72, .v 73]))))))))))))))))))))))))))))))) (.op (.conv .u64) [.l (.int .i64 0)] (.op (.call 71) [.v 9] (.op .app [.v 4, .v 10] (.op .inb [.v 0, .v 5] (.op (.idx (Ty.str.pair (Ty.bool.pair (Ty.bool.pair ((Ty.int .u8).sl.pair ((Ty.int .i64).pair ((Ty.int .i64).pair ((Ty.int .i64).pair (Ty.int .u32))))))))) [.v 0, .v 5] (.op .len [.v 12] (.op (.ibin .sub .i64) [.v 20, .l (.int .i64 0)] (.op (.conv .u64) [.v 21] (.op (.call 71) [.v 22] (.op .app [.v 11, .v 23] (.op .inb [.v 0, .v 5] (.op (.idx (Ty.str.pair (Ty.bool.pair (Ty.bool.pair ((Ty.int .u8).sl.pair ((Ty.int .i64).pair ((Ty.int .i64).pair ((Ty.int .i64).pair (Ty.int .u32))))))))) [.v 0, .v 5] (.op .ssub [.v 25, .l (.int .i64 0)] (.op .apps [.v 24, .v 33] (.op .inb [.v 0, .v 5] (.op (.idx (Ty.str.pair (Ty.bool.pair (Ty.bool.pair ((Ty.int .u8).sl.pair ((Ty.int .i64).pair ((Ty.int .i64).pair ((Ty.int .i64).pair (Ty.int .u32))))))))) [.v 0, .v 5] (.ite (.v 36) (.op (.mk (Ty.int .u8) 1) [.l (.int .u8 1)] (.op .app [.v 34, .v 43] (.op (.ibin .add .i64) [.v 5, .l (.int .i64 1)] (.jump 0 [.v 44, .v 45])))) (.op (.mk (Ty.int .u8) 1) [.l (.int .u8 0)] (.op .app [.v 34, .v 43] (.op .inb [.v 0, .v 5] (.op (.idx (Ty.str.pair (Ty.bool.pair (Ty.bool.pair ((Ty.int .u8).sl.pair ((Ty.int .i64).pair ((Ty.int .i64).pair ((Ty.int .i64).pair (Ty.int .u32))))))))) [.v 0, .v 5] (.op (.call 22) [.v 47, .v 48, .v 49, .v 50, .v 51, .v 52] (.op .app [.v 44, .v 53] (.op (.ibin .add .i64) [.v 5, .l (.int .i64 1)] (.jump 0 [.v 54, .v 55]))))))))))))))))))))))))))) (.ret [.v 4])))))))
noncomputable def F28 : List D → Option (List D) := Fof [] ir28
noncomputable def c28 : Ct := ⟨sig28, F28⟩
noncomputable def F30 : List D → Option (List D) := Fof [] ir30
noncomputable def c30 : Ct := ⟨sig30, F30⟩
noncomputable def F31 : List D → Option (List D) := Fof [] ir31
noncomputable def c31 : Ct := ⟨sig31, F31⟩
noncomputable def F98 : List D → Option (List D) := Fof [c17, c20] ir98
noncomputable def c98 : Ct := ⟨sig98, F98⟩
noncomputable def F75 : List D → Option (List D) := Fof [c98] ir75
noncomputable def c75 : Ct := ⟨sig75, F75⟩
noncomputable def F76 : List D → Option (List D) := Fof [] ir76
noncomputable def c76 : Ct := ⟨sig76, F76⟩
noncomputable def F32 : List D → Option (List D) := Fof [c75, c66, c30, c76, c16] ir32
noncomputable def c32 : Ct := ⟨sig32, F32⟩
noncomputable def F124 : List D → Option (List D) := Fof [c19, c18] ir124
noncomputable def c124 : Ct := ⟨sig124, F124⟩
noncomputable def F77 : List D → Option (List D) := Fof [c124] ir77
noncomputable def c77 : Ct := ⟨sig77, F77⟩
noncomputable def F33 : List D → Option (List D) := Fof [c77] ir33
noncomputable def c33 : Ct := ⟨sig33, F33⟩
noncomputable def F34 : List D → Option (List D) := Fof [c71, c31, c22] ir34
noncomputable def c34 : Ct := ⟨sig34, F34⟩
end Go.Proofs.YtolcekkcenedjaaGreat.Sx

namespace Go.Proofs.YtolcekkcenedjaaGreat.Sx

abbrev CellT : Ty := .pair .bool (.pair (.sl (.int .u8)) (.pair (.int .i64) (.pair (.int .i64) (.pair (.int .i64) (.int .u32)))))
abbrev ItT : Ty := .pair .str (.pair .bool CellT)
abbrev It : Type := List Int × Bool × Bool × List Int × Int × Int × Int × Int

theorem getG {α : Type} {l : List α} {i : Int} {d : α} (h0 : 0 ≤ i) (h1 : i < l.length) : l[i.toNat]?.getD d = l[i.toNat]'(by omega) := by
  rw [List.getElem?_eq_getElem (by omega)]; rfl

def alike : List Int → List Int → Nat
  | a :: x, b :: y => if a = b then alike x y + 1 else 0
  | _, _ => 0

theorem alike_le : ∀ (x y : List Int), alike x y ≤ x.length ∧ alike x y ≤ y.length
  | [], _ => by simp [alike]
  | _ :: _, [] => by simp [alike]
  | a :: x, b :: y => by
    have := alike_le x y
    simp only [alike, List.length_cons]
    split <;> omega

theorem alike_nil (y : List Int) : alike [] y = 0 := by simp [alike]
theorem alike_nil' (x : List Int) : alike x [] = 0 := by cases x <;> simp [alike]

theorem f31 (x y : List Int) (hx : x.length < 1000000000000) : F31 [⟨.str, x⟩, ⟨.str, y⟩] = some [⟨.int .i64, alike x y⟩] := by
  simp only [F31, Fof, ir31]
  simp -implicitDefEqProofs
  refine (iter_meas (fun s : Int => (x.length - s).toNat) (fun s => ([⟨.int .i64, s + alike (x.drop s.toNat) (y.drop s.toNat)⟩] : List D)) (fun s => 0 ≤ s ∧ s ≤ x.length ∧ s ≤ y.length) (by exact ⟨by omega, by omega, by omega⟩) ?_).trans (by simp)
  rintro i ⟨h1, h2, h3⟩
  by_cases hi : i < x.length
  · by_cases hj : i < y.length
    · rw [if_pos hi, if_pos hj, if_pos ⟨h1, hi⟩, if_pos ⟨h1, hj⟩, getI h1 hi, getI h1 hj, dropI h1 hi, dropI (l := y) h1 hj]
      by_cases he : x[i.toNat]'(by omega) = y[i.toNat]'(by omega)
      · rw [if_pos he]
        refine .inl ⟨i + 1, by rw [wi64 (i + 1) (by omega) (by omega)], ⟨by omega, by omega, by omega⟩, by omega, ?_⟩
        simp only [alike, if_pos he]
        generalize alike _ _ = A
        rw [show i + 1 + (A : Int) = i + ((A + 1 : Nat) : Int) by omega]
      · rw [if_neg he]
        refine .inr ?_
        simp only [alike, if_neg he]
        simp
    · rw [if_pos hi, if_neg hj, List.drop_eq_nil_of_le (as := y) (by omega), alike_nil']
      exact .inr (by simp)
  · rw [if_neg hi, List.drop_eq_nil_of_le (as := x) (by omega), alike_nil]
    exact .inr (by simp)
theorem s31 {lc : List Ct} (hl0 : look (lc.map fun c => (c.sig.id, c)) 31 = some c31) : ∀ (x y : List Int) (hx : x.length < 1000000000000), Does1 (Phi lc) 31 [⟨.str, x⟩, ⟨.str, y⟩] [⟨.int .i64, alike x y⟩] :=
  fun x y hx => by
    have eFc : c31.F = F31 := rfl
    have eFh := f31 x y hx
    rw [← eFc] at eFh
    exact Does1.of hl0 eFh rfl
theorem f30 (x y : List Int) (hx : x.length < 1000000000000) : F30 [⟨.str, x⟩, ⟨.str, y⟩] = some [⟨.int .i64, alike x y⟩] := by
  simp only [F30, Fof, ir30]
  simp -implicitDefEqProofs
  have hm : (if y.length < x.length then (y.length : Int) else x.length) = min (x.length : Int) y.length := by split <;> omega
  simp only [hm]
  refine (iter_meas (fun s : Int => (x.length - s).toNat) (fun s => ([⟨.int .i64, s + alike (x.drop s.toNat) (y.drop s.toNat)⟩] : List D)) (fun s => 0 ≤ s ∧ s ≤ x.length ∧ s ≤ y.length) (by exact ⟨by omega, by omega, by omega⟩) ?_).trans (by simp)
  rintro i ⟨h1, h2, h3⟩
  by_cases hi : i < min (x.length : Int) y.length
  · have hx' : i < x.length := by omega
    have hj : i < y.length := by omega
    rw [if_pos hi, if_pos ⟨h1, hx'⟩, if_pos ⟨h1, hj⟩, getI h1 hx', getI h1 hj, dropI h1 hx', dropI (l := y) h1 hj]
    by_cases he : x[i.toNat]'(by omega) = y[i.toNat]'(by omega)
    · rw [if_pos he]
      refine .inl ⟨i + 1, by rw [wi64 (i + 1) (by omega) (by omega)], ⟨by omega, by omega, by omega⟩, by omega, ?_⟩
      simp only [alike, if_pos he]
      generalize alike _ _ = A
      rw [show i + 1 + (A : Int) = i + ((A + 1 : Nat) : Int) by omega]
    · rw [if_neg he]
      refine .inr ?_
      simp only [alike, if_neg he]
      simp
  · rw [if_neg hi]
    refine .inr ?_
    by_cases hxx : i < x.length
    · rw [List.drop_eq_nil_of_le (as := y) (by omega), alike_nil']
      rw [show min (x.length : Int) y.length = i + ((0 : Nat) : Int) by omega]
    · rw [List.drop_eq_nil_of_le (as := x) (by omega), alike_nil]
      rw [show min (x.length : Int) y.length = i + ((0 : Nat) : Int) by omega]
theorem s30 {lc : List Ct} (hl0 : look (lc.map fun c => (c.sig.id, c)) 30 = some c30) : ∀ (x y : List Int) (hx : x.length < 1000000000000), Does1 (Phi lc) 30 [⟨.str, x⟩, ⟨.str, y⟩] [⟨.int .i64, alike x y⟩] :=
  fun x y hx => by
    have eFc : c30.F = F30 := rfl
    have eFh := f30 x y hx
    rw [← eFc] at eFh
    exact Does1.of hl0 eFh rfl

def iErr (k : List Int) (d f : Bool) (b : List Int) (s a n m : Int) : Int :=
  if k = [] ∨ 64 < k.length ∨ (d = true ∧ ¬ (f = false ∧ b = [] ∧ s = 0 ∧ a = 0 ∧ n = 0 ∧ m = 0)) then 1 else cErr f b s a n m

theorem f98 (k : List Int) (d f : Bool) (b : List Int) (s a n m : Int) : F98 [⟨.str, k⟩, ⟨.bool, d⟩, ⟨.bool, f⟩, ⟨.sl (.int .u8), b⟩, ⟨.int .i64, s⟩, ⟨.int .i64, a⟩, ⟨.int .i64, n⟩, ⟨.int .u32, m⟩] = some [⟨.int .i64, iErr k d f b s a n m⟩] := by
  have h17 := s17 (lc := [c17, c20]) rfl
  have h20 := s20 (lc := [c17, c20]) rfl
  simp only [F98, Fof, ir98]
  generalize Phi [c17, c20] = Φ at *
  have k17 := h17 f false b [] s a n m 0 0 0 0
  have e17 : (f == false && decide (s = 0 ∧ a = 0 ∧ n = 0 ∧ m = 0) && decide (b = [])) = decide (f = false ∧ b = [] ∧ s = 0 ∧ a = 0 ∧ n = 0 ∧ m = 0) := by
    rw [Bool.eq_iff_iff]; simp; constructor
    · rintro ⟨⟨rfl, h⟩, rfl⟩; exact ⟨rfl, rfl, h⟩
    · rintro ⟨rfl, rfl, h⟩; exact ⟨⟨rfl, h⟩, rfl⟩
  rw [e17] at k17
  unfold iErr
  by_cases h1 : k = []
  · simp -implicitDefEqProofs [h1]
  by_cases h2 : (64 : Int) < k.length
  · have h2' : 64 < k.length := by omega
    simp -implicitDefEqProofs [h1, h2, h2']
  have h2' : ¬ 64 < k.length := by omega
  cases d
  · simp -implicitDefEqProofs [h1, h2, h2', h20]
  · by_cases h3 : f = false ∧ b = [] ∧ s = 0 ∧ a = 0 ∧ n = 0 ∧ m = 0
    · rw [if_neg (by rintro (h | h | h); exact h1 h; exact h2' h; exact h.2 h3)]
      obtain ⟨rfl, rfl, rfl, rfl, rfl, rfl⟩ := h3
      simp at k17
      simp -implicitDefEqProofs [h1, h2, h20, k17]
    · rw [decide_eq_false h3] at k17
      rw [if_pos (.inr (.inr ⟨rfl, h3⟩))]
      simp -implicitDefEqProofs [h1, h2, k17]
theorem s98 {lc : List Ct} (hl0 : look (lc.map fun c => (c.sig.id, c)) 98 = some c98) : ∀ (k : List Int) (d f : Bool) (b : List Int) (s a n m : Int), Does1 (Phi lc) 98 [⟨.str, k⟩, ⟨.bool, d⟩, ⟨.bool, f⟩, ⟨.sl (.int .u8), b⟩, ⟨.int .i64, s⟩, ⟨.int .i64, a⟩, ⟨.int .i64, n⟩, ⟨.int .u32, m⟩] [⟨.int .i64, iErr k d f b s a n m⟩] :=
  fun k d f b s a n m => by
    have eFc : c98.F = F98 := rfl
    have eFh := f98 k d f b s a n m
    rw [← eFc] at eFh
    exact Does1.of hl0 eFh rfl
theorem f124 (k : List Int) (d f : Bool) (b : List Int) (s a n m : Int) (hb : b.length < 1000000000) : F124 [⟨.str, k⟩, ⟨.bool, d⟩, ⟨.bool, f⟩, ⟨.sl (.int .u8), b⟩, ⟨.int .i64, s⟩, ⟨.int .i64, a⟩, ⟨.int .i64, n⟩, ⟨.int .u32, m⟩] = some [⟨.bool, decide (iErr k d f b s a n m = 0)⟩] := by
  have h19 := s19 (lc := [c19, c18]) rfl
  have h18 := s18 (lc := [c19, c18]) rfl
  simp only [F124, Fof, ir124]
  generalize Phi [c19, c18] = Φ at *
  have k18 := h18 f false b [] s a n m 0 0 0 0 hb
  have k19 := h19 f b s a n m
  have e18 : (f == false && decide (s = 0 ∧ a = 0 ∧ n = 0 ∧ m = 0) && decide (b = [])) = decide (f = false ∧ b = [] ∧ s = 0 ∧ a = 0 ∧ n = 0 ∧ m = 0) := by
    rw [Bool.eq_iff_iff]; simp; constructor
    · rintro ⟨⟨rfl, h⟩, rfl⟩; exact ⟨rfl, rfl, h⟩
    · rintro ⟨rfl, rfl, h⟩; exact ⟨⟨rfl, h⟩, rfl⟩
  rw [e18] at k18
  by_cases h1 : k = []
  · have : ¬ iErr k d f b s a n m = 0 := by unfold iErr; rw [if_pos (.inl h1)]; omega
    simp -implicitDefEqProofs [h1, ← decide_not]
    subst h1; exact this
  by_cases h2 : (64 : Int) < k.length
  · have : ¬ iErr k d f b s a n m = 0 := by unfold iErr; rw [if_pos (.inr (.inl (by omega)))]; omega
    have h2' : ¬ (k.length : Int) ≤ 64 := by omega
    simp -implicitDefEqProofs [h1, h2', this]
  have h2' : (k.length : Int) ≤ 64 := by omega
  by_cases hc : cErr f b s a n m = 0
  · rw [decide_eq_true hc] at k19
    cases d
    · have : iErr k false f b s a n m = 0 := by unfold iErr; rw [if_neg (by rintro (h | h | h); exact h1 h; omega; cases h.1)]; exact hc
      simp -implicitDefEqProofs [h1, h2', k19, this]
    · by_cases h3 : f = false ∧ b = [] ∧ s = 0 ∧ a = 0 ∧ n = 0 ∧ m = 0
      · have : iErr k true f b s a n m = 0 := by unfold iErr; rw [if_neg (by rintro (h | h | h); exact h1 h; omega; exact h.2 h3)]; exact hc
        rw [decide_eq_true h3] at k18
        simp -implicitDefEqProofs [h1, h2', k19, k18, this]
      · have : ¬ iErr k true f b s a n m = 0 := by unfold iErr; rw [if_pos (.inr (.inr ⟨rfl, h3⟩))]; omega
        rw [decide_eq_false h3] at k18
        simp -implicitDefEqProofs [h1, h2', k19, k18, this]
  · rw [decide_eq_false hc] at k19
    have : ¬ iErr k d f b s a n m = 0 := by
      unfold iErr; split
      · omega
      · exact hc
    simp -implicitDefEqProofs [h1, h2', k19, this]
theorem s124 {lc : List Ct} (hl0 : look (lc.map fun c => (c.sig.id, c)) 124 = some c124) : ∀ (k : List Int) (d f : Bool) (b : List Int) (s a n m : Int) (hb : b.length < 1000000000), Does1 (Phi lc) 124 [⟨.str, k⟩, ⟨.bool, d⟩, ⟨.bool, f⟩, ⟨.sl (.int .u8), b⟩, ⟨.int .i64, s⟩, ⟨.int .i64, a⟩, ⟨.int .i64, n⟩, ⟨.int .u32, m⟩] [⟨.bool, decide (iErr k d f b s a n m = 0)⟩] :=
  fun k d f b s a n m hb => by
    have eFc : c124.F = F124 := rfl
    have eFh := f124 k d f b s a n m hb
    rw [← eFc] at eFh
    exact Does1.of hl0 eFh rfl
theorem f76 (k : List Int) (d f : Bool) (b : List Int) (s a n m : Int) : F76 [⟨.str, k⟩, ⟨.bool, d⟩, ⟨.bool, f⟩, ⟨.sl (.int .u8), b⟩, ⟨.int .i64, s⟩, ⟨.int .i64, a⟩, ⟨.int .i64, n⟩, ⟨.int .u32, m⟩] = some [⟨.int .u8, if d = true then 1 else 0⟩] := by
  simp only [F76, Fof, ir76]
  cases d <;> simp -implicitDefEqProofs
theorem s76 {lc : List Ct} (hl0 : look (lc.map fun c => (c.sig.id, c)) 76 = some c76) : ∀ (k : List Int) (d f : Bool) (b : List Int) (s a n m : Int), Does1 (Phi lc) 76 [⟨.str, k⟩, ⟨.bool, d⟩, ⟨.bool, f⟩, ⟨.sl (.int .u8), b⟩, ⟨.int .i64, s⟩, ⟨.int .i64, a⟩, ⟨.int .i64, n⟩, ⟨.int .u32, m⟩] [⟨.int .u8, if d = true then 1 else 0⟩] :=
  fun k d f b s a n m => by
    have eFc : c76.F = F76 := rfl
    have eFh := f76 k d f b s a n m
    rw [← eFc] at eFh
    exact Does1.of hl0 eFh rfl

def itErr (x : It) : Int := iErr x.1 x.2.1 x.2.2.1 x.2.2.2.1 x.2.2.2.2.1 x.2.2.2.2.2.1 x.2.2.2.2.2.2.1 x.2.2.2.2.2.2.2
def srt : Option (List Int) → List It → Bool
  | _, [] => true
  | p, x :: r => decide (itErr x = 0) && (match p with | none => true | some k => ltL k x.1) && srt (some x.1) r
def prevK (l : List It) (i : Int) : Option (List Int) := if i ≤ 0 then none else (l[i.toNat - 1]?).map (·.1)

theorem prevK_succ {l : List It} {i : Int} (h0 : 0 ≤ i) (h1 : i < l.length) : prevK l (i + 1) = some (l[i.toNat]'(by omega)).1 := by
  unfold prevK
  rw [if_neg (by omega), show (i + 1).toNat - 1 = i.toNat by omega, List.getElem?_eq_getElem (by omega)]; rfl

theorem srt_step {l : List It} {i : Int} (h0 : 0 ≤ i) (h1 : i < l.length) : srt (prevK l i) (l.drop i.toNat) =
    (decide (itErr (l[i.toNat]'(by omega)) = 0) && (if i ≤ 0 then true else ltL ((l[i.toNat - 1]?.map (·.1)).getD []) (l[i.toNat]'(by omega)).1) && srt (prevK l (i + 1)) (l.drop (i + 1).toNat)) := by
  rw [dropI h0 h1, prevK_succ h0 h1]
  simp only [srt]
  congr 2
  unfold prevK
  by_cases h : i ≤ 0
  · rw [if_pos h, if_pos h]
  · rw [if_neg h, if_neg h, List.getElem?_eq_getElem (by omega)]; rfl

def lightL (l : List It) : Bool := decide (l.length ≤ 100) && l.all fun x => decide (x.1.length ≤ 200 ∧ x.2.2.2.1.length ≤ 200)

theorem f75 (l : List It) (hl : l.length < 1000000) : F75 [⟨.sl ItT, l⟩] = some [⟨.bool, srt none l⟩] := by
  have h98 := s98 (lc := [c98]) rfl
  simp only [F75, Fof, ir75]
  generalize Phi [c98] = Φ at *
  simp -implicitDefEqProofs
  refine (iter_meas (fun s : Int => (l.length - s).toNat) (fun s => ([⟨.bool, srt (prevK l s) (l.drop s.toNat)⟩] : List D)) (fun s => 0 ≤ s ∧ s ≤ l.length) (by exact ⟨by omega, by omega⟩) ?_).trans (by simp [prevK])
  rintro i ⟨h1, h2⟩
  by_cases hi : i < l.length
  · rw [if_pos hi, if_pos ⟨h1, hi⟩]
    have hg := getG (d := dflt ItT) h1 hi
    have hst := srt_step h1 hi
    simp only [hg]
    have hx : l[i.toNat]? = some (l[i.toNat]'(by omega)) := List.getElem?_eq_getElem (by omega)
    generalize l[i.toNat]'(by omega) = x at *
    obtain ⟨k, d, f, b, s, a, n, m⟩ := x
    have k98 := h98 k d f b s a n m
    rw [hst]
    simp only [itErr]
    have ei : IntKind.i64.wrap (i + 1) = i + 1 := wi64 _ (by omega) (by omega)
    have em : IntKind.i64.wrap (i - 1) = i - 1 := wi64 _ (by omega) (by omega)
    by_cases hz : iErr k d f b s a n m = 0
    · by_cases h0 : 0 < i
      · have hb1 : 0 ≤ i - 1 ∧ i - 1 < (l.length : Int) := by omega
        obtain ⟨y, hp⟩ : ∃ y, l[i.toNat - 1]? = some y := ⟨_, List.getElem?_eq_getElem (by omega)⟩
        have h0' : ¬ i ≤ 0 := by omega
        have hi1 : 1 ≤ i := by omega
        by_cases hlt : ltL y.1 k = true
        · refine .inl ⟨i + 1, ?_, ⟨by omega, by omega⟩, by omega, by simp [hz, h0', hp, hlt]⟩
          simp -implicitDefEqProofs [k98, hz, h0, em, ei, hb1, hp, hlt, hx, hi1]
        · have hlt : ltL y.1 k = false := by simpa using hlt
          refine .inr ?_
          simp -implicitDefEqProofs [k98, hz, h0, em, ei, hb1, hp, hlt, hx, h0', hi1]
      · have h0' : i ≤ 0 := by omega
        refine .inl ⟨i + 1, ?_, ⟨by omega, by omega⟩, by omega, by simp [hz, h0']⟩
        simp -implicitDefEqProofs [k98, hz, h0, ei]
    · refine .inr ?_
      simp -implicitDefEqProofs [k98, hz]
  · rw [if_neg hi, List.drop_eq_nil_of_le (by omega), srt]
    exact .inr rfl
theorem s75 {lc : List Ct} (hl0 : look (lc.map fun c => (c.sig.id, c)) 75 = some c75) : ∀ (l : List It) (hl : l.length < 1000000), Does1 (Phi lc) 75 [⟨.sl ItT, l⟩] [⟨.bool, srt none l⟩] :=
  fun l hl => by
    have eFc : c75.F = F75 := rfl
    have eFh := f75 l hl
    rw [← eFc] at eFh
    exact Does1.of hl0 eFh rfl
theorem f77 (l : List It) (hl : l.length < 1000000) (hb : ∀ x ∈ l, x.2.2.2.1.length < 1000000000) : F77 [⟨.sl ItT, l⟩] = some [⟨.bool, srt none l⟩] := by
  have h124 := s124 (lc := [c124]) rfl
  simp only [F77, Fof, ir77]
  generalize Phi [c124] = Φ at *
  simp -implicitDefEqProofs
  refine (iter_meas (fun s : Int => (l.length - s).toNat) (fun s => ([⟨.bool, srt (prevK l s) (l.drop s.toNat)⟩] : List D)) (fun s => 0 ≤ s ∧ s ≤ l.length) (by exact ⟨by omega, by omega⟩) ?_).trans (by simp [prevK])
  rintro i ⟨h1, h2⟩
  by_cases hi : i < l.length
  · rw [if_pos hi, if_pos ⟨h1, hi⟩]
    have hg := getG (d := dflt ItT) h1 hi
    have hst := srt_step h1 hi
    simp only [hg]
    have hx : l[i.toNat]? = some (l[i.toNat]'(by omega)) := List.getElem?_eq_getElem (by omega)
    have hbx := hb (l[i.toNat]'(by omega)) (List.getElem_mem _)
    generalize hxe : l[i.toNat]'(by omega) = x at *
    obtain ⟨k, d, f, b, s, a, n, m⟩ := x
    have k124 := h124 k d f b s a n m hbx
    rw [hst]
    simp only [itErr]
    have ei : IntKind.i64.wrap (i + 1) = i + 1 := wi64 _ (by omega) (by omega)
    have em : IntKind.i64.wrap (i - 1) = i - 1 := wi64 _ (by omega) (by omega)
    by_cases hz : iErr k d f b s a n m = 0
    · rw [decide_eq_true hz] at k124
      by_cases h0 : 0 < i
      · have hb1 : 0 ≤ i - 1 ∧ i - 1 < (l.length : Int) := by omega
        obtain ⟨y, hp⟩ : ∃ y, l[i.toNat - 1]? = some y := ⟨_, List.getElem?_eq_getElem (by omega)⟩
        have h0' : ¬ i ≤ 0 := by omega
        have hi1 : 1 ≤ i := by omega
        by_cases hlt : ltL y.1 k = true
        · refine .inl ⟨i + 1, ?_, ⟨by omega, by omega⟩, by omega, by simp [hz, h0', hp, hlt]⟩
          simp -implicitDefEqProofs [k124, hz, h0, h1, hi, em, ei, hb1, hp, hlt, hx, hxe, hi1]
        · have hlt : ltL y.1 k = false := by simpa using hlt
          refine .inr ?_
          simp -implicitDefEqProofs [k124, hz, h0, h1, hi, em, ei, hb1, hp, hlt, hx, hxe, h0', hi1]
      · have h0' : i ≤ 0 := by omega
        refine .inl ⟨i + 1, ?_, ⟨by omega, by omega⟩, by omega, by simp [hz, h0']⟩
        simp -implicitDefEqProofs [k124, hz, h0, ei]
    · rw [decide_eq_false hz] at k124
      refine .inr ?_
      simp -implicitDefEqProofs [k124, hz]
  · rw [if_neg hi, List.drop_eq_nil_of_le (by omega), srt]
    exact .inr rfl
theorem s77 {lc : List Ct} (hl0 : look (lc.map fun c => (c.sig.id, c)) 77 = some c77) : ∀ (l : List It) (hl : l.length < 1000000) (hb : ∀ x ∈ l, x.2.2.2.1.length < 1000000000), Does1 (Phi lc) 77 [⟨.sl ItT, l⟩] [⟨.bool, srt none l⟩] :=
  fun l hl hb => by
    have eFc : c77.F = F77 := rfl
    have eFh := f77 l hl hb
    rw [← eFc] at eFh
    exact Does1.of hl0 eFh rfl
theorem f33 (l : List It) (hl : l.length < 1000000) (hb : ∀ x ∈ l, x.2.2.2.1.length < 1000000000) : F33 [⟨.sl ItT, l⟩] = some [⟨.bool, decide (1 ≤ l.length ∧ l.length ≤ 256) && srt none l⟩] := by
  have h77 := s77 (lc := [c77]) rfl
  simp only [F33, Fof, ir33]
  generalize Phi [c77] = Φ at *
  have k77 := h77 l hl hb
  by_cases c1 : (1 : Int) ≤ l.length <;> by_cases c2 : (l.length : Int) ≤ 256
  · have e : 1 ≤ l.length ∧ l.length ≤ 256 := by omega
    simp -implicitDefEqProofs [k77, c1, c2, e]
  · have e : ¬ (1 ≤ l.length ∧ l.length ≤ 256) := by omega
    rw [decide_eq_false e]
    simp -implicitDefEqProofs [k77, c1, c2]
  · have e : ¬ (1 ≤ l.length ∧ l.length ≤ 256) := by omega
    rw [decide_eq_false e]
    simp -implicitDefEqProofs [k77, c1, c2]
  · omega
theorem s33 {lc : List Ct} (hl0 : look (lc.map fun c => (c.sig.id, c)) 33 = some c33) : ∀ (l : List It) (hl : l.length < 1000000) (hb : ∀ x ∈ l, x.2.2.2.1.length < 1000000000), Does1 (Phi lc) 33 [⟨.sl ItT, l⟩] [⟨.bool, decide (1 ≤ l.length ∧ l.length ≤ 256) && srt none l⟩] :=
  fun l hl hb => by
    have eFc : c33.F = F33 := rfl
    have eFh := f33 l hl hb
    rw [← eFc] at eFh
    exact Does1.of hl0 eFh rfl
theorem f28 (l : List It) : F28 [⟨.sl ItT, l⟩] = some [⟨.bool, lightL l⟩] := by
  simp only [F28, Fof, ir28]
  simp -implicitDefEqProofs
  refine (iter_meas (fun s : Int => (l.length - s).toNat) (fun s => ([⟨.bool, decide (l.length ≤ 100) && (l.drop s.toNat).all fun x ↦ decide (x.1.length ≤ 200 ∧ x.2.2.2.1.length ≤ 200)⟩] : List D)) (fun s => 0 ≤ s ∧ s ≤ l.length) (by exact ⟨by omega, by omega⟩) ?_).trans (by simp [lightL])
  rintro i ⟨h1, h2⟩
  by_cases hi : i < l.length
  · by_cases h100 : i ≤ 100
    · rw [if_pos hi, if_pos h100, if_pos ⟨h1, hi⟩]
      have hg := getG (d := dflt ItT) h1 hi
      rw [dropI h1 hi]
      simp only [hg]
      generalize l[i.toNat]'(by omega) = x at *
      have ei : IntKind.i64.wrap (i + 1) = i + 1 := wi64 _ (by omega) (by omega)
      by_cases c1 : (200 : Int) < x.1.length
      · have c1' : ¬ x.1.length ≤ 200 := by omega
        exact .inr (by simp [c1, c1'])
      by_cases c2 : (200 : Int) < x.2.2.2.1.length
      · have c2' : ¬ x.2.2.2.1.length ≤ 200 := by omega
        refine .inr ?_
        rw [if_neg c1, if_pos ⟨h1, hi⟩, if_pos c2]
        simp [c2']
      · have c1' : x.1.length ≤ 200 := by omega
        have c2' : x.2.2.2.1.length ≤ 200 := by omega
        refine .inl ⟨i + 1, ?_, ⟨by omega, by omega⟩, by omega, by simp [c1', c2']⟩
        rw [if_neg c1, if_pos ⟨h1, hi⟩, if_neg c2, ei]
    · have e : ¬ (l.length : Int) ≤ 100 := by omega
      have e' : ¬ l.length ≤ 100 := by omega
      refine .inr ?_
      rw [if_pos hi, if_neg h100, decide_eq_false e, decide_eq_false e', Bool.false_and]
  · refine .inr ?_
    rw [if_neg hi, List.drop_eq_nil_of_le (by omega)]
    simp
    omega
theorem s28 {lc : List Ct} (hl0 : look (lc.map fun c => (c.sig.id, c)) 28 = some c28) : ∀ (l : List It), Does1 (Phi lc) 28 [⟨.sl ItT, l⟩] [⟨.bool, lightL l⟩] :=
  fun l => by
    have eFc : c28.F = F28 := rfl
    have eFh := f28 l
    rw [← eFc] at eFh
    exact Does1.of hl0 eFh rfl
end Go.Proofs.YtolcekkcenedjaaGreat.Sx

namespace Go.Proofs.YtolcekkcenedjaaGreat.Sx

def encI (last : List Int) (x : It) : List Int :=
  putL [(alike last x.1 : Int), (x.1.length : Int) - alike last x.1] ++ (x.1.drop (alike last x.1) ++
    (if x.2.1 = true then [1] else 0 :: putC x.2.2.1 x.2.2.2.1 x.2.2.2.2.1 x.2.2.2.2.2.1 x.2.2.2.2.2.2.1 x.2.2.2.2.2.2.2))
def encL : List Int → List It → List Int
  | _, [] => []
  | last, x :: r => encI last x ++ encL x.1 r

theorem srt_ok : ∀ (p : Option (List Int)) (l : List It), srt p l = true → ∀ x ∈ l, itErr x = 0
  | _, [], _, x, h => by cases h
  | p, y :: r, h, x, hx => by
    simp only [srt, Bool.and_eq_true, decide_eq_true_eq] at h
    rcases List.mem_cons.1 hx with rfl | hx
    · exact h.1.1
    · exact srt_ok _ r h.2 x hx

theorem iErr_ok {k : List Int} {d f : Bool} {b : List Int} {s a n m : Int} (h : iErr k d f b s a n m = 0) : 1 ≤ k.length ∧ k.length ≤ 64 ∧ cErr f b s a n m = 0 := by
  unfold iErr at h
  split at h
  · cases h
  · rename_i hn
    refine ⟨?_, by omega, h⟩
    cases k with
    | nil => exact absurd (.inl rfl) hn
    | cons => simp

theorem f32 (l : List It) (hl : l.length < 1000000) (hm : ∀ x ∈ l, 0 ≤ x.2.2.2.2.2.2.2 ∧ x.2.2.2.2.2.2.2 < 4294967296) : F32 [⟨.sl ItT, l⟩] = some [⟨.sl (.int .u8), if 1 ≤ l.length ∧ l.length ≤ 256 ∧ srt none l = true then putL [(l.length : Int)] ++ encL [] l else []⟩, ⟨.int .i64, if 1 ≤ l.length ∧ l.length ≤ 256 ∧ srt none l = true then 0 else 1⟩] := by
  have h75 := s75 (lc := [c75, c66, c30, c76, c16]) rfl
  have h66 := s66 (lc := [c75, c66, c30, c76, c16]) rfl
  have h30 := s30 (lc := [c75, c66, c30, c76, c16]) rfl
  have h76 := s76 (lc := [c75, c66, c30, c76, c16]) rfl
  have h16 := s16 (lc := [c75, c66, c30, c76, c16]) rfl
  simp only [F32, Fof, ir32]
  generalize Phi [c75, c66, c30, c76, c16] = Φ at *
  have k75 := h75 l hl
  by_cases c1 : (l.length : Int) < 1
  · rw [if_neg (by omega), if_neg (by omega)]; simp -implicitDefEqProofs [c1]
  by_cases c2 : (256 : Int) < l.length
  · rw [if_neg (by omega), if_neg (by omega)]; simp -implicitDefEqProofs [c1, c2]
  by_cases c3 : srt none l = true
  · have hc : 1 ≤ l.length ∧ l.length ≤ 256 ∧ srt none l = true := ⟨by omega, by omega, c3⟩
    rw [if_pos hc, if_pos hc]
    rw [c3] at k75
    have k66 := h66 [(l.length : Int)] (by simp; omega) (by simp)
    have hp1 := putL_len [(l.length : Int)] (by simp; omega)
    simp at hp1
    simp -implicitDefEqProofs [c1, c2, k75, k66, wu64 (l.length : Int) (by omega) (by omega)]
    refine (iter_meas (fun s : List Int × List Int × Int => (l.length - s.2.2).toNat) (fun s => ([⟨.sl (.int .u8), s.1 ++ encL s.2.1 (l.drop s.2.2.toNat)⟩, ⟨.int .i64, 0⟩] : List D))
      (fun s => 0 ≤ s.2.2 ∧ s.2.2 ≤ l.length ∧ s.1.length ≤ 20 + s.2.2.toNat * 1000000100 ∧ s.2.1.length ≤ 64) (by exact ⟨by simp, by simp, by simp; omega, by simp⟩) ?_).trans (by simp)
    rintro ⟨b0, last, i⟩ ⟨h1, h2, h3, h4⟩
    simp only at h1 h2 h3 h4 ⊢
    by_cases hi : i < l.length
    · rw [if_pos hi, if_pos ⟨h1, hi⟩, dropI h1 hi]
      have hg := getG (d := dflt ItT) h1 hi
      have hxm := hm (l[i.toNat]'(by omega)) (List.getElem_mem _)
      have hxo := srt_ok _ l c3 (l[i.toNat]'(by omega)) (List.getElem_mem _)
      simp only [hg]
      generalize l[i.toNat]'(by omega) = x at *
      obtain ⟨k, d, f, b, s, a, n, m⟩ := x
      simp only [itErr] at hxo
      obtain ⟨q1, q2, q3⟩ := iErr_ok hxo
      obtain ⟨a1, a2⟩ := alike_le last k
      have hC := putC_len q3
      have k30 := h30 last k (by omega)
      have k76 := h76 k d f b s a n m
      have k16 := h16 f b s a n m hxm.1 hxm.2
      rw [if_pos q3] at k16
      have hrange : ∀ u ∈ [(alike last k : Int), (k.length : Int) - alike last k], 0 ≤ u ∧ u < 18446744073709551616 := by
        intro u hu; simp only [List.mem_cons, List.not_mem_nil, or_false] at hu; omega
      have kp := h66 [(alike last k : Int), (k.length : Int) - alike last k] hrange (by simp)
      have hP := putL_len _ hrange
      simp only [encL, encI]
      generalize hA : alike last k = A at *
      have w1 : IntKind.u64.wrap (A : Int) = A := wu64 _ (by omega) (by omega)
      have w2 : IntKind.i64.wrap ((k.length : Int) - A) = (k.length : Int) - A := wi64 _ (by omega) (by omega)
      have w3 : IntKind.u64.wrap ((k.length : Int) - A) = (k.length : Int) - A := wu64 _ (by omega) (by omega)
      have w4 : IntKind.i64.wrap (i + 1) = i + 1 := wi64 _ (by omega) (by omega)
      generalize putL [(A : Int), (k.length : Int) - A] = P at *
      generalize putC f b s a n m = C at *
      simp only [List.length_cons, List.length_nil] at hP
      have hmul : (i + 1).toNat * 1000000100 = i.toNat * 1000000100 + 1000000100 := by omega
      have hib : i.toNat * 1000000100 ≤ 256 * 1000000100 := by omega
      have bA : (A : Int) ≤ k.length := by omega
      have B1 : b0.length + P.length ≤ BIG := by simp only [BIG]; omega
      have B2 : b0.length + P.length + (k.length - A) ≤ BIG := by simp only [BIG]; omega
      have B3 : b0.length + (P.length + (k.length - A)) + 1 ≤ BIG := by simp only [BIG]; omega
      have B4 : b0.length + (P.length + (k.length - A + 1)) + C.length ≤ BIG := by simp only [BIG]; omega
      cases d
      · refine .inl ⟨(b0 ++ (P ++ (k.drop A ++ 0 :: C)), k, i + 1), ?_, ⟨by simp only; omega, by simp only; omega, ?_, by simp only; omega⟩, by simp only; omega, by simp⟩
        · simp -implicitDefEqProofs [k30, kp, k76, k16, w1, w2, w3, w4, bA, a2, B1, B2, B3, B4]
        · simp only [List.length_append, List.length_cons, List.length_drop, hmul]; omega
      · refine .inl ⟨(b0 ++ (P ++ (k.drop A ++ [1])), k, i + 1), ?_, ⟨by simp only; omega, by simp only; omega, ?_, by simp only; omega⟩, by simp only; omega, by simp⟩
        · simp -implicitDefEqProofs [k30, kp, k76, w1, w2, w3, w4, bA, a2, B1, B2, B3]
        · simp only [List.length_append, List.length_cons, List.length_nil, List.length_drop, hmul]; omega
    · refine .inr ?_
      rw [if_neg hi, List.drop_eq_nil_of_le (by omega), encL]
      simp
  · have c3' : srt none l = false := by simpa using c3
    rw [if_neg (fun h => c3 h.2.2), if_neg (fun h => c3 h.2.2)]
    rw [c3'] at k75
    simp -implicitDefEqProofs [c1, c2, k75]
theorem s32 {lc : List Ct} (hl0 : look (lc.map fun c => (c.sig.id, c)) 32 = some c32) : ∀ (l : List It) (hl : l.length < 1000000) (hm : ∀ x ∈ l, 0 ≤ x.2.2.2.2.2.2.2 ∧ x.2.2.2.2.2.2.2 < 4294967296), Does1 (Phi lc) 32 [⟨.sl ItT, l⟩] [⟨.sl (.int .u8), if 1 ≤ l.length ∧ l.length ≤ 256 ∧ srt none l = true then putL [(l.length : Int)] ++ encL [] l else []⟩, ⟨.int .i64, if 1 ≤ l.length ∧ l.length ≤ 256 ∧ srt none l = true then 0 else 1⟩] :=
  fun l hl hm => by
    have eFc : c32.F = F32 := rfl
    have eFh := f32 l hl hm
    rw [← eFc] at eFh
    exact Does1.of hl0 eFh rfl
end Go.Proofs.YtolcekkcenedjaaGreat.Sx

namespace Go.Proofs.YtolcekkcenedjaaGreat.Sx

theorem f34 (l : List It) (hl : l.length ≤ 256) (ho : srt none l = true) (hm : ∀ x ∈ l, 0 ≤ x.2.2.2.2.2.2.2 ∧ x.2.2.2.2.2.2.2 < 4294967296) : F34 [⟨.sl ItT, l⟩] = some [⟨.sl (.int .u8), putL [(l.length : Int)] ++ encL [] l⟩] := by
  have h71 := s71 (lc := [c71, c31, c22]) rfl
  have h31 := s31 (lc := [c71, c31, c22]) rfl
  have h22 := s22 (lc := [c71, c31, c22]) rfl
  simp only [F34, Fof, ir34]
  generalize Phi [c71, c31, c22] = Φ at *
  have k71 := h71 (l.length : Int) (by omega)
  have hp1 := one_len10 l.length (by omega)
  have e1 : putL [(l.length : Int)] = one l.length := by simp [putL]
  rw [e1]
  simp -implicitDefEqProofs [k71, wu64 (l.length : Int) (by omega) (by omega)]
  refine (iter_meas (fun s : List Int × Int => (l.length - s.2).toNat) (fun s => ([⟨.sl (.int .u8), s.1 ++ encL ((prevK l s.2).getD []) (l.drop s.2.toNat)⟩] : List D))
    (fun s => 0 ≤ s.2 ∧ s.2 ≤ l.length ∧ s.1.length ≤ 20 + s.2.toNat * 1000000100) (by exact ⟨by simp, by simp, by simp; omega⟩) ?_).trans (by simp [prevK])
  rintro ⟨b0, i⟩ ⟨h1, h2, h3⟩
  simp only at h1 h2 h3 ⊢
  by_cases hi : i < l.length
  · have hin : 0 ≤ i ∧ i < (l.length : Int) := ⟨h1, hi⟩
    rw [dropI h1 hi]
    have hx : l[i.toNat]? = some (l[i.toNat]'(by omega)) := List.getElem?_eq_getElem (by omega)
    have hxm := hm (l[i.toNat]'(by omega)) (List.getElem_mem _)
    have hxo := srt_ok _ l ho (l[i.toNat]'(by omega)) (List.getElem_mem _)
    have hpk := prevK_succ h1 hi
    generalize hxe : l[i.toNat]'(by omega) = x at *
    obtain ⟨k, d, f, b, s, a, n, m⟩ := x
    simp only [itErr] at hxo
    obtain ⟨q1, q2, q3⟩ := iErr_ok hxo
    have hC := putC_len q3
    have k22 := h22 f b s a n m q3 hxm.1 hxm.2
    have w4 : IntKind.i64.wrap (i + 1) = i + 1 := wi64 _ (by omega) (by omega)
    have hmul : (i + 1).toNat * 1000000100 = i.toNat * 1000000100 + 1000000100 := by omega
    have hib : i.toNat * 1000000100 ≤ 256 * 1000000100 := by omega
    simp only [encL, encI]
    generalize putC f b s a n m = C at *
    by_cases h0 : 0 < i
    · obtain ⟨y, hp⟩ : ∃ y, l[i.toNat - 1]? = some y := ⟨_, List.getElem?_eq_getElem (by omega)⟩
      have hpv : (prevK l i).getD [] = y.1 := by unfold prevK; rw [if_neg (by omega), hp]; rfl
      have hyl : y.1.length ≤ 64 := by
        have hy := srt_ok _ l ho y (List.mem_of_getElem? hp)
        exact (iErr_ok hy).2.1
      have em : IntKind.i64.wrap (i - 1) = i - 1 := wi64 _ (by omega) (by omega)
      have hb1 : 0 ≤ i - 1 ∧ i - 1 < (l.length : Int) := by omega
      have hi1 : 1 ≤ i := by omega
      obtain ⟨a1, a2⟩ := alike_le y.1 k
      have k31 := h31 y.1 k (by omega)
      rw [hpv]
      generalize hA : alike y.1 k = A at *
      have bA : (A : Int) ≤ k.length := by omega
      have w1 : IntKind.u64.wrap (A : Int) = A := wu64 _ (by omega) (by omega)
      have w2 : IntKind.i64.wrap ((k.length : Int) - A) = (k.length : Int) - A := wi64 _ (by omega) (by omega)
      have w3 : IntKind.u64.wrap ((k.length : Int) - A) = (k.length : Int) - A := wu64 _ (by omega) (by omega)
      have k1 := h71 (A : Int) (by omega)
      have k2 := h71 ((k.length : Int) - A) (by omega)
      have l1 := one_len10 (A : Int).toNat (by omega)
      have l2 := one_len10 ((k.length : Int) - A).toNat (by omega)
      have eP : putL [(A : Int), (k.length : Int) - A] = one (A : Int).toNat ++ one ((k.length : Int) - A).toNat := by simp [putL]
      rw [eP]
      generalize one (A : Int).toNat = P1 at *
      generalize one ((k.length : Int) - A).toNat = P2 at *
      have R1 : b0.length + P1.length ≤ BIG := by simp only [BIG]; omega
      have R2 : b0.length + P1.length + P2.length ≤ BIG := by simp only [BIG]; omega
      have R3 : b0.length + (P1.length + P2.length) + (k.length - A) ≤ BIG := by simp only [BIG]; omega
      have R4 : b0.length + (P1.length + (P2.length + (k.length - A))) + 1 ≤ BIG := by simp only [BIG]; omega
      have R5 : b0.length + (P1.length + (P2.length + (k.length - A + 1))) + C.length ≤ BIG := by simp only [BIG]; omega
      cases d
      · refine .inl ⟨(b0 ++ (P1 ++ (P2 ++ (k.drop A ++ 0 :: C))), i + 1), ?_, ⟨by simp only; omega, by simp only; omega, ?_⟩, by simp only; omega, by simp [hpk]⟩
        · simp -implicitDefEqProofs [h0, h1, hi, hin, em, hb1, hi1, hp, hx, hxe, k31, k1, k2, k22, w1, w2, w3, w4, bA, a2, R1, R2, R3, R4, R5]
        · simp only [List.length_append, List.length_cons, List.length_drop, hmul]; omega
      · refine .inl ⟨(b0 ++ (P1 ++ (P2 ++ (k.drop A ++ [1]))), i + 1), ?_, ⟨by simp only; omega, by simp only; omega, ?_⟩, by simp only; omega, by simp [hpk]⟩
        · simp -implicitDefEqProofs [h0, h1, hi, hin, em, hb1, hi1, hp, hx, hxe, k31, k1, k2, w1, w2, w3, w4, bA, a2, R1, R2, R3, R4]
        · simp only [List.length_append, List.length_cons, List.length_nil, List.length_drop, hmul]; omega
    · obtain rfl : i = 0 := by omega
      clear hmul hib w4
      have hpk' : prevK l 1 = some k := hpk
      have e01 : ((0 : Int) + 1).toNat * 1000000100 = 1000000100 := rfl
      simp only [Int.toNat_zero, Nat.zero_mul, Nat.add_zero] at h3
      have hpv : (prevK l 0).getD [] = [] := by simp [prevK]
      rw [hpv, alike_nil]
      have w1 : IntKind.u64.wrap 0 = 0 := wu64 _ (by omega) (by omega)
      have w2 : IntKind.i64.wrap (k.length : Int) = (k.length : Int) := wi64 _ (by omega) (by omega)
      have w3 : IntKind.u64.wrap (k.length : Int) = (k.length : Int) := wu64 _ (by omega) (by omega)
      have k1 := h71 0 (by omega)
      have k2 := h71 (k.length : Int) (by omega)
      have l1 := one_len10 (0 : Int).toNat (by simp)
      have l2 := one_len10 (k.length : Int).toNat (by omega)
      have eP : putL [((0 : Nat) : Int), (k.length : Int) - ((0 : Nat) : Int)] = one (0 : Int).toNat ++ one (k.length : Int).toNat := by simp [putL]
      rw [eP]
      generalize one (0 : Int).toNat = P1 at *
      generalize one (k.length : Int).toNat = P2 at *
      have R1 : b0.length + P1.length ≤ BIG := by simp only [BIG]; omega
      have R2 : b0.length + P1.length + P2.length ≤ BIG := by simp only [BIG]; omega
      have R3 : b0.length + (P1.length + P2.length) + k.length ≤ BIG := by simp only [BIG]; omega
      have R4 : b0.length + (P1.length + (P2.length + k.length)) + 1 ≤ BIG := by simp only [BIG]; omega
      have R5 : b0.length + (P1.length + (P2.length + (k.length + 1))) + C.length ≤ BIG := by simp only [BIG]; omega
      have hl0 : 0 < l.length := by omega
      simp only [Int.toNat_zero] at hx hxe
      cases d
      · refine .inl ⟨(b0 ++ (P1 ++ (P2 ++ (k ++ 0 :: C))), 0 + 1), ?_, ⟨by simp only; omega, by simp only; omega, ?_⟩, by simp only; omega, by simp [hpk']⟩
        · simp -implicitDefEqProofs [hl0, hx, hxe, k1, k2, k22, w1, w2, w3, wi64, R1, R2, R3, R4, R5]
        · simp only [List.length_append, List.length_cons, e01]; omega
      · refine .inl ⟨(b0 ++ (P1 ++ (P2 ++ (k ++ [1]))), 0 + 1), ?_, ⟨by simp only; omega, by simp only; omega, ?_⟩, by simp only; omega, by simp [hpk']⟩
        · simp -implicitDefEqProofs [hl0, hx, hxe, k1, k2, w1, w2, w3, wi64, R1, R2, R3, R4]
        · simp only [List.length_append, List.length_cons, List.length_nil, e01]; omega
  · refine .inr ?_
    rw [if_neg hi, List.drop_eq_nil_of_le (by omega), encL]
    simp
theorem s34 {lc : List Ct} (hl0 : look (lc.map fun c => (c.sig.id, c)) 34 = some c34) (l : List It) (hl : l.length ≤ 256) (ho : srt none l = true) (hm : ∀ x ∈ l, 0 ≤ x.2.2.2.2.2.2.2 ∧ x.2.2.2.2.2.2.2 < 4294967296) :
    Does1 (Phi lc) 34 [⟨.sl ItT, l⟩] [⟨.sl (.int .u8), putL [(l.length : Int)] ++ encL [] l⟩] :=
  have e : c34.F = F34 := rfl
  Does1.of hl0 (by rw [e]; exact f34 l hl ho hm) rfl
end Go.Proofs.YtolcekkcenedjaaGreat.Sx

namespace Go.Proofs.YtolcekkcenedjaaGreat.Sx

theorem putC_len2 {far : Bool} {b : List Int} {s a n m : Int} (h : cErr far b s a n m = 0) : (putC far b s a n m).length ≤ 50 := by
  cases far
  · simp only [cErr, Bool.false_eq_true, if_false] at h
    split at h
    · cases h
    · have := one_len10 b.length (by omega)
      simp [putC]; omega
  · simp only [cErr, if_true] at h
    split at h
    · cases h
    · split at h
      · rename_i hp
        have hp' : 1 ≤ s ∧ s ≤ 2147483647 ∧ 0 ≤ a ∧ a ≤ 2147483647 ∧ 0 ≤ n ∧ n ≤ 4096 := by simpa [pOk] using hp
        have := putL_len [s, a, n] (by intro u hu; simp only [List.mem_cons, List.not_mem_nil, or_false] at hu; omega)
        simp at this
        simp [putC, sum4]; omega
      · cases h

theorem encL_len : ∀ (last : List Int) (l : List It), (∀ x ∈ l, itErr x = 0) → (encL last l).length ≤ 200 * l.length
  | _, [], _ => by simp [encL]
  | last, x :: r, h => by
    have hx := h x (by simp)
    obtain ⟨k, d, f, b, s, a, n, m⟩ := x
    simp only [itErr] at hx
    obtain ⟨q1, q2, q3⟩ := iErr_ok hx
    obtain ⟨a1, a2⟩ := alike_le last k
    have hC := putC_len2 q3
    have hP := putL_len [(alike last k : Int), (k.length : Int) - alike last k] (by intro u hu; simp only [List.mem_cons, List.not_mem_nil, or_false] at hu; omega)
    have ih := encL_len k r (fun x hx => h x (by simp [hx]))
    simp only [List.length_cons, List.length_nil] at hP
    simp only [encL, encI, List.length_append, List.length_drop, List.length_cons]
    split
    · simp only [List.length_cons, List.length_nil]; omega
    · simp only [List.length_cons]; omega

abbrev two : List It := [([97, 98], true, false, [], 0, 0, 0, 0), ([97, 99], true, false, [], 0, 0, 0, 0)]
theorem wf_items {l : List It} (h : Wf (.sl ItT) l) : ∀ x ∈ l, 0 ≤ x.2.2.2.2.2.2.2 ∧ x.2.2.2.2.2.2.2 < 4294967296 := fun x hx => wf_u32 (h.2 x hx).2.2.2.2.2.2.2
end Go.Proofs.YtolcekkcenedjaaGreat.Sx

namespace Go.Proofs.YtolcekkcenedjaaGreat.Sx
def sig97 : Sig := { id := 97, ins := [(false, (Ty.int .u8).sl), (false, Ty.str)], outs := [(true, [(Ty.str, none), (Ty.bool, none), (Ty.bool, none), ((Ty.int .u8).sl, none), (Ty.int .i64, none), (Ty.int .i64, none), (Ty.int .i64, none), (Ty.int .u32, none)]), (false, [((Ty.int .u8).sl, none)]), (false, [(Ty.bool, none)])] }
def ir97 : IR := .op (.call 129) [.v 0, .l (.int .i64 2)] (.op (.icmp .neq) [.v 4, .l (.int .i64 0)] (.ite (.v 5) (.ret [.l (.str []), .l (.bool false), .l (.bool false), .l (.nil (Ty.int .u8)), .l (.int .i64 0), .l (.int .i64 0), .l (.int .i64 0), .l (.int .u32 0), .l (.nil (Ty.int .u8)), .l (.bool false)]) (.op .inb [.v 2, .l (.int .i64 0)] (.op (.idx (Ty.int .u64)) [.v 2, .l (.int .i64 0)] (.op .len [.v 1] (.op (.conv .u64) [.v 7] (.op (.icmp .gtr) [.v 6, .v 8] (.ite (.v 9) (.ret [.l (.str []), .l (.bool false), .l (.bool false), .l (.nil (Ty.int .u8)), .l (.int .i64 0), .l (.int .i64 0), .l (.int .i64 0), .l (.int .u32 0), .l (.nil (Ty.int .u8)), .l (.bool false)]) (.op .inb [.v 2, .l (.int .i64 1)] (.op (.idx (Ty.int .u64)) [.v 2, .l (.int .i64 1)] (.op (.icmp .gtr) [.v 10, .l (.int .u64 64)] (.ite (.v 11) (.ret [.l (.str []), .l (.bool false), .l (.bool false), .l (.nil (Ty.int .u8)), .l (.int .i64 0), .l (.int .i64 0), .l (.int .i64 0), .l (.int .u32 0), .l (.nil (Ty.int .u8)), .l (.bool false)]) (.op .len [.v 0] (.op (.ibin .sub .i64) [.v 12, .v 3] (.op .inb [.v 2, .l (.int .i64 1)] (.op (.idx (Ty.int .u64)) [.v 2, .l (.int .i64 1)] (.op (.conv .i64) [.v 14] (.op (.ibin .add .i64) [.v 15, .l (.int .i64 1)] (.op (.icmp .lss) [.v 13, .v 16] (.ite (.v 17) (.ret [.l (.str []), .l (.bool false), .l (.bool false), .l (.nil (Ty.int .u8)), .l (.int .i64 0), .l (.int .i64 0), .l (.int .i64 0), .l (.int .u32 0), .l (.nil (Ty.int .u8)), .l (.bool false)]) (.op .inb [.v 2, .l (.int .i64 0)] (.op (.idx (Ty.int .u64)) [.v 2, .l (.int .i64 0)] (.op (.conv .i64) [.v 18] (.op .inb [.v 2, .l (.int .i64 1)] (.op (.idx (Ty.int .u64)) [.v 2, .l (.int .i64 1)] (.op (.conv .i64) [.v 20] (.op (.ibin .add .i64) [.v 3, .v 21] (.op .ssub [.v 1, .l (.int .i64 0), .v 19] (.op .sub [.v 0, .v 3, .v 22] (.op .b2s [.v 24] (.op .scat [.v 23, .v 25] (.op .inb [.v 0, .v 22] (.op (.idx (Ty.int .u8)) [.v 0, .v 22] (.op (.icmp .eql) [.v 27, .l (.int .u8 1)] (.op .inb [.v 0, .v 22] (.op (.idx (Ty.int .u8)) [.v 0, .v 22] (.op (.icmp .gtr) [.v 29, .l (.int .u8 1)] (.ite (.v 30) (.ret [.l (.str []), .l (.bool false), .l (.bool false), .l (.nil (Ty.int .u8)), .l (.int .i64 0), .l (.int .i64 0), .l (.int .i64 0), .l (.int .u32 0), .l (.nil (Ty.int .u8)), .l (.bool false)]) (.op (.call 30) [.v 1, .v 26] (.op (.icmp .neq) [.v 31, .v 19] (.ite (.v 32) (.ret [.l (.str []), .l (.bool false), .l (.bool false), .l (.nil (Ty.int .u8)), .l (.int .i64 0), .l (.int .i64 0), .l (.int .i64 0), .l (.int .u32 0), .l (.nil (Ty.int .u8)), .l (.bool false)]) (.op (.scmp .leq) [.v 26, .v 1] (.ite (.v 33) (.ret [.l (.str []), .l (.bool false), .l (.bool false), .l (.nil (Ty.int .u8)), .l (.int .i64 0), .l (.int .i64 0), .l (.int .i64 0), .l (.int .u32 0), .l (.nil (Ty.int .u8)), .l (.bool false)]) (.op (.ibin .add .i64) [.v 22, .l (.int .i64 1)] (.op .sub [.v 0, .v 34] (.op .not [.v 28] (.ite (.v 36) (.op (.call 43) [.v 35] (.op (.icmp .neq) [.v 44, .l (.int .i64 0)] (.ite (.v 45) (.ret [.l (.str []), .l (.bool false), .l (.bool false), .l (.nil (Ty.int .u8)), .l (.int .i64 0), .l (.int .i64 0), .l (.int .i64 0), .l (.int .u32 0), .l (.nil (Ty.int .u8)), .l (.bool false)]) (.op .sub [.v 35, .v 43] (.ret [.v 26, .v 28, .v 37, .v 38, .v 39, .v 40, .v 41, .v 42, .v 46, .l (.bool true)]))))) (.ret [.v 26, .v 28, .l (.bool false), .l (.nil (Ty.int .u8)), .l (.int .i64 0), .l (.int .i64 0), .l (.int .i64 0), .l (.int .u32 0), .v 35, .l (.bool true)]))))))))))))))))))))))))))))))))))))))))))))))))
def sig47 : Sig := { id := 47, ins := [(false, (Ty.int .u8).sl)], outs := [(false, [((Ty.str.pair (Ty.bool.pair (Ty.bool.pair ((Ty.int .u8).sl.pair ((Ty.int .i64).pair ((Ty.int .i64).pair ((Ty.int .i64).pair (Ty.int .u32)))))))).sl, some 44)]), (false, [(Ty.int .i64, none)])] }
def ir47 : IR := .op (.call 90) [.v 0] (.op (.icmp .neq) [.v 3, .l (.int .i64 0)] (.ite (.v 4) (.ret [.l (.nil (Ty.str.pair (Ty.bool.pair (Ty.bool.pair ((Ty.int .u8).sl.pair ((Ty.int .i64).pair ((Ty.int .i64).pair ((Ty.int .i64).pair (Ty.int .u32))))))))), .l (.int .i64 2)]) (.op (.icmp .lss) [.v 1, .l (.int .u64 1)] (.ite (.v 5) (.ret [.l (.nil (Ty.str.pair (Ty.bool.pair (Ty.bool.pair ((Ty.int .u8).sl.pair ((Ty.int .i64).pair ((Ty.int .i64).pair ((Ty.int .i64).pair (Ty.int .u32))))))))), .l (.int .i64 2)]) (.op (.icmp .gtr) [.v 1, .l (.int .u64 256)] (.ite (.v 6) (.ret [.l (.nil (Ty.str.pair (Ty.bool.pair (Ty.bool.pair ((Ty.int .u8).sl.pair ((Ty.int .i64).pair ((Ty.int .i64).pair ((Ty.int .i64).pair (Ty.int .u32))))))))), .l (.int .i64 2)]) (.op .sub [.v 0, .v 2] (.loop [.v 7, .l (.nil (Ty.str.pair (Ty.bool.pair (Ty.bool.pair ((Ty.int .u8).sl.pair ((Ty.int .i64).pair ((Ty.int .i64).pair ((Ty.int .i64).pair (Ty.int .u32))))))))), .l (.str []), .l (.int .u64 0)] [(Ty.int .u8).sl, (Ty.str.pair (Ty.bool.pair (Ty.bool.pair ((Ty.int .u8).sl.pair ((Ty.int .i64).pair ((Ty.int .i64).pair ((Ty.int .i64).pair (Ty.int .u32)))))))).sl, Ty.str, Ty.int .u64] (.op (.icmp .lss) [.v 11, .v 1] (.ite (.v 12) (.op (.call 97) [.v 8, .v 10] (.op .not [.v 22] (.ite (.v 23) (.ret [.l (.nil (Ty.str.pair (Ty.bool.pair (Ty.bool.pair ((Ty.int .u8).sl.pair ((Ty.int .i64).pair ((Ty.int .i64).pair ((Ty.int .i64).pair (Ty.int .u32))))))))), .l (.int .i64 2)]) (.op (.call 98) [.v 13, .v 14, .v 15, .v 16, .v 17, .v 18, .v 19, .v 20] (.op (.icmp .neq) [.v 24, .l (.int .i64 0)] (.ite (.v 25) (.ret [.l (.nil (Ty.str.pair (Ty.bool.pair (Ty.bool.pair ((Ty.int .u8).sl.pair ((Ty.int .i64).pair ((Ty.int .i64).pair ((Ty.int .i64).pair (Ty.int .u32))))))))), .l (.int .i64 2)]) (.op (.mk (Ty.str.pair (Ty.bool.pair (Ty.bool.pair ((Ty.int .u8).sl.pair ((Ty.int .i64).pair ((Ty.int .i64).pair ((Ty.int .i64).pair (Ty.int .u32)))))))) 1) [.v 13, .v 14, .v 15, .v 16, .v 17, .v 18, .v 19, .v 20] (.op .app [.v 9, .v 26] (.op (.ibin .add .u64) [.v 11, .l (.int .u64 1)] (.jump 0 [.v 21, .v 27, .v 13, .v 28])))))))))) (.op .len [.v 8] (.op (.icmp .gtr) [.v 13, .l (.int .i64 0)] (.ite (.v 14) (.ret [.l (.nil (Ty.str.pair (Ty.bool.pair (Ty.bool.pair ((Ty.int .u8).sl.pair ((Ty.int .i64).pair ((Ty.int .i64).pair ((Ty.int .i64).pair (Ty.int .u32))))))))), .l (.int .i64 2)]) (.ret [.v 9, .l (.int .i64 0)]))))))))))))))
def sig48 : Sig := { id := 48, ins := [(false, (Ty.int .u8).sl)], outs := [(false, [((Ty.str.pair (Ty.bool.pair (Ty.bool.pair ((Ty.int .u8).sl.pair ((Ty.int .i64).pair ((Ty.int .i64).pair ((Ty.int .i64).pair (Ty.int .u32)))))))).sl, some 44)])] }
def ir48 : IR := .op (.call 92) [.v 0] (.op (.icmp .eql) [.v 2, .l (.int .i64 0)] (.ite (.v 3) (.ret [.l (.nil (Ty.str.pair (Ty.bool.pair (Ty.bool.pair ((Ty.int .u8).sl.pair ((Ty.int .i64).pair ((Ty.int .i64).pair ((Ty.int .i64).pair (Ty.int .u32)))))))))]) (.op (.icmp .gtr) [.v 1, .l (.int .u64 256)] (.ite (.v 4) (.ret [.l (.nil (Ty.str.pair (Ty.bool.pair (Ty.bool.pair ((Ty.int .u8).sl.pair ((Ty.int .i64).pair ((Ty.int .i64).pair ((Ty.int .i64).pair (Ty.int .u32)))))))))]) (.op (.mk (Ty.str.pair (Ty.bool.pair (Ty.bool.pair ((Ty.int .u8).sl.pair ((Ty.int .i64).pair ((Ty.int .i64).pair ((Ty.int .i64).pair (Ty.int .u32)))))))) 0) [] (.loop [.v 2, .v 5, .l (.str []), .l (.int .i64 0)] [Ty.int .i64, (Ty.str.pair (Ty.bool.pair (Ty.bool.pair ((Ty.int .u8).sl.pair ((Ty.int .i64).pair ((Ty.int .i64).pair ((Ty.int .i64).pair (Ty.int .u32)))))))).sl, Ty.str, Ty.int .i64] (.op (.conv .i64) [.v 1] (.op (.icmp .lss) [.v 9, .v 10] (.ite (.v 11) (.op .sub [.v 0, .v 6] (.op (.call 92) [.v 12] (.op (.ibin .add .i64) [.v 6, .v 14] (.op .sub [.v 0, .v 15] (.op (.call 92) [.v 16] (.op (.icmp .eql) [.v 14, .l (.int .i64 0)] (.ite (.v 19) (.ret [.l (.nil (Ty.str.pair (Ty.bool.pair (Ty.bool.pair ((Ty.int .u8).sl.pair ((Ty.int .i64).pair ((Ty.int .i64).pair ((Ty.int .i64).pair (Ty.int .u32)))))))))]) (.op (.icmp .eql) [.v 18, .l (.int .i64 0)] (.ite (.v 20) (.ret [.l (.nil (Ty.str.pair (Ty.bool.pair (Ty.bool.pair ((Ty.int .u8).sl.pair ((Ty.int .i64).pair ((Ty.int .i64).pair ((Ty.int .i64).pair (Ty.int .u32)))))))))]) (.op .len [.v 8] (.op (.conv .u64) [.v 21] (.op (.icmp .gtr) [.v 13, .v 22] (.ite (.v 23) (.ret [.l (.nil (Ty.str.pair (Ty.bool.pair (Ty.bool.pair ((Ty.int .u8).sl.pair ((Ty.int .i64).pair ((Ty.int .i64).pair ((Ty.int .i64).pair (Ty.int .u32)))))))))]) (.op (.icmp .gtr) [.v 17, .l (.int .u64 64)] (.ite (.v 24) (.ret [.l (.nil (Ty.str.pair (Ty.bool.pair (Ty.bool.pair ((Ty.int .u8).sl.pair ((Ty.int .i64).pair ((Ty.int .i64).pair ((Ty.int .i64).pair (Ty.int .u32)))))))))]) (.op (.ibin .add .i64) [.v 6, .v 14] (.op (.ibin .add .i64) [.v 25, .v 18] (.op (.conv .i64) [.v 17] (.op (.ibin .add .i64) [.v 26, .v 27] (.op .len [.v 0] (.op (.icmp .geq) [.v 28, .v 29] (.ite (.v 30) (.ret [.l (.nil (Ty.str.pair (Ty.bool.pair (Ty.bool.pair ((Ty.int .u8).sl.pair ((Ty.int .i64).pair ((Ty.int .i64).pair ((Ty.int .i64).pair (Ty.int .u32)))))))))]) (.op (.conv .i64) [.v 13] (.op .ssub [.v 8, .l (.int .i64 0), .v 31] (.op .sub [.v 0, .v 26, .v 28] (.op .b2s [.v 33] (.op .scat [.v 32, .v 34] (.op .inb [.v 0, .v 28] (.op (.idx (Ty.int .u8)) [.v 0, .v 28] (.op (.icmp .eql) [.v 36, .l (.int .u8 1)] (.op (.ibin .add .i64) [.v 28, .l (.int .i64 1)] (.op .not [.v 37] (.ite (.v 39) (.op .sub [.v 0, .v 38] (.op (.call 44) [.v 40] (.op (.icmp .eql) [.v 47, .l (.int .i64 0)] (.ite (.v 48) (.ret [.l (.nil (Ty.str.pair (Ty.bool.pair (Ty.bool.pair ((Ty.int .u8).sl.pair ((Ty.int .i64).pair ((Ty.int .i64).pair ((Ty.int .i64).pair (Ty.int .u32)))))))))]) (.op (.ibin .add .i64) [.v 38, .v 47] (.op (.mk (Ty.str.pair (Ty.bool.pair (Ty.bool.pair ((Ty.int .u8).sl.pair ((Ty.int .i64).pair ((Ty.int .i64).pair ((Ty.int .i64).pair (Ty.int .u32)))))))) 1) [.v 35, .v 37, .v 41, .v 42, .v 43, .v 44, .v 45, .v 46] (.op .app [.v 7, .v 50] (.op (.ibin .add .i64) [.v 9, .l (.int .i64 1)] (.jump 0 [.v 49, .v 51, .v 35, .v 52]))))))))) (.op (.mk (Ty.str.pair (Ty.bool.pair (Ty.bool.pair ((Ty.int .u8).sl.pair ((Ty.int .i64).pair ((Ty.int .i64).pair ((Ty.int .i64).pair (Ty.int .u32)))))))) 1) [.v 35, .v 37, .l (.bool false), .l (.nil (Ty.int .u8)), .l (.int .i64 0), .l (.int .i64 0), .l (.int .i64 0), .l (.int .u32 0)] (.op .app [.v 7, .v 40] (.op (.ibin .add .i64) [.v 9, .l (.int .i64 1)] (.jump 0 [.v 38, .v 41, .v 35, .v 42]))))))))))))))))))))))))))))))))))))) (.op .len [.v 0] (.op (.icmp .neq) [.v 6, .v 12] (.ite (.v 13) (.ret [.l (.nil (Ty.str.pair (Ty.bool.pair (Ty.bool.pair ((Ty.int .u8).sl.pair ((Ty.int .i64).pair ((Ty.int .i64).pair ((Ty.int .i64).pair (Ty.int .u32)))))))))]) (.op (.call 33) [.v 7] (.op .not [.v 14] (.ite (.v 15) (.ret [.l (.nil (Ty.str.pair (Ty.bool.pair (Ty.bool.pair ((Ty.int .u8).sl.pair ((Ty.int .i64).pair ((Ty.int .i64).pair ((Ty.int .i64).pair (Ty.int .u32)))))))))]) (.op (.call 34) [.v 7] (.op (.call 21) [.v 16, .v 0] (.op .not [.v 17] (.ite (.v 18) (.ret [.l (.nil (Ty.str.pair (Ty.bool.pair (Ty.bool.pair ((Ty.int .u8).sl.pair ((Ty.int .i64).pair ((Ty.int .i64).pair ((Ty.int .i64).pair (Ty.int .u32)))))))))]) (.ret [.v 7]))))))))))))))))))))
def sig52 : Sig := { id := 52, ins := [(true, Ty.str.pair (Ty.bool.pair (Ty.bool.pair ((Ty.int .u8).sl.pair ((Ty.int .i64).pair ((Ty.int .i64).pair ((Ty.int .i64).pair (Ty.int .u32)))))))), (true, Ty.str.pair (Ty.bool.pair (Ty.bool.pair ((Ty.int .u8).sl.pair ((Ty.int .i64).pair ((Ty.int .i64).pair ((Ty.int .i64).pair (Ty.int .u32))))))))], outs := [(false, [(Ty.bool, none)])] }
def ir52 : IR := .op (.scmp .eql) [.v 0, .v 8] (.ite (.v 16) (.op (.bcmp .eql) [.v 1, .v 9] (.ite (.v 17) (.op (.call 18) [.v 2, .v 3, .v 4, .v 5, .v 6, .v 7, .v 10, .v 11, .v 12, .v 13, .v 14, .v 15] (.ret [.v 18])) (.ret [.l (.bool false)]))) (.ret [.l (.bool false)]))
def sig50 : Sig := { id := 50, ins := [(false, (Ty.str.pair (Ty.bool.pair (Ty.bool.pair ((Ty.int .u8).sl.pair ((Ty.int .i64).pair ((Ty.int .i64).pair ((Ty.int .i64).pair (Ty.int .u32)))))))).sl), (false, (Ty.str.pair (Ty.bool.pair (Ty.bool.pair ((Ty.int .u8).sl.pair ((Ty.int .i64).pair ((Ty.int .i64).pair ((Ty.int .i64).pair (Ty.int .u32)))))))).sl)], outs := [(false, [(Ty.bool, none)])] }
def ir50 : IR := .op .len [.v 0] (.op .len [.v 1] (.op (.icmp .neq) [.v 2, .v 3] (.ite (.v 4) (.ret [.l (.bool false)]) (.loop [.l (.int .i64 0)] [Ty.int .i64] (.op .len [.v 0] (.op (.icmp .lss) [.v 5, .v 6] (.ite (.v 7) (.op .inb [.v 0, .v 5] (.op (.idx (Ty.str.pair (Ty.bool.pair (Ty.bool.pair ((Ty.int .u8).sl.pair ((Ty.int .i64).pair ((Ty.int .i64).pair ((Ty.int .i64).pair (Ty.int .u32))))))))) [.v 0, .v 5] (.op .inb [.v 1, .v 5] (.op (.idx (Ty.str.pair (Ty.bool.pair (Ty.bool.pair ((Ty.int .u8).sl.pair ((Ty.int .i64).pair ((Ty.int .i64).pair ((Ty.int .i64).pair (Ty.int .u32))))))))) [.v 1, .v 5] (.op (.call 52) [.v 8, .v 9, .v 10, .v 11, .v 12, .v 13, .v 14, .v 15, .v 16, .v 17, .v 18, .v 19, .v 20, .v 21, .v 22, .v 23] (.op .not [.v 24] (.ite (.v 25) (.ret [.l (.bool false)]) (.op (.ibin .add .i64) [.v 5, .l (.int .i64 1)] (.jump 0 [.v 26]))))))))) (.ret [.l (.bool true)]))))))))
noncomputable def F97 : List D → Option (List D) := Fof [c129, c30, c43] ir97
noncomputable def c97 : Ct := ⟨sig97, F97⟩
noncomputable def F47 : List D → Option (List D) := Fof [c90, c97, c98] ir47
noncomputable def c47 : Ct := ⟨sig47, F47⟩
noncomputable def F48 : List D → Option (List D) := Fof [c92, c44, c33, c34, c21] ir48
noncomputable def c48 : Ct := ⟨sig48, F48⟩
noncomputable def F52 : List D → Option (List D) := Fof [c18] ir52
noncomputable def c52 : Ct := ⟨sig52, F52⟩
noncomputable def F50 : List D → Option (List D) := Fof [c52] ir50
noncomputable def c50 : Ct := ⟨sig50, F50⟩
end Go.Proofs.YtolcekkcenedjaaGreat.Sx

namespace Go.Proofs.YtolcekkcenedjaaGreat.Sx

def nextI (last b : List Int) : Option (It × List Int) := match allL 2 b with
  | some [u, v] =>
    if (last.length : Int) < u ∨ 64 < v ∨ (b.length : Int) - allA 2 b < v + 1 then none else
    match b.drop (allA 2 b + v.toNat) with
    | c :: r =>
      if 1 < c ∨ ¬ ((alike last (last.take u.toNat ++ (b.drop (allA 2 b)).take v.toNat) : Int) = u) ∨ ltL (last.take u.toNat ++ (b.drop (allA 2 b)).take v.toNat) last = true ∨ last.take u.toNat ++ (b.drop (allA 2 b)).take v.toNat = last then none
      else if c = 1 then some ((last.take u.toNat ++ (b.drop (allA 2 b)).take v.toNat, true, false, [], 0, 0, 0, 0), r)
      else match getC r with
        | some (f, y, s, a, n, m, k) => some ((last.take u.toNat ++ (b.drop (allA 2 b)).take v.toNat, false, f, y, s, a, n, m), r.drop k)
        | none => none
    | [] => none
  | _ => none
def resN : Option (It × List Int) → List D
  | some ((k, d, f, b, s, a, n, m), r) => [⟨.str, k⟩, ⟨.bool, d⟩, ⟨.bool, f⟩, ⟨.sl (.int .u8), b⟩, ⟨.int .i64, s⟩, ⟨.int .i64, a⟩, ⟨.int .i64, n⟩, ⟨.int .u32, m⟩, ⟨.sl (.int .u8), r⟩, ⟨.bool, true⟩]
  | none => [⟨.str, []⟩, ⟨.bool, false⟩, ⟨.bool, false⟩, ⟨.sl (.int .u8), []⟩, ⟨.int .i64, 0⟩, ⟨.int .i64, 0⟩, ⟨.int .i64, 0⟩, ⟨.int .u32, 0⟩, ⟨.sl (.int .u8), []⟩, ⟨.bool, false⟩]

theorem getC_le {x : List Int} (hb : ∀ c ∈ x, 0 ≤ c ∧ c < 256) {f : Bool} {b : List Int} {s a n m : Int} {k : Nat} (h : getC x = some (f, b, s, a, n, m, k)) : k ≤ x.length := by
  unfold getC at h
  split at h
  · cases h
  · rename_i c t
    have hr := gv_range (b := t) (fun d hd => hb d (by simp [hd]))
    split at h
    · cases h
    · split at h
      · split at h
        · rename_i hp
          have := (getP_k hp).1
          simp only [Option.some.injEq, Cl, Prod.mk.injEq] at h
          obtain ⟨_, _, _, _, _, _, rfl⟩ := h
          simp only [List.length_cons]; omega
        · cases h
      · split at h
        · cases h
        · simp only [Option.some.injEq, Cl, Prod.mk.injEq] at h
          obtain ⟨_, _, _, _, _, _, rfl⟩ := h
          simp only [List.length_cons]; omega

theorem f97 (b last : List Int) (hb : ∀ c ∈ b, 0 ≤ c ∧ c < 256) (hl : b.length < 10000000000) (hk : last.length ≤ 1000) : F97 [⟨.sl (.int .u8), b⟩, ⟨.str, last⟩] = some (resN (nextI last b)) := by
  have h129 := s129 (lc := [c129, c30, c43]) rfl
  have h30 := s30 (lc := [c129, c30, c43]) rfl
  have h43 := s43 (lc := [c129, c30, c43]) rfl
  simp only [F97, Fof, ir97]
  generalize Phi [c129, c30, c43] = Φ at *
  have k129 := h129 b 2 hb (by omega) (by omega) (by omega)
  have hle := allA_le 2 b hb
  rw [show (2 : Int).toNat = 2 from rfl] at k129
  unfold nextI
  cases ha : allL 2 b with
  | none =>
    simp only [ha, resA] at k129
    simp -implicitDefEqProofs [k129, resN]
  | some r =>
    have hr := allL_range 2 b r hb ha
    have hlen := allL_len 2 b r ha
    match r, hlen, hr, ha with
    | [u, v], _, hr, ha =>
      simp only [ha, resA, List.nil_append] at k129
      have hu := hr u (by simp)
      have hv := hr v (by simp)
      generalize allA 2 b = N at *
      have wl : IntKind.u64.wrap (last.length : Int) = last.length := wu64 _ (by omega) (by omega)
      have wN : IntKind.i64.wrap ((b.length : Int) - N) = b.length - N := wi64 _ (by omega) (by omega)
      by_cases c1 : (last.length : Int) < u
      · have hcond : ((last.length : Int) < u ∨ 64 < v ∨ (b.length : Int) - N < v + 1) := .inl c1
        simp only [if_pos hcond]
        simp -implicitDefEqProofs [k129, resN, wl, c1]
      by_cases c2 : 64 < v
      · have hcond : ((last.length : Int) < u ∨ 64 < v ∨ (b.length : Int) - N < v + 1) := .inr (.inl c2)
        simp only [if_pos hcond]
        simp -implicitDefEqProofs [k129, resN, wl, c1, c2]
      have wv : IntKind.i64.wrap v = v := wi64 _ (by omega) (by omega)
      have wu : IntKind.i64.wrap u = u := wi64 _ (by omega) (by omega)
      have wv1 : IntKind.i64.wrap (v + 1) = v + 1 := wi64 _ (by omega) (by omega)
      by_cases c3 : (b.length : Int) - N < v + 1
      · have hcond : ((last.length : Int) < u ∨ 64 < v ∨ (b.length : Int) - N < v + 1) := .inr (.inr c3)
        simp only [if_pos hcond]
        simp -implicitDefEqProofs [k129, resN, wl, wN, wv, wv1, c1, c2, c3]
      have hcond : ¬ ((last.length : Int) < u ∨ 64 < v ∨ (b.length : Int) - N < v + 1) := by omega
      simp only [if_neg hcond]
      have hd : b.drop (N + v.toNat) = b[N + v.toNat]'(by omega) :: b.drop (N + v.toNat + 1) := List.drop_eq_getElem_cons (by omega)
      have hx : b[N + v.toNat]? = some (b[N + v.toNat]'(by omega)) := List.getElem?_eq_getElem (by omega)
      have hcb := hb (b[N + v.toNat]'(by omega)) (List.getElem_mem _)
      rw [hd]
      generalize b[N + v.toNat]'(by omega) = c at *
      have wNv : IntKind.i64.wrap ((N : Int) + v) = N + v := wi64 _ (by omega) (by omega)
      have wNv1 : IntKind.i64.wrap ((N : Int) + v + 1) = N + v + 1 := wi64 _ (by omega) (by omega)
      have t1 : ((N : Int) + v).toNat = N + v.toNat := by omega
      have t2 : ((N : Int) + v + 1).toNat = N + v.toNat + 1 := by omega
      have b1 : (0 : Int) ≤ u ∧ u ≤ last.length := by omega
      have b2 : (N : Int) ≤ N + v ∧ (N : Int) + v ≤ b.length := by omega
      have b3 : (0 : Int) ≤ (N : Int) + v ∧ (N : Int) + v < b.length := by omega
      have b4 : (0 : Int) ≤ (N : Int) + v + 1 ∧ (N : Int) + v + 1 ≤ b.length := by omega
      have hkey : (b.take (N + v.toNat)).drop N = (b.drop N).take v.toNat := by rw [List.drop_take]; congr 1; omega
      have B1 : u.toNat + min v.toNat (b.length - N) ≤ BIG := by simp only [BIG]; omega
      have k30 := h30 last (last.take u.toNat ++ (b.drop N).take v.toNat) (by omega)
      generalize hkeyd : last.take u.toNat ++ (b.drop N).take v.toNat = key at *
      by_cases c4 : 1 < c
      · simp only [if_pos (show (1 < c ∨ ¬ ((alike last key : Int) = u) ∨ ltL key last = true ∨ key = last) from .inl c4)]
        simp -implicitDefEqProofs [k129, resN, wl, wN, wv, wu, wv1, wNv, t1, c1, c2, c3, b1, b2, b3, hkey, B1, hkeyd, hx, c4]
      by_cases c5 : ¬ (alike last key : Int) = u
      · simp only [if_pos (show (1 < c ∨ ¬ ((alike last key : Int) = u) ∨ ltL key last = true ∨ key = last) from .inr (.inl c5))]
        simp -implicitDefEqProofs [k129, resN, wl, wN, wv, wu, wv1, wNv, t1, c1, c2, c3, b1, b2, b3, hkey, B1, hkeyd, hx, c4, k30, c5]
      have c5 : (alike last key : Int) = u := Decidable.not_not.1 c5
      by_cases c6 : ltL key last = true ∨ key = last
      · simp only [if_pos (show (1 < c ∨ ¬ ((alike last key : Int) = u) ∨ ltL key last = true ∨ key = last) from .inr (.inr c6))]
        simp -implicitDefEqProofs [k129, resN, wl, wN, wv, wu, wv1, wNv, t1, c1, c2, c3, b1, b2, b3, hkey, B1, hkeyd, hx, c4, k30, c5, c6]
      simp only [if_neg (show ¬ (1 < c ∨ ¬ ((alike last key : Int) = u) ∨ ltL key last = true ∨ key = last) from by rintro (h | h | h); exact c4 h; exact h c5; exact c6 h)]
      by_cases c7 : c = 1
      · simp only [if_pos c7]
        subst c7
        simp -implicitDefEqProofs [k129, resN, wl, wN, wv, wu, wv1, wNv, wNv1, t1, t2, c1, c2, c3, b1, b2, b3, b4, hkey, B1, hkeyd, hx, k30, c5, c6]
      · simp only [if_neg c7]
        have hbr : ∀ c ∈ b.drop (N + v.toNat + 1), 0 ≤ c ∧ c < 256 := fun c hc => hb c (List.mem_of_mem_drop hc)
        have k43 := h43 (b.drop (N + v.toNat + 1)) hbr (by rw [List.length_drop]; omega)
        have hle43 := fun f y s a n m k => getC_le hbr (f := f) (b := y) (s := s) (a := a) (n := n) (m := m) (k := k)
        have hlr : (b.drop (N + v.toNat + 1)).length = b.length - (N + v.toNat + 1) := List.length_drop
        cases hg : getC (b.drop (N + v.toNat + 1)) with
        | none =>
          simp only [hg, resCe] at k43
          simp -implicitDefEqProofs [k129, resN, wl, wN, wv, wu, wv1, wNv, wNv1, t1, t2, c1, c2, c3, c4, c7, b1, b2, b3, b4, hkey, B1, hkeyd, hx, k30, c5, c6, k43]
        | some y =>
          obtain ⟨f, y, s, a, n, m, k⟩ := y
          have hk43 := hle43 f y s a n m k hg
          rw [hlr] at hk43
          simp only [hg, resCe] at k43
          have b5 : (k : Int) ≤ ((b.length - (N + v.toNat + 1) : Nat) : Int) := by omega
          simp -implicitDefEqProofs [k129, resN, wl, wN, wv, wu, wv1, wNv, wNv1, t1, t2, c1, c2, c3, c4, c7, b1, b2, b3, b4, b5, hk43, hkey, B1, hkeyd, hx, k30, c5, c6, k43]
theorem s97 {lc : List Ct} (hl0 : look (lc.map fun c => (c.sig.id, c)) 97 = some c97) : ∀ (b last : List Int) (hb : ∀ c ∈ b, 0 ≤ c ∧ c < 256) (hl : b.length < 10000000000) (hk : last.length ≤ 1000), Does1 (Phi lc) 97 [⟨.sl (.int .u8), b⟩, ⟨.str, last⟩] (resN (nextI last b)) :=
  fun b last hb hl hk => by
    have eFc : c97.F = F97 := rfl
    have eFh := f97 b last hb hl hk
    rw [← eFc] at eFh
    exact Does1.of hl0 eFh (by unfold resN; split <;> rfl)
end Go.Proofs.YtolcekkcenedjaaGreat.Sx

namespace Go.Proofs.YtolcekkcenedjaaGreat.Sx

def items : Nat → List Int → List Int → Option (List It × List Int)
  | 0, _, b => some ([], b)
  | n + 1, last, b => match nextI last b with
    | some (x, r) => if itErr x = 0 then (match items n x.1 r with
      | some (xs, r') => some (x :: xs, r')
      | none => none) else none
    | none => none
def blkGet (b : List Int) : Option (List It) := if gvN b = 0 ∨ gvV b < 1 ∨ 256 < gvV b then none else
  match items (gvV b).toNat [] (b.drop (gvN b)) with
  | some (l, []) => some l
  | _ => none
def resB : Option (List It) → List D
  | some l => [⟨.sl ItT, l⟩, ⟨.int .i64, 0⟩]
  | none => [⟨.sl ItT, ([] : List It)⟩, ⟨.int .i64, 2⟩]
def fin47 (o : Option (List It × List Int)) (l : List It) : List D := match o with
  | some (xs, []) => [⟨.sl ItT, l ++ xs⟩, ⟨.int .i64, 0⟩]
  | _ => [⟨.sl ItT, ([] : List It)⟩, ⟨.int .i64, 2⟩]

theorem next_sub {last b : List Int} {x : It} {r : List Int} (h : nextI last b = some (x, r)) : (∀ c ∈ r, c ∈ b) ∧ r.length ≤ b.length := by
  unfold nextI at h
  split at h
  · split at h
    · cases h
    · split at h
      · rename_i c r' hd
        have hsub : ∀ d ∈ c :: r', d ∈ b := by rw [← hd]; exact fun d h => List.mem_of_mem_drop h
        have hmem : ∀ c ∈ r', c ∈ b := fun d hd' => hsub d (List.mem_cons_of_mem _ hd')
        have hlen : r'.length ≤ b.length := by
          have := congrArg List.length hd
          rw [List.length_drop, List.length_cons] at this
          omega
        split at h
        · cases h
        · split at h
          · simp only [Option.some.injEq, Prod.mk.injEq] at h
            obtain ⟨_, rfl⟩ := h
            exact ⟨hmem, hlen⟩
          · split at h
            · simp only [Option.some.injEq, Prod.mk.injEq] at h
              obtain ⟨_, rfl⟩ := h
              exact ⟨fun c hc => hmem c (List.mem_of_mem_drop hc), by rw [List.length_drop]; omega⟩
            · cases h
      · cases h
  · cases h

theorem f47 (b : List Int) (hb : ∀ c ∈ b, 0 ≤ c ∧ c < 256) (hl : b.length < 10000000000) : F47 [⟨.sl (.int .u8), b⟩] = some (resB (blkGet b)) := by
  have h90 := s90 (lc := [c90, c97, c98]) rfl
  have h97 := s97 (lc := [c90, c97, c98]) rfl
  have h98 := s98 (lc := [c90, c97, c98]) rfl
  simp only [F47, Fof, ir47]
  generalize Phi [c90, c97, c98] = Φ at *
  have k90 := h90 b hb
  have hr := gv_range hb
  unfold blkGet
  by_cases c1 : gvN b = 0
  · rw [if_pos c1] at k90
    rw [if_pos (.inl c1)]
    simp -implicitDefEqProofs [k90, resB]
  rw [if_neg c1] at k90
  by_cases c2 : gvV b < 1
  · rw [if_pos (.inr (.inl c2))]
    simp -implicitDefEqProofs [k90, resB, c2]
  by_cases c3 : 256 < gvV b
  · rw [if_pos (.inr (.inr c3))]
    simp -implicitDefEqProofs [k90, resB, c2, c3]
  rw [if_neg (by rintro (h | h | h); exact c1 h; exact c2 h; exact c3 h)]
  have b1 : (gvN b : Int) ≤ b.length := by omega
  have hfin : resB (match items (gvV b).toNat [] (b.drop (gvN b)) with | some (l, []) => some l | _ => none) = fin47 (items (gvV b).toNat [] (b.drop (gvN b))) [] := by
    unfold fin47 resB
    split <;> rename_i h <;> split at h <;> simp_all
  rw [hfin]
  generalize hgN : gvN b = g at *
  generalize gvV b = n at *
  simp -implicitDefEqProofs [k90, c2, c3, b1, hr]
  have hn : 0 ≤ n ∧ n ≤ 256 := by omega
  refine (iter_meas (fun s : List Int × List It × List Int × Int => (n - s.2.2.2).toNat) (fun s => fin47 (items (n - s.2.2.2).toNat s.2.2.1 s.1) s.2.1)
    (fun s => (∀ c ∈ s.1, 0 ≤ c ∧ c < 256) ∧ s.1.length < 10000000000 ∧ s.2.2.1.length ≤ 64 ∧ 0 ≤ s.2.2.2 ∧ s.2.2.2 ≤ n ∧ s.2.1.length ≤ s.2.2.2.toNat)
    (by exact ⟨fun c hc => hb c (List.mem_of_mem_drop hc), by simp only [List.length_drop]; omega, by simp, by simp, by simp; omega, by simp⟩) ?_).trans (by simp)
  rintro ⟨b0, l0, last, i⟩ ⟨i1, i2, i3, i4, i5, i6⟩
  simp only at i1 i2 i3 i4 i5 i6 ⊢
  by_cases hi : i < n
  · have k97 := h97 b0 last i1 i2 (by omega)
    rw [show (n - i).toNat = (n - (i + 1)).toNat + 1 by omega]
    have wi : IntKind.u64.wrap (i + 1) = i + 1 := wu64 _ (by omega) (by omega)
    simp only [items]
    cases hx : nextI last b0 with
    | none =>
      simp only [hx, resN] at k97
      refine .inr ?_
      simp -implicitDefEqProofs [hi, k97, fin47]
    | some y =>
      obtain ⟨⟨k, d, f, y, s, a, m, w⟩, r⟩ := y
      obtain ⟨n1, n2⟩ := next_sub hx
      simp only [hx, resN] at k97
      have k98 := h98 k d f y s a m w
      have hmk : mkD ItT 1 [⟨.str, k⟩, ⟨.bool, d⟩, ⟨.bool, f⟩, ⟨.sl (.int .u8), y⟩, ⟨.int .i64, s⟩, ⟨.int .i64, a⟩, ⟨.int .i64, m⟩, ⟨.int .u32, w⟩] = some ⟨.sl ItT, [(k, d, f, y, s, a, m, w)]⟩ := rfl
      by_cases hz : iErr k d f y s a m w = 0
      · have hbig : l0.length + 1 ≤ BIG := by simp only [BIG]; omega
        have hk := (iErr_ok hz).2.1
        refine .inl ⟨(r, l0 ++ [(k, d, f, y, s, a, m, w)], k, i + 1), ?_, ⟨fun c hc => i1 c (n1 c hc), by simp only; omega, by simp only; omega, by simp only; omega, by simp only; omega, by simp; omega⟩, by simp only; omega, ?_⟩
        · simp -implicitDefEqProofs [hi, k97, k98, hz, hmk, hbig, wi]
        · simp only [itErr, hz, if_true]
          cases items (n - (i + 1)).toNat k r with
          | none => rfl
          | some z =>
            obtain ⟨xs, r'⟩ := z
            cases r' <;> simp [fin47]
      · refine .inr ?_
        simp only [itErr, if_neg hz]
        simp -implicitDefEqProofs [hi, k97, k98, hz, fin47]
  · refine .inr ?_
    rw [if_neg hi, show (n - i).toNat = 0 by omega]
    simp only [items]
    cases b0 <;> simp [fin47]
theorem s47 {lc : List Ct} (hl0 : look (lc.map fun c => (c.sig.id, c)) 47 = some c47) : ∀ (b : List Int) (hb : ∀ c ∈ b, 0 ≤ c ∧ c < 256) (hl : b.length < 10000000000), Does1 (Phi lc) 47 [⟨.sl (.int .u8), b⟩] (resB (blkGet b)) :=
  fun b hb hl => by
    have eFc : c47.F = F47 := rfl
    have eFh := f47 b hb hl
    rw [← eFc] at eFh
    exact Does1.of hl0 eFh (by unfold resB; split <;> rfl)
end Go.Proofs.YtolcekkcenedjaaGreat.Sx

namespace Go.Proofs.YtolcekkcenedjaaGreat.Sx

theorem gv_inv {b : List Int} (hb : ∀ c ∈ b, 0 ≤ c ∧ c < 256) (h : gvN b ≠ 0) : b.take (gvN b) = one (gvV b).toNat ∧ gvN b = (one (gvV b).toNat).length := by
  cases hg : getv b with
  | none => exact absurd (gv_none hg).2 h
  | some y =>
    obtain ⟨v, n⟩ := y
    obtain ⟨h1, h2⟩ := gv_some hg
    obtain ⟨k1, k2, k3, _⟩ := getv_inv hb hg
    rw [h1, h2, Int.toNat_natCast]
    exact ⟨k2, k3⟩

theorem allL_inv : ∀ (n : Nat) (b r : List Int), (∀ c ∈ b, 0 ≤ c ∧ c < 256) → allL n b = some r → b.take (allA n b) = putL r
  | 0, b, r, _, h => by simp only [allL, Option.some.injEq] at h; subst h; simp [allA, putL]
  | n + 1, b, r, hb, h => by
    simp only [allL] at h
    split at h
    · cases h
    · rename_i hz
      split at h
      · rename_i r' h'
        simp only [Option.some.injEq] at h
        subst h
        have ih := allL_inv n _ r' (fun c hc => hb c (List.mem_of_mem_drop hc)) h'
        simp only [allA, if_neg hz]
        rw [List.take_add, (gv_inv hb hz).1, ih, putL_cons]
      · cases h

theorem sum4_sumv {p q r t : Int} (hp : 0 ≤ p ∧ p < 256) (hq : 0 ≤ q ∧ q < 256) (hr : 0 ≤ r ∧ r < 256) (ht : 0 ≤ t ∧ t < 256) : sum4 (p + q * 256 + r * 65536 + t * 16777216) = [p, q, r, t] := by
  have e1 : (p + q * 256 + r * 65536 + t * 16777216) % 256 = p := by omega
  have e2 : (p + q * 256 + r * 65536 + t * 16777216) / 256 % 256 = q := by omega
  have e3 : (p + q * 256 + r * 65536 + t * 16777216) / 65536 % 256 = r := by omega
  have e4 : (p + q * 256 + r * 65536 + t * 16777216) / 16777216 % 256 = t := by omega
  simp only [sum4, e1, e2, e3, e4]

theorem getP_inv {x : List Int} (hb : ∀ c ∈ x, 0 ≤ c ∧ c < 256) {s a n m : Int} {k : Nat} (h : getP x = some (s, a, n, m, k)) :
    pOk s a n = true ∧ x.take k = putL [s, a, n] ++ sum4 m ∧ 0 ≤ m ∧ m < 4294967296 := by
  unfold getP at h
  split at h
  · rename_i s' a' n' ha
    split at h
    · rename_i hc
      simp only [Option.some.injEq, Prod.mk.injEq] at h
      obtain ⟨rfl, rfl, rfl, rfl, rfl⟩ := h
      obtain ⟨p, q, r, t, w, hd⟩ := four (l := x.drop (allA 3 x)) (by rw [List.length_drop]; omega)
      have hbd : ∀ c ∈ x.drop (allA 3 x), 0 ≤ c ∧ c < 256 := fun c hc => hb c (List.mem_of_mem_drop hc)
      have hinv := allL_inv 3 x _ hb ha
      rw [hd] at hbd
      have hp0 := hbd p (by simp); have hq0 := hbd q (by simp); have hr0 := hbd r (by simp); have ht0 := hbd t (by simp)
      rw [List.take_add, hinv, hd]
      refine ⟨hc.2, ?_, ?_, ?_⟩
      · simp only [sumv]
        rw [sum4_sumv hp0 hq0 hr0 ht0]; rfl
      · simp only [sumv]; omega
      · simp only [sumv]; omega
    · cases h
  · cases h

theorem getC_inv {x : List Int} (hb : ∀ c ∈ x, 0 ≤ c ∧ c < 256) {f : Bool} {b : List Int} {s a n m : Int} {k : Nat} (h : getC x = some (f, b, s, a, n, m, k)) :
    cErr f b s a n m = 0 ∧ x.take k = putC f b s a n m ∧ 0 ≤ m ∧ m < 4294967296 := by
  unfold getC at h
  split at h
  · cases h
  · rename_i c t
    have hbt : ∀ d ∈ t, 0 ≤ d ∧ d < 256 := fun d hd => hb d (by simp [hd])
    have hc0 := hb c (by simp)
    split at h
    · cases h
    · split at h
      · rename_i hc1
        split at h
        · rename_i s' a' n' m' k' hp
          simp only [Option.some.injEq, Cl, Prod.mk.injEq] at h
          obtain ⟨rfl, rfl, rfl, rfl, rfl, rfl, rfl⟩ := h
          obtain ⟨q1, q2, q3, q4⟩ := getP_inv hbt hp
          subst hc1
          refine ⟨by simp [cErr, q1], ?_, q3, q4⟩
          simp only [List.take_succ_cons, q2, putC, if_true]
        · cases h
      · split at h
        · cases h
        · rename_i hc1 hcond
          simp only [Option.some.injEq, Cl, Prod.mk.injEq] at h
          obtain ⟨rfl, rfl, rfl, rfl, rfl, rfl, rfl⟩ := h
          have hz : gvN t ≠ 0 := by omega
          have hr := gv_range hbt
          obtain ⟨g1, g2⟩ := gv_inv hbt hz
          have hc00 : c = 0 := by omega
          have hl : ((t.drop (gvN t)).take (gvV t).toNat).length = (gvV t).toNat := by rw [List.length_take, List.length_drop]; omega
          refine ⟨?_, ?_, by omega, by omega⟩
          · simp only [cErr, Bool.false_eq_true, if_false, hl]
            rw [if_neg (by omega)]
          · simp only [putC, Bool.false_eq_true, if_false, hl]
            rw [show 1 + gvN t + (gvV t).toNat = gvN t + (gvV t).toNat + 1 by omega, List.take_succ_cons, List.take_add, g1, hc00]
end Go.Proofs.YtolcekkcenedjaaGreat.Sx

namespace Go.Proofs.YtolcekkcenedjaaGreat.Sx

theorem ltL_total : ∀ (x y : List Int), ltL x y = false → x ≠ y → ltL y x = true
  | [], [], _, h => absurd rfl h
  | [], _ :: _, h, _ => by simp [ltL] at h
  | _ :: _, [], _, _ => by simp [ltL]
  | a :: x, b :: y, h, hne => by
    simp only [ltL, Bool.or_eq_false_iff, decide_eq_false_iff_not, Bool.and_eq_false_iff] at h
    simp only [ltL, Bool.or_eq_true, decide_eq_true_eq, Bool.and_eq_true]
    by_cases hab : a = b
    · subst hab
      rcases h.2 with h2 | h2
      · exact absurd rfl h2
      · exact .inr ⟨rfl, ltL_total x y h2 (fun e => hne (by rw [e]))⟩
    · exact .inl (by omega)

theorem nextI_inv {last b : List Int} (hb : ∀ c ∈ b, 0 ≤ c ∧ c < 256) {x : It} {r : List Int} (h : nextI last b = some (x, r)) :
    b = encI last x ++ r ∧ ltL last x.1 = true ∧ 0 ≤ x.2.2.2.2.2.2.2 ∧ x.2.2.2.2.2.2.2 < 4294967296 := by
  unfold nextI at h
  split at h
  · rename_i u v ha
    have hr := allL_range 2 b _ hb ha
    have hu := hr u (by simp)
    have hv := hr v (by simp)
    have hinv := allL_inv 2 b _ hb ha
    split at h
    · cases h
    · rename_i hcond
      generalize allA 2 b = N at *
      split at h
      · rename_i c r' hd
        have hsub : ∀ d ∈ c :: r', d ∈ b := by rw [← hd]; exact fun d h => List.mem_of_mem_drop h
        have hc0 := hb c (hsub c (by simp))
        have hbr : ∀ d ∈ r', 0 ≤ d ∧ d < 256 := fun d hd' => hb d (hsub d (List.mem_cons_of_mem _ hd'))
        have hb3 : b = putL [u, v] ++ ((b.drop N).take v.toNat ++ c :: r') := by
          rw [← hinv, ← hd, ← List.drop_drop, List.take_append_drop, List.take_append_drop]
        have hmid : ((b.drop N).take v.toNat).length = v.toNat := by rw [List.length_take, List.length_drop]; omega
        have hpre : (last.take u.toNat).length = u.toNat := by rw [List.length_take]; omega
        have hkd : (last.take u.toNat ++ (b.drop N).take v.toNat).drop u.toNat = (b.drop N).take v.toNat := List.drop_left' hpre
        have hkl : (last.take u.toNat ++ (b.drop N).take v.toNat).length = u.toNat + v.toNat := by rw [List.length_append, hpre, hmid]
        generalize last.take u.toNat ++ (b.drop N).take v.toNat = key at *
        generalize (b.drop N).take v.toNat = mid at *
        split at h
        · cases h
        · rename_i hn
          have c5 : (alike last key : Int) = u := Decidable.not_not.1 (fun e => hn (.inr (.inl e)))
          have c6 : ltL key last = false := by cases hq : ltL key last; rfl; exact absurd (.inr (.inr (.inl hq))) hn
          have c7 : key ≠ last := fun e => hn (.inr (.inr (.inr e)))
          have hlt := ltL_total key last c6 c7
          have hal : alike last key = u.toNat := by omega
          have hP : putL [(alike last key : Int), (key.length : Int) - alike last key] = putL [u, v] := by
            rw [hkl, hal]
            congr 2
            · omega
            · congr 1; omega
          rw [hal] at hP
          split at h
          · rename_i hc1
            simp only [Option.some.injEq, Prod.mk.injEq] at h
            obtain ⟨rfl, rfl⟩ := h
            refine ⟨?_, hlt, by simp, by simp⟩
            simp only [encI, hP, hal, hkd, if_true]
            rw [hb3, hc1]; simp
          · rename_i hc1
            split at h
            · rename_i f y s a n m k hg
              simp only [Option.some.injEq, Prod.mk.injEq] at h
              obtain ⟨rfl, rfl⟩ := h
              obtain ⟨g1, g2, g3, g4⟩ := getC_inv hbr hg
              refine ⟨?_, hlt, g3, g4⟩
              simp only [encI, hP, hal, hkd, Bool.false_eq_true, if_false, ← g2]
              have hc00 : c = 0 := by omega
              rw [hb3, hc00]; simp
            · cases h
      · cases h
  · cases h

theorem items_inv : ∀ (n : Nat) (last b : List Int) (l : List It) (r : List Int), (∀ c ∈ b, 0 ≤ c ∧ c < 256) → items n last b = some (l, r) →
    b = encL last l ++ r ∧ l.length = n ∧ srt (some last) l = true ∧ ∀ x ∈ l, 0 ≤ x.2.2.2.2.2.2.2 ∧ x.2.2.2.2.2.2.2 < 4294967296
  | 0, last, b, l, r, _, h => by
    simp only [items, Option.some.injEq, Prod.mk.injEq] at h
    obtain ⟨rfl, rfl⟩ := h
    exact ⟨by simp [encL], rfl, rfl, fun x hx => by cases hx⟩
  | n + 1, last, b, l, r, hb, h => by
    simp only [items] at h
    split at h
    · rename_i x r1 hx
      split at h
      · rename_i hz
        split at h
        · rename_i xs r2 hi
          simp only [Option.some.injEq, Prod.mk.injEq] at h
          obtain ⟨rfl, rfl⟩ := h
          obtain ⟨k1, k2, k3⟩ := nextI_inv hb hx
          have hsub := (next_sub hx).1
          obtain ⟨j1, j2, j3, j4⟩ := items_inv n x.1 r1 xs r2 (fun c hc => hb c (hsub c hc)) hi
          refine ⟨?_, by simp [j2], ?_, ?_⟩
          · rw [encL, List.append_assoc, ← j1, ← k1]
          · simp only [srt, hz, decide_true, k2, j3, Bool.and_self]
          · intro y hy
            rcases List.mem_cons.1 hy with rfl | hy
            · exact k3
            · exact j4 y hy
        · cases h
      · cases h
    · cases h

theorem srt_none {p : List Int} {l : List It} (h : srt (some p) l = true) : srt none l = true := by
  cases l with
  | nil => rfl
  | cons x r =>
    simp only [srt, Bool.and_eq_true] at h ⊢
    exact ⟨⟨h.1.1, trivial⟩, h.2⟩

theorem blkGet_inv {b : List Int} (hb : ∀ c ∈ b, 0 ≤ c ∧ c < 256) {l : List It} (h : blkGet b = some l) :
    b = putL [(l.length : Int)] ++ encL [] l ∧ 1 ≤ l.length ∧ l.length ≤ 256 ∧ srt none l = true ∧ ∀ x ∈ l, 0 ≤ x.2.2.2.2.2.2.2 ∧ x.2.2.2.2.2.2.2 < 4294967296 := by
  unfold blkGet at h
  split at h
  · cases h
  · rename_i hc
    split at h
    · rename_i l' hi
      simp only [Option.some.injEq] at h
      subst h
      have hz : gvN b ≠ 0 := fun e => hc (.inl e)
      have hr := gv_range hb
      obtain ⟨g1, g2⟩ := gv_inv hb hz
      obtain ⟨j1, j2, j3, j4⟩ := items_inv _ _ _ _ _ (fun c hc => hb c (List.mem_of_mem_drop hc)) hi
      refine ⟨?_, by omega, by omega, srt_none j3, j4⟩
      rw [List.append_nil] at j1
      rw [← j1, show (l'.length : Int) = gvV b by omega]
      have e : putL [gvV b] = one (gvV b).toNat := by simp [putL]
      rw [e, ← g1, List.take_append_drop]
    · cases h
end Go.Proofs.YtolcekkcenedjaaGreat.Sx

namespace Go.Proofs.YtolcekkcenedjaaGreat.Sx

theorem ltL_asymm : ∀ (x y : List Int), ltL x y = true → ltL y x = false ∧ y ≠ x
  | x, [], h => by cases x <;> simp [ltL] at h
  | [], b :: y, h => by simp [ltL]
  | a :: x, b :: y, h => by
    simp only [ltL, Bool.or_eq_true, decide_eq_true_eq, Bool.and_eq_true] at h
    simp only [ltL, Bool.or_eq_false_iff, decide_eq_false_iff_not, Bool.and_eq_false_iff]
    rcases h with h | ⟨h1, h2⟩
    · exact ⟨⟨by omega, .inl (by omega)⟩, fun e => by simp only [List.cons.injEq] at e; omega⟩
    · obtain ⟨k1, k2⟩ := ltL_asymm x y h2
      exact ⟨⟨by omega, .inr k1⟩, fun e => by simp only [List.cons.injEq] at e; exact k2 e.2⟩

theorem alike_take : ∀ (x y : List Int), x.take (alike x y) = y.take (alike x y)
  | [], y => by simp [alike]
  | _ :: _, [] => by simp [alike]
  | a :: x, b :: y => by
    simp only [alike]
    split
    · rename_i h; rw [List.take_succ_cons, List.take_succ_cons, alike_take x y, h]
    · simp

theorem all2 (s a : Int) (r : List Int) (hs : 0 ≤ s ∧ s < 18446744073709551616) (ha : 0 ≤ a ∧ a < 18446744073709551616) :
    allL 2 (putL [s, a] ++ r) = some [s, a] ∧ allA 2 (putL [s, a] ++ r) = (putL [s, a]).length := by
  have e : putL [s, a] ++ r = one s.toNat ++ (one a.toNat ++ r) := by simp [putL]
  have p1 := one_pos s.toNat; have p2 := one_pos a.toNat
  obtain ⟨v1, n1⟩ := gv_one s.toNat (one a.toNat ++ r) (by omega)
  obtain ⟨v2, n2⟩ := gv_one a.toNat r (by omega)
  rw [e]
  simp only [allL, allA, v1, n1, List.drop_left, v2, n2]
  rw [if_neg (by omega), if_neg (by omega), if_neg (by omega), if_neg (by omega)]
  refine ⟨?_, by simp [putL]⟩
  simp only
  congr 2
  · omega
  · congr 1; omega

theorem nextI_enc {last : List Int} {x : It} {r : List Int} (hx : itErr x = 0) (hlt : ltL last x.1 = true) (hm : 0 ≤ x.2.2.2.2.2.2.2 ∧ x.2.2.2.2.2.2.2 < 4294967296) : nextI last (encI last x ++ r) = some (x, r) := by
  obtain ⟨k, d, f, b, s, a, n, m⟩ := x
  simp only [itErr] at hx
  obtain ⟨q1, q2, q3⟩ := iErr_ok hx
  obtain ⟨a1, a2⟩ := alike_le last k
  obtain ⟨t1, t2⟩ := ltL_asymm _ _ hlt
  simp only at hlt hm t1 t2
  have htk := alike_take last k
  simp only [encI]
  generalize hA : alike last k = A at *
  generalize hR : (if d = true then [1] else 0 :: putC f b s a n m) ++ r = R
  have hR' : putL [(A : Int), (k.length : Int) - A] ++ (k.drop A ++ (if d = true then [1] else 0 :: putC f b s a n m)) ++ r = putL [(A : Int), (k.length : Int) - A] ++ (k.drop A ++ R) := by rw [← hR]; simp only [List.append_assoc]
  rw [hR']
  obtain ⟨e1, e2⟩ := all2 (A : Int) ((k.length : Int) - A) (k.drop A ++ R) (by omega) (by omega)
  have hkl : (k.drop A).length = ((k.length : Int) - A).toNat := by rw [List.length_drop]; omega
  have hRne : 1 ≤ R.length := by rw [← hR]; cases d <;> simp
  unfold nextI
  simp only [e1, e2]
  rw [if_neg (by simp only [List.length_append, hkl]; omega)]
  have d1 : (putL [(A : Int), (k.length : Int) - A] ++ (k.drop A ++ R)).drop ((putL [(A : Int), (k.length : Int) - A]).length + ((k.length : Int) - A).toNat) = R := by
    rw [← List.drop_drop, List.drop_left, ← hkl, List.drop_left]
  have d2 : ((putL [(A : Int), (k.length : Int) - A] ++ (k.drop A ++ R)).drop (putL [(A : Int), (k.length : Int) - A]).length).take ((k.length : Int) - A).toNat = k.drop A := by
    rw [List.drop_left, ← hkl, List.take_left]
  have hkey : last.take (A : Int).toNat ++ k.drop A = k := by
    rw [Int.toNat_natCast, htk, List.take_append_drop]
  rw [d1, d2, hkey, hA]
  cases d
  · simp only [Bool.false_eq_true, if_false, List.cons_append] at hR
    subst hR
    have hg := getC_putC f b s a n m r q3 hm.1 hm.2
    simp only [t1, t2, hg]
    simp
  · simp only [if_true, List.cons_append, List.nil_append] at hR
    subst hR
    have hz : f = false ∧ b = [] ∧ s = 0 ∧ a = 0 ∧ n = 0 ∧ m = 0 := by
      unfold iErr at hx
      split at hx
      · cases hx
      · rename_i hn
        exact Decidable.not_not.1 (fun h => hn (.inr (.inr ⟨rfl, h⟩)))
    obtain ⟨rfl, rfl, rfl, rfl, rfl, rfl⟩ := hz
    simp [t1, t2]

theorem items_enc : ∀ (l : List It) (last r : List Int), srt (some last) l = true → (∀ x ∈ l, 0 ≤ x.2.2.2.2.2.2.2 ∧ x.2.2.2.2.2.2.2 < 4294967296) → items l.length last (encL last l ++ r) = some (l, r)
  | [], last, r, _, _ => by simp [items, encL]
  | x :: l, last, r, h, hm => by
    simp only [srt, Bool.and_eq_true, decide_eq_true_eq] at h
    obtain ⟨⟨h1, h2⟩, h3⟩ := h
    have hn := nextI_enc (last := last) (x := x) (r := encL x.1 l ++ r) h1 h2 (hm x (by simp))
    have ih := items_enc l x.1 r h3 (fun y hy => hm y (by simp [hy]))
    simp only [List.length_cons, items, encL, List.append_assoc, hn, if_pos h1, ih]

theorem srt_some {l : List It} (h : srt none l = true) : srt (some []) l = true := by
  cases l with
  | nil => rfl
  | cons x r =>
    simp only [srt, Bool.and_eq_true, decide_eq_true_eq] at h ⊢
    obtain ⟨k, d, f, b, s, a, n, m⟩ := x
    have h1 : itErr (k, d, f, b, s, a, n, m) = 0 := h.1.1
    simp only [itErr] at h1
    have hk := (iErr_ok h1).1
    refine ⟨⟨h.1.1, ?_⟩, h.2⟩
    cases k with
    | nil => simp at hk
    | cons => simp [ltL]

theorem blkGet_enc {l : List It} (h1 : 1 ≤ l.length) (h2 : l.length ≤ 256) (h : srt none l = true) (hm : ∀ x ∈ l, 0 ≤ x.2.2.2.2.2.2.2 ∧ x.2.2.2.2.2.2.2 < 4294967296) :
    blkGet (putL [(l.length : Int)] ++ encL [] l) = some l := by
  have e : putL [(l.length : Int)] = one l.length := by simp [putL]
  have p := one_pos l.length
  obtain ⟨v1, n1⟩ := gv_one l.length (encL [] l) (by omega)
  have hi := items_enc l [] [] (srt_some h) hm
  rw [List.append_nil] at hi
  rw [e]
  unfold blkGet
  rw [v1, n1, if_neg (by omega), List.drop_left, Int.toNat_natCast, hi]
end Go.Proofs.YtolcekkcenedjaaGreat.Sx

set_option maxHeartbeats 1600000
namespace Go.Proofs.YtolcekkcenedjaaGreat.Sx

def looseI (last b : List Int) : Option (It × List Int) :=
  if gvN b = 0 ∨ gvN (b.drop (gvN b)) = 0 ∨ (last.length : Int) < gvV b ∨ 64 < gvV (b.drop (gvN b)) then none else
  match b.drop (gvN b + gvN (b.drop (gvN b)) + (gvV (b.drop (gvN b))).toNat) with
  | c :: r =>
    if c = 1 then some ((last.take (gvV b).toNat ++ (b.drop (gvN b + gvN (b.drop (gvN b)))).take (gvV (b.drop (gvN b))).toNat, true, false, [], 0, 0, 0, 0), r)
    else match getC r with
      | some (f, y, s, a, n, m, k) => some ((last.take (gvV b).toNat ++ (b.drop (gvN b + gvN (b.drop (gvN b)))).take (gvV (b.drop (gvN b))).toNat, false, f, y, s, a, n, m), r.drop k)
      | none => none
  | [] => none
def loose : Nat → List Int → List Int → Option (List It × List Int)
  | 0, _, b => some ([], b)
  | n + 1, last, b => match looseI last b with
    | some (x, r) => (match loose n x.1 r with
      | some (xs, r') => some (x :: xs, r')
      | none => none)
    | none => none
def okL (b : List Int) (l : List It) : List It := if 1 ≤ l.length ∧ l.length ≤ 256 ∧ srt none l = true ∧ putL [(l.length : Int)] ++ encL [] l = b then l else []
def refGet (b : List Int) : List It := if gvN b = 0 ∨ 256 < gvV b then [] else
  match loose (gvV b).toNat [] (b.drop (gvN b)) with
  | some (l, []) => okL b l
  | _ => []
def fin48 (b : List Int) (o : Option (List It × List Int)) (l : List It) : List D := match o with
  | some (xs, []) => [⟨.sl ItT, okL b (l ++ xs)⟩]
  | _ => [⟨.sl ItT, ([] : List It)⟩]

theorem cErr_len {f : Bool} {b : List Int} {s a n m : Int} (h : cErr f b s a n m = 0) : b.length ≤ 32 := by
  unfold cErr at h
  split at h
  · split at h <;> omega
  · split at h <;> omega
theorem getC_rng {x : List Int} (hb : ∀ c ∈ x, 0 ≤ c ∧ c < 256) {f : Bool} {b : List Int} {s a n m : Int} {k : Nat} (h : getC x = some (f, b, s, a, n, m, k)) : b.length ≤ 32 :=
  cErr_len (getC_inv hb h).1
theorem getC_pos {x : List Int} {f : Bool} {b : List Int} {s a n m : Int} {k : Nat} (h : getC x = some (f, b, s, a, n, m, k)) : 1 ≤ k := by
  unfold getC at h
  split at h
  · cases h
  · split at h
    · cases h
    · split at h
      · split at h
        · simp only [Option.some.injEq, Cl, Prod.mk.injEq] at h
          omega
        · cases h
      · split at h
        · cases h
        · simp only [Option.some.injEq, Cl, Prod.mk.injEq] at h
          omega

theorem f48 (b : List Int) (hb : ∀ c ∈ b, 0 ≤ c ∧ c < 256) (hl : b.length < 10000000000) : F48 [⟨.sl (.int .u8), b⟩] = some [⟨.sl ItT, refGet b⟩] := by
  have h92 := s92 (lc := [c92, c44, c33, c34, c21]) rfl
  have h44 := s44 (lc := [c92, c44, c33, c34, c21]) rfl
  have h33 := s33 (lc := [c92, c44, c33, c34, c21]) rfl
  have h34 := s34 (lc := [c92, c44, c33, c34, c21]) rfl
  have h21 := s21 (lc := [c92, c44, c33, c34, c21]) rfl
  simp only [F48, Fof, ir48]
  generalize Phi [c92, c44, c33, c34, c21] = Φ at *
  have k92 := h92 b hb (by omega)
  have hr := gv_range hb
  unfold refGet
  by_cases c1 : gvN b = 0
  · rw [if_pos (.inl c1)]
    have c1' : ((gvN b : Nat) : Int) = 0 := by omega
    simp -implicitDefEqProofs [k92, c1]
  by_cases c2 : 256 < gvV b
  · rw [if_pos (.inr c2)]
    have c1' : ¬ ((gvN b : Nat) : Int) = 0 := by omega
    simp -implicitDefEqProofs [k92, c1, c2]
  rw [if_neg (by rintro (h | h); exact c1 h; exact c2 h)]
  have c1' : ¬ ((gvN b : Nat) : Int) = 0 := by omega
  have hfin : ([⟨.sl ItT, match loose (gvV b).toNat [] (b.drop (gvN b)) with | some (l, []) => okL b l | _ => []⟩] : List D) = fin48 b (loose (gvV b).toNat [] (b.drop (gvN b))) [] := by
    unfold fin48
    split <;> rename_i h <;> simp [h]
  rw [hfin]
  have hg := hr.2.2.2
  generalize hgN : gvN b = g at *
  generalize hgV : gvV b = n at *
  have wn : IntKind.i64.wrap n = n := wi64 _ (by omega) (by omega)
  have hmk0 : mkD ItT 0 [] = some ⟨.sl ItT, []⟩ := rfl
  simp -implicitDefEqProofs [k92, c1, c2, hmk0]
  have hn : 0 ≤ n ∧ n ≤ 256 := by omega
  refine (iter_meas (fun s : Int × List It × List Int × Int => (n - s.2.2.2).toNat) (fun s => fin48 b (loose (n - s.2.2.2).toNat s.2.2.1 (b.drop s.1.toNat)) s.2.1)
    (fun s => 0 ≤ s.1 ∧ s.1 ≤ b.length ∧ (s.2.2.1.length : Int) ≤ 64 * s.2.2.2 ∧ 0 ≤ s.2.2.2 ∧ s.2.2.2 ≤ n ∧ s.2.1.length ≤ s.2.2.2.toNat ∧ ∀ x ∈ s.2.1, x.2.2.2.1.length ≤ 32 ∧ 0 ≤ x.2.2.2.2.2.2.2 ∧ x.2.2.2.2.2.2.2 < 4294967296)
    ?_ ?_).trans (by simp)
  · exact ⟨by exact (by omega : (0:Int) ≤ g), by exact (by omega : (g:Int) ≤ b.length), by simp, by exact (by omega : (0:Int) ≤ 0), by exact (by omega : (0:Int) ≤ n), by simp, by simp⟩
  rintro ⟨t, l0, last, i⟩ ⟨i0, i1, i2, i4, i5, i6, i7⟩
  simp only at i0 i1 i2 i4 i5 i6 i7 ⊢
  by_cases hi : i < n
  · rw [show (n - i).toNat = (n - (i + 1)).toNat + 1 by omega]
    have wi : IntKind.i64.wrap (i + 1) = i + 1 := wi64 _ (by omega) (by omega)
    simp only [loose]
    have hb1 : ∀ c ∈ b.drop t.toNat, 0 ≤ c ∧ c < 256 := fun c hc => hb c (List.mem_of_mem_drop hc)
    have l1 : (b.drop t.toNat).length = b.length - t.toNat := List.length_drop
    have k1 := h92 (b.drop t.toNat) hb1 (by omega)
    have r1 := gv_range hb1
    have hb2 : ∀ c ∈ (b.drop t.toNat).drop (gvN (b.drop t.toNat)), 0 ≤ c ∧ c < 256 := fun c hc => hb1 c (List.mem_of_mem_drop hc)
    have l2 : ((b.drop t.toNat).drop (gvN (b.drop t.toNat))).length = b.length - t.toNat - gvN (b.drop t.toNat) := by rw [List.length_drop, l1]
    have k2 := h92 ((b.drop t.toNat).drop (gvN (b.drop t.toNat))) hb2 (by omega)
    have r2 := gv_range hb2
    have bt : 0 ≤ t ∧ t ≤ b.length := ⟨i0, i1⟩
    unfold looseI
    generalize hB : b.drop t.toNat = B at *
    generalize hB2 : B.drop (gvN B) = B2 at *
    generalize gvV B = u at *
    generalize gvN B = k at *
    generalize gvV B2 = v at *
    generalize gvN B2 = m at *
    have w1 : IntKind.i64.wrap (t + k) = t + k := wi64 _ (by omega) (by omega)
    have w2 : IntKind.i64.wrap (t + k + m) = t + k + m := wi64 _ (by omega) (by omega)
    have bt2 : 0 ≤ t + (k : Int) ∧ t + (k : Int) ≤ b.length := by omega
    have e2 : b.drop (t + (k : Int)).toNat = B2 := by rw [show (t + (k : Int)).toNat = t.toNat + k by omega, ← List.drop_drop, hB, hB2]
    have wl : IntKind.u64.wrap (last.length : Int) = last.length := wu64 _ (by omega) (by omega)
    by_cases d1 : k = 0
    · refine .inr ?_
      subst d1
      simp only [Int.natCast_zero, Int.add_zero] at w1 bt2 e2
      rw [if_pos (show ((0 : Nat) = 0 ∨ m = 0 ∨ (last.length : Int) < u ∨ 64 < v) from .inl rfl)]
      simp -implicitDefEqProofs [wn, hi, bt, hB, k1, w1, e2, k2, fin48]
    have d1' : ¬ (k : Int) = 0 := by omega
    by_cases d2 : m = 0
    · refine .inr ?_
      have d2' : (m : Int) = 0 := by omega
      rw [if_pos (show (k = 0 ∨ m = 0 ∨ (last.length : Int) < u ∨ 64 < v) from .inr (.inl d2))]
      simp -implicitDefEqProofs [wn, hi, bt, hB, k1, w1, bt2, e2, k2, d1, d2, fin48]
    have d2' : ¬ (m : Int) = 0 := by omega
    by_cases d3 : (last.length : Int) < u
    · refine .inr ?_
      rw [if_pos (show (k = 0 ∨ m = 0 ∨ (last.length : Int) < u ∨ 64 < v) from .inr (.inr (.inl d3)))]
      simp -implicitDefEqProofs [wn, hi, bt, hB, k1, w1, bt2, e2, k2, d1, d2, wl, d3, fin48]
    by_cases d4 : 64 < v
    · refine .inr ?_
      rw [if_pos (show (k = 0 ∨ m = 0 ∨ (last.length : Int) < u ∨ 64 < v) from .inr (.inr (.inr d4)))]
      simp -implicitDefEqProofs [wn, hi, bt, hB, k1, w1, bt2, e2, k2, d1, d2, wl, d3, d4, fin48]
    rw [if_neg (show ¬ (k = 0 ∨ m = 0 ∨ (last.length : Int) < u ∨ 64 < v) by rintro (h | h | h | h); exact d1 h; exact d2 h; exact d3 h; exact d4 h)]
    have wv : IntKind.i64.wrap v = v := wi64 _ (by omega) (by omega)
    have w3 : IntKind.i64.wrap (t + k + m + v) = t + k + m + v := wi64 _ (by omega) (by omega)
    have eD : B.drop (k + m + v.toNat) = b.drop (t + k + m + v).toNat := by
      rw [← hB, List.drop_drop]; congr 1; omega
    rw [eD]
    by_cases d5 : (b.length : Int) ≤ t + k + m + v
    · refine .inr ?_
      rw [List.drop_eq_nil_of_le (by omega)]
      simp -implicitDefEqProofs [wn, hi, bt, hB, k1, w1, bt2, e2, k2, d1, d2, wl, d3, d4, w2, wv, w3, d5, fin48]
    have e0 : 0 ≤ t + (k : Int) + m + v ∧ t + (k : Int) + m + v < b.length := by omega
    have hD := dropI e0.1 e0.2
    have hcb := hb (b[(t + (k : Int) + m + v).toNat]'(by omega)) (List.getElem_mem _)
    have hx : b[(t + (k : Int) + m + v).toNat]? = some (b[(t + (k : Int) + m + v).toNat]'(by omega)) := List.getElem?_eq_getElem (by omega)
    have hgi := getI (d := dflt (Ty.int IntKind.u8)) e0.1 e0.2
    rw [hD]
    generalize hcc : b[(t + (k : Int) + m + v).toNat]'(by omega) = c at *
    have w4 : IntKind.i64.wrap (t + k + m + v + 1) = t + k + m + v + 1 := wi64 _ (by omega) (by omega)
    have wu : IntKind.i64.wrap u = u := wi64 _ (by omega) (by omega)
    have b1 : (0 : Int) ≤ u ∧ u ≤ last.length := by omega
    have b2 : 0 ≤ t + (k : Int) + m ∧ t + (k : Int) + m ≤ t + k + m + v ∧ t + (k : Int) + m + v ≤ b.length := by omega
    have hkey : (b.take (t + (k : Int) + m + v).toNat).drop (t + (k : Int) + m).toNat = (B.drop (k + m)).take v.toNat := by
      rw [List.drop_take, ← hB, List.drop_drop]
      rw [show (t + (k : Int) + m + v).toNat - (t + (k : Int) + m).toNat = v.toNat by omega, show t.toNat + (k + m) = (t + (k : Int) + m).toNat by omega]
    have hkl : (last.take u.toNat ++ (B.drop (k + m)).take v.toNat).length ≤ last.length + 64 := by
      rw [List.length_append, List.length_take, List.length_take]; omega
    have B1 : u.toNat + min v.toNat (B.length - (k + m)) ≤ BIG := by simp only [BIG]; omega
    have b4 : 0 ≤ t + (k : Int) + m + v + 1 ∧ t + (k : Int) + m + v + 1 ≤ b.length := by omega
    have hbig : l0.length + 1 ≤ BIG := by simp only [BIG]; omega
    generalize hkeyd : last.take u.toNat ++ (B.drop (k + m)).take v.toNat = key at *
    by_cases c7 : c = 1
    · simp only [if_pos c7]
      subst c7
      have hmk : mkD ItT 1 [⟨.str, key⟩, ⟨.bool, true⟩, ⟨.bool, false⟩, ⟨.sl (.int .u8), []⟩, ⟨.int .i64, 0⟩, ⟨.int .i64, 0⟩, ⟨.int .i64, 0⟩, ⟨.int .u32, 0⟩] = some ⟨.sl ItT, [(key, true, false, [], 0, 0, 0, 0)]⟩ := rfl
      refine .inl ⟨(t + (k : Int) + m + v + 1, l0 ++ [(key, true, false, [], 0, 0, 0, 0)], key, i + 1), ?_, ⟨by (try simp only); omega, by (try simp only); omega, by (try simp only); omega, by (try simp only); omega, by (try simp only); omega, by simp; omega, ?_⟩, by (try simp only); omega, ?_⟩
      · simp -implicitDefEqProofs [wn, hi, wi, bt, hB, k1, w1, bt2, e2, k2, d1, d2, wl, wu, d3, d4, w2, wv, w3, w4, d5, e0, b1, b2, b4, hkey, B1, hkeyd, hgi, hcc, hmk, hbig]
      · intro x hx
        rcases List.mem_append.1 hx with hx | hx
        · exact i7 x hx
        · rw [List.mem_singleton.1 hx]; simp
      · simp only
        generalize loose (n - (i + 1)).toNat key (b.drop (t + (k : Int) + m + v + 1).toNat) = o
        cases o with
        | none => rfl
        | some z =>
          obtain ⟨xs, r'⟩ := z
          cases r' <;> simp [fin48]
    · simp only [if_neg c7]
      have hb3 : ∀ c ∈ b.drop (t + (k : Int) + m + v + 1).toNat, 0 ≤ c ∧ c < 256 := fun c hc => hb c (List.mem_of_mem_drop hc)
      have l3 : (b.drop (t + (k : Int) + m + v + 1).toNat).length = b.length - (t + (k : Int) + m + v + 1).toNat := List.length_drop
      have k44 := h44 (b.drop (t + (k : Int) + m + v + 1).toNat) hb3 (by omega)
      cases hg : getC (b.drop (t + (k : Int) + m + v + 1).toNat) with
      | none =>
        refine .inr ?_
        simp only [hg, resC] at k44
        simp -implicitDefEqProofs [wn, hi, wi, bt, hB, k1, w1, bt2, e2, k2, d1, d2, wl, wu, d3, d4, w2, wv, w3, w4, d5, e0, b1, b2, b4, hkey, B1, hkeyd, hgi, hcc, c7, k44, fin48]
      | some y =>
        obtain ⟨f, y, s, a, q, w, z⟩ := y
        have hz := getC_le hb3 hg
        have hz0 := getC_pos hg
        have hy := getC_rng hb3 hg
        have hw := (getC_inv hb3 hg).2.2
        simp only [hg, resC] at k44
        have hz' : ¬ z = 0 := by omega
        have w5 : IntKind.i64.wrap (t + k + m + v + 1 + z) = t + k + m + v + 1 + z := wi64 _ (by omega) (by omega)
        have hmk : mkD ItT 1 [⟨.str, key⟩, ⟨.bool, false⟩, ⟨.bool, f⟩, ⟨.sl (.int .u8), y⟩, ⟨.int .i64, s⟩, ⟨.int .i64, a⟩, ⟨.int .i64, q⟩, ⟨.int .u32, w⟩] = some ⟨.sl ItT, [(key, false, f, y, s, a, q, w)]⟩ := rfl
        refine .inl ⟨(t + (k : Int) + m + v + 1 + z, l0 ++ [(key, false, f, y, s, a, q, w)], key, i + 1), ?_, ⟨by (try simp only); omega, by (try simp only); omega, by (try simp only); omega, by (try simp only); omega, by (try simp only); omega, by simp; omega, ?_⟩, by (try simp only); omega, ?_⟩
        · simp -implicitDefEqProofs [wn, hi, wi, bt, hB, k1, w1, bt2, e2, k2, d1, d2, wl, wu, d3, d4, w2, wv, w3, w4, w5, d5, e0, b1, b2, b4, hkey, B1, hkeyd, hgi, hcc, c7, k44, hz', hmk, hbig]
        · intro x hx
          rcases List.mem_append.1 hx with hx | hx
          · exact i7 x hx
          · rw [List.mem_singleton.1 hx]; exact ⟨hy, hw⟩
        · simp only [List.drop_drop]
          rw [show (t + (k : Int) + m + v + 1).toNat + z = (t + (k : Int) + m + v + 1 + z).toNat by omega]
          generalize loose (n - (i + 1)).toNat key (b.drop (t + (k : Int) + m + v + 1 + z).toNat) = o
          cases o with
          | none => rfl
          | some z =>
            obtain ⟨xs, r'⟩ := z
            cases r' <;> simp [fin48]
  · refine .inr ?_
    rw [show (n - i).toNat = 0 by omega]
    simp only [loose]
    by_cases e1 : t = b.length
    · rw [List.drop_eq_nil_of_le (by omega)]
      have k33 := h33 l0 (by omega) (fun x hx => by have := (i7 x hx).1; omega)
      simp only [fin48, List.append_nil]
      by_cases hc : 1 ≤ l0.length ∧ l0.length ≤ 256 ∧ srt none l0 = true
      · have e33 : (decide (1 ≤ l0.length ∧ l0.length ≤ 256) && srt none l0) = true := by simp [hc.1, hc.2.1, hc.2.2]
        rw [e33] at k33
        have k34 := h34 l0 hc.2.1 hc.2.2 (fun x hx => (i7 x hx).2)
        have hlen := encL_len [] l0 (srt_ok _ l0 hc.2.2)
        have hP := putL_len [(l0.length : Int)] (by simp; omega)
        simp only [List.length_cons, List.length_nil] at hP
        have k21 := h21 (putL [(l0.length : Int)] ++ encL [] l0) b (by rw [List.length_append]; omega)
        generalize hX' : putL [(l0.length : Int)] ++ encL [] l0 = X at *
        by_cases hX : X = b
        · rw [decide_eq_true hX] at k21
          have hok : okL b l0 = l0 := if_pos ⟨hc.1, hc.2.1, hc.2.2, hX'.trans hX⟩
          simp -implicitDefEqProofs [wn, hi, e1, k33, k34, k21, hok]
        · rw [decide_eq_false hX] at k21
          have hok : okL b l0 = [] := if_neg (fun h => hX (hX'.symm.trans h.2.2.2))
          simp -implicitDefEqProofs [wn, hi, e1, k33, k34, k21, hok]
      · have e33 : (decide (1 ≤ l0.length ∧ l0.length ≤ 256) && srt none l0) = false := by
          rw [Bool.eq_false_iff]; intro h
          simp only [Bool.and_eq_true, decide_eq_true_eq] at h
          exact hc ⟨h.1.1, h.1.2, h.2⟩
        rw [e33] at k33
        have hok : okL b l0 = [] := if_neg (fun h => hc ⟨h.1, h.2.1, h.2.2.1⟩)
        simp -implicitDefEqProofs [wn, hi, e1, k33, hok]
    · have hne : b.drop t.toNat ≠ [] := by
        intro h
        have := congrArg List.length h
        rw [List.length_drop, List.length_nil] at this
        omega
      have e1' : ¬ t = (b.length : Int) := e1
      cases hD : b.drop t.toNat with
      | nil => exact absurd hD hne
      | cons d r =>
        simp -implicitDefEqProofs [wn, hi, e1, fin48]
theorem s48 {lc : List Ct} (hl0 : look (lc.map fun c => (c.sig.id, c)) 48 = some c48) : ∀ (b : List Int) (hb : ∀ c ∈ b, 0 ≤ c ∧ c < 256) (hl : b.length < 10000000000), Does1 (Phi lc) 48 [⟨.sl (.int .u8), b⟩] [⟨.sl ItT, refGet b⟩] :=
  fun b hb hl => by
    have eFc : c48.F = F48 := rfl
    have eFh := f48 b hb hl
    rw [← eFc] at eFh
    exact Does1.of hl0 eFh rfl
end Go.Proofs.YtolcekkcenedjaaGreat.Sx

set_option maxHeartbeats 1600000
namespace Go.Proofs.YtolcekkcenedjaaGreat.Sx

theorem ltL_trans : ∀ (x y z : List Int), ltL x y = true → ltL y z = true → ltL x z = true
  | x, y, [], _, h => by cases y <;> simp [ltL] at h
  | x, [], z :: w, h, _ => by cases x <;> simp [ltL] at h
  | [], _ :: _, _ :: _, _, _ => by simp [ltL]
  | a :: x, b :: y, c :: z, h1, h2 => by
    simp only [ltL, Bool.or_eq_true, decide_eq_true_eq, Bool.and_eq_true] at h1 h2 ⊢
    rcases h1 with h1 | ⟨h1, k1⟩ <;> rcases h2 with h2 | ⟨h2, k2⟩
    · exact .inl (by omega)
    · exact .inl (by omega)
    · exact .inl (by omega)
    · exact .inr ⟨by omega, ltL_trans x y z k1 k2⟩

theorem srt_lt : ∀ (p : List Int) (l : List It), srt (some p) l = true → ∀ x ∈ l, ltL p x.1 = true
  | p, [], _, x, hx => by cases hx
  | p, y :: l, h, x, hx => by
    simp only [srt, Bool.and_eq_true, decide_eq_true_eq] at h
    rcases List.mem_cons.1 hx with rfl | hx
    · exact h.1.2
    · exact ltL_trans _ _ _ h.1.2 (srt_lt y.1 l h.2 x hx)

def itD (x : It) : List D := [⟨.str, x.1⟩, ⟨.bool, x.2.1⟩, ⟨.bool, x.2.2.1⟩, ⟨.sl (.int .u8), x.2.2.2.1⟩, ⟨.int .i64, x.2.2.2.2.1⟩, ⟨.int .i64, x.2.2.2.2.2.1⟩, ⟨.int .i64, x.2.2.2.2.2.2.1⟩, ⟨.int .u32, x.2.2.2.2.2.2.2⟩]

theorem looseI_enc {last : List Int} {x : It} {r : List Int} (hx : itErr x = 0) (hm : 0 ≤ x.2.2.2.2.2.2.2 ∧ x.2.2.2.2.2.2.2 < 4294967296) : looseI last (encI last x ++ r) = some (x, r) := by
  obtain ⟨k, d, f, b, s, a, n, m⟩ := x
  simp only [itErr] at hx
  obtain ⟨q1, q2, q3⟩ := iErr_ok hx
  obtain ⟨a1, a2⟩ := alike_le last k
  simp only at hm
  have htk := alike_take last k
  simp only [encI]
  generalize hA : alike last k = A at *
  generalize hR : (if d = true then [1] else 0 :: putC f b s a n m) ++ r = R
  have hR' : putL [(A : Int), (k.length : Int) - A] ++ (k.drop A ++ (if d = true then [1] else 0 :: putC f b s a n m)) ++ r = one A ++ (one (k.length - A) ++ (k.drop A ++ R)) := by
    rw [← hR]; simp only [putL, List.map_cons, List.map_nil, List.flatten_cons, List.flatten_nil, List.append_assoc, List.append_nil]
    rw [show (A : Int).toNat = A by omega, show ((k.length : Int) - A).toNat = k.length - A by omega]
  rw [hR']
  obtain ⟨v1, n1⟩ := gv_one A (one (k.length - A) ++ (k.drop A ++ R)) (by omega)
  obtain ⟨v2, n2⟩ := gv_one (k.length - A) (k.drop A ++ R) (by omega)
  have p1 := one_pos A; have p2 := one_pos (k.length - A)
  have hkl : (k.drop A).length = k.length - A := by rw [List.length_drop]
  unfold looseI
  simp only [v1, n1, List.drop_left, v2, n2]
  rw [if_neg (by omega)]
  have d1 : (one A ++ (one (k.length - A) ++ (k.drop A ++ R))).drop ((one A).length + (one (k.length - A)).length + ((k.length - A : Nat) : Int).toNat) = R := by
    rw [Int.toNat_natCast, ← List.drop_drop, ← List.drop_drop, List.drop_left, List.drop_left, ← hkl, List.drop_left]
  have d2 : ((one A ++ (one (k.length - A) ++ (k.drop A ++ R))).drop ((one A).length + (one (k.length - A)).length)).take ((k.length - A : Nat) : Int).toNat = k.drop A := by
    rw [Int.toNat_natCast, ← List.drop_drop, List.drop_left, List.drop_left, ← hkl, List.take_left]
  have hkey : last.take (A : Int).toNat ++ k.drop A = k := by
    rw [Int.toNat_natCast, htk, List.take_append_drop]
  rw [d1, d2, hkey]
  cases d
  · simp only [Bool.false_eq_true, if_false, List.cons_append] at hR
    subst hR
    have hg := getC_putC f b s a n m r q3 hm.1 hm.2
    simp only [hg]
    simp
  · simp only [if_true, List.cons_append, List.nil_append] at hR
    subst hR
    have hz : f = false ∧ b = [] ∧ s = 0 ∧ a = 0 ∧ n = 0 ∧ m = 0 := by
      unfold iErr at hx
      split at hx
      · cases hx
      · rename_i hn
        exact Decidable.not_not.1 (fun h => hn (.inr (.inr ⟨rfl, h⟩)))
    obtain ⟨rfl, rfl, rfl, rfl, rfl, rfl⟩ := hz
    simp

theorem loose_enc : ∀ (l : List It) (last r : List Int), (∀ x ∈ l, itErr x = 0) → (∀ x ∈ l, 0 ≤ x.2.2.2.2.2.2.2 ∧ x.2.2.2.2.2.2.2 < 4294967296) → loose l.length last (encL last l ++ r) = some (l, r)
  | [], last, r, _, _ => by simp [loose, encL]
  | x :: l, last, r, h, hm => by
    have hn := looseI_enc (last := last) (x := x) (r := encL x.1 l ++ r) (h x (by simp)) (hm x (by simp))
    have ih := loose_enc l x.1 r (fun y hy => h y (by simp [hy])) (fun y hy => hm y (by simp [hy]))
    simp only [List.length_cons, loose, encL, List.append_assoc, hn, ih]

theorem looseI_rng {last b : List Int} (hb : ∀ c ∈ b, 0 ≤ c ∧ c < 256) {x : It} {r : List Int} (h : looseI last b = some (x, r)) :
    (∀ c ∈ r, 0 ≤ c ∧ c < 256) ∧ 0 ≤ x.2.2.2.2.2.2.2 ∧ x.2.2.2.2.2.2.2 < 4294967296 := by
  unfold looseI at h
  split at h
  · cases h
  · split at h
    · rename_i c r' hd
      have hsub : ∀ d ∈ c :: r', d ∈ b := by rw [← hd]; exact fun d h => List.mem_of_mem_drop h
      have hbr : ∀ d ∈ r', 0 ≤ d ∧ d < 256 := fun d hd' => hb d (hsub d (List.mem_cons_of_mem _ hd'))
      split at h
      · simp only [Option.some.injEq, Prod.mk.injEq] at h
        obtain ⟨rfl, rfl⟩ := h
        exact ⟨hbr, by simp, by simp⟩
      · split at h
        · rename_i hg
          simp only [Option.some.injEq, Prod.mk.injEq] at h
          obtain ⟨rfl, rfl⟩ := h
          exact ⟨fun c hc => hbr c (List.mem_of_mem_drop hc), (getC_inv hbr hg).2.2⟩
        · cases h
    · cases h

theorem loose_rng : ∀ (n : Nat) (last b : List Int) (l : List It) (r : List Int), (∀ c ∈ b, 0 ≤ c ∧ c < 256) → loose n last b = some (l, r) →
    ∀ x ∈ l, 0 ≤ x.2.2.2.2.2.2.2 ∧ x.2.2.2.2.2.2.2 < 4294967296
  | 0, last, b, l, r, _, h => by
    simp only [loose, Option.some.injEq, Prod.mk.injEq] at h
    obtain ⟨rfl, rfl⟩ := h
    intro x hx; cases hx
  | n + 1, last, b, l, r, hb, h => by
    simp only [loose] at h
    split at h
    · rename_i x r1 hx
      split at h
      · rename_i xs r2 hi
        simp only [Option.some.injEq, Prod.mk.injEq] at h
        obtain ⟨rfl, rfl⟩ := h
        obtain ⟨k1, k2⟩ := looseI_rng hb hx
        intro y hy
        rcases List.mem_cons.1 hy with rfl | hy
        · exact k2
        · exact loose_rng n x.1 r1 xs r2 k1 hi y hy
      · cases h
    · cases h

theorem refGet_eq {b : List Int} (hb : ∀ c ∈ b, 0 ≤ c ∧ c < 256) : refGet b = (blkGet b).getD [] := by
  cases h : blkGet b with
  | some l =>
    obtain ⟨h1, h2, h3, h4, h5⟩ := blkGet_inv hb h
    have e : putL [(l.length : Int)] = one l.length := by simp [putL]
    have p := one_pos l.length
    obtain ⟨v1, n1⟩ := gv_one l.length (encL [] l) (by omega)
    have hi := loose_enc l [] [] (srt_ok _ l h4) h5
    rw [List.append_nil] at hi
    rw [← e, ← h1] at v1
    rw [← e, ← h1, e] at n1
    have hd : b.drop (gvN b) = encL [] l := by
      rw [n1]; conv => lhs; rw [h1, e]
      exact List.drop_left
    unfold refGet
    rw [hd, v1, n1, if_neg (by omega), Int.toNat_natCast, hi]
    simp only [okL, Option.getD_some]
    rw [if_pos ⟨h2, h3, h4, h1.symm⟩]
  | none =>
    simp only [Option.getD_none]
    unfold refGet
    split
    · rfl
    · split
      · rename_i l hl
        have hr := loose_rng _ _ _ _ _ (fun c hc => hb c (List.mem_of_mem_drop hc)) hl
        unfold okL
        split
        · rename_i hc
          have := blkGet_enc hc.1 hc.2.1 hc.2.2.1 hr
          rw [hc.2.2.2, h] at this
          cases this
        · rfl
      · rfl
end Go.Proofs.YtolcekkcenedjaaGreat.Sx

set_option maxHeartbeats 1600000
namespace Go.Proofs.YtolcekkcenedjaaGreat.Sx

instance : DecidableEq It := fun x y => decidable_of_iff (x.1 = y.1 ∧ x.2.1 = y.2.1 ∧ x.2.2.1 = y.2.2.1 ∧ x.2.2.2.1 = y.2.2.2.1 ∧ x.2.2.2.2.1 = y.2.2.2.2.1 ∧ x.2.2.2.2.2.1 = y.2.2.2.2.2.1 ∧ x.2.2.2.2.2.2.1 = y.2.2.2.2.2.2.1 ∧ x.2.2.2.2.2.2.2 = y.2.2.2.2.2.2.2)
  (by obtain ⟨a, b, c, d, e, f, g, h⟩ := x; obtain ⟨a', b', c', d', e', f', g', h'⟩ := y; simp only [Prod.mk.injEq])

theorem f52 (x y : It) (hx : x.2.2.2.1.length < 1000000000) : F52 (itD x ++ itD y) = some [⟨.bool, decide (x = y)⟩] := by
  have h18 := s18 (lc := [c18]) rfl
  simp only [F52, Fof, ir52]
  generalize Phi [c18] = Φ at *
  obtain ⟨k, d, f, b, s, a, n, m⟩ := x
  obtain ⟨k', d', f', b', s', a', n', m'⟩ := y
  have k18 := h18 f f' b b' s a n m s' a' n' m' hx
  simp only [itD, List.cons_append, List.nil_append]
  by_cases c1 : k = k'
  · by_cases c2 : d = d'
    · have e : (f == f' && decide (s = s' ∧ a = a' ∧ n = n' ∧ m = m') && decide (b = b')) = decide ((k, d, f, b, s, a, n, m) = (k', d', f', b', s', a', n', m')) := by
        rw [Bool.eq_iff_iff]
        simp only [Bool.and_eq_true, beq_iff_eq, decide_eq_true_eq, Prod.mk.injEq, c1, c2, true_and]
        constructor
        · rintro ⟨⟨h1, h2⟩, h3⟩; exact ⟨h1, h3, h2⟩
        · rintro ⟨h1, h3, h2⟩; exact ⟨⟨h1, h2⟩, h3⟩
      rw [e] at k18
      generalize decide ((k, d, f, b, s, a, n, m) = (k', d', f', b', s', a', n', m')) = R at *
      simp -implicitDefEqProofs [c1, c2, k18]
    · simp -implicitDefEqProofs [c1, c2]
  · simp -implicitDefEqProofs [c1]
theorem s52 {lc : List Ct} (hl0 : look (lc.map fun c => (c.sig.id, c)) 52 = some c52) : ∀ (x y : It) (hx : x.2.2.2.1.length < 1000000000), Does1 (Phi lc) 52 (itD x ++ itD y) [⟨.bool, decide (x = y)⟩] :=
  fun x y hx => by
    have eFc : c52.F = F52 := rfl
    have eFh := f52 x y hx
    rw [← eFc] at eFh
    exact Does1.of hl0 eFh rfl
theorem f50 (l w : List It) (hl : l.length < 1000000) (hb : ∀ x ∈ l, x.2.2.2.1.length < 1000000000) : F50 [⟨.sl ItT, l⟩, ⟨.sl ItT, w⟩] = some [⟨.bool, decide (l = w)⟩] := by
  have h52 := s52 (lc := [c52]) rfl
  simp only [F50, Fof, ir50]
  generalize Phi [c52] = Φ at *
  by_cases hlen : l.length = w.length
  · have hlen' : (l.length : Int) = w.length := by omega
    simp -implicitDefEqProofs [hlen']
    refine (iter_meas (fun s : Int => (l.length - s).toNat) (fun s => ([⟨.bool, decide (l.drop s.toNat = w.drop s.toNat)⟩] : List D)) (fun s => 0 ≤ s ∧ s ≤ l.length) (by exact ⟨by omega, by omega⟩) ?_).trans (by simp)
    rintro i ⟨h1, h2⟩
    by_cases hi : i < w.length
    · rw [dropI h1 (by omega), dropI (l := w) h1 (by omega)]
      have g1 := getG (l := l) (d := dflt ItT) h1 (by omega)
      have g2 := getG (l := w) (d := dflt ItT) h1 (by omega)
      have hx := hb (l[i.toNat]'(by omega)) (List.getElem_mem _)
      have k52 := h52 (l[i.toNat]'(by omega)) (w[i.toNat]'(by omega)) hx
      simp only [itD, List.cons_append, List.nil_append] at k52
      have b1 : 0 ≤ i ∧ i < (w.length : Int) := ⟨h1, hi⟩
      have wi : IntKind.i64.wrap (i + 1) = i + 1 := wi64 _ (by omega) (by omega)
      generalize hcx : l[i.toNat]'(by omega) = x at *
      generalize hcy : w[i.toNat]'(by omega) = y at *
      by_cases he : x = y
      · rw [decide_eq_true he] at k52
        refine .inl ⟨i + 1, ?_, ⟨by omega, by omega⟩, by omega, ?_⟩
        · simp -implicitDefEqProofs [hlen', hi, b1, g1, g2, hcx, hcy, k52, wi]
        · rw [he]; simp
      · rw [decide_eq_false he] at k52
        refine .inr ?_
        have hne : ¬ (x :: l.drop (i + 1).toNat : List It) = y :: w.drop (i + 1).toNat := fun e => he (List.cons.inj e).1
        rw [decide_eq_false hne]
        simp -implicitDefEqProofs [hlen', hi, b1, g1, g2, hcx, hcy, k52]
    · refine .inr ?_
      rw [List.drop_eq_nil_of_le (by omega), List.drop_eq_nil_of_le (by omega)]
      simp -implicitDefEqProofs [hi]
  · have hlen' : ¬ (l.length : Int) = w.length := by omega
    have hne : ¬ l = w := fun e => hlen (by rw [e])
    rw [decide_eq_false hne]
    simp -implicitDefEqProofs [hlen']
theorem s50 {lc : List Ct} (hl0 : look (lc.map fun c => (c.sig.id, c)) 50 = some c50) : ∀ (l w : List It) (hl : l.length < 1000000) (hb : ∀ x ∈ l, x.2.2.2.1.length < 1000000000), Does1 (Phi lc) 50 [⟨.sl ItT, l⟩, ⟨.sl ItT, w⟩] [⟨.bool, decide (l = w)⟩] :=
  fun l w hl hb => by
    have eFc : c50.F = F50 := rfl
    have eFh := f50 l w hl hb
    rw [← eFc] at eFh
    exact Does1.of hl0 eFh rfl
end Go.Proofs.YtolcekkcenedjaaGreat.Sx

set_option maxHeartbeats 1600000
namespace Go.Proofs.YtolcekkcenedjaaGreat.Sx

theorem enc_bytes {l : List It} (hm : ∀ x ∈ l, (∀ c ∈ x.1, 0 ≤ c ∧ c < 256) ∧ (∀ c ∈ x.2.2.2.1, 0 ≤ c ∧ c < 256)) : ∀ (last : List Int), ∀ c ∈ encL last l, 0 ≤ c ∧ c < 256 := by
  induction l with
  | nil => intro last c hc; cases hc
  | cons x l ih =>
    intro last c hc
    obtain ⟨m1, m2⟩ := hm x (by simp)
    simp only [encL, encI, List.mem_append] at hc
    rcases hc with (hc | hc | hc) | hc
    · simp only [putL, List.map_cons, List.map_nil, List.flatten_cons, List.flatten_nil, List.append_nil, List.mem_append] at hc
      rcases hc with hc | hc <;> (have := one_byte _ c hc; omega)
    · exact m1 c (List.mem_of_mem_drop hc)
    · split at hc
      · simp only [List.mem_singleton] at hc; omega
      · rcases List.mem_cons.1 hc with rfl | hc
        · omega
        · exact putC_byte m2 c hc
    · exact ih (fun y hy => hm y (by simp [hy])) x.1 c hc
theorem srt_len {p : Option (List Int)} {l : List It} (h : srt p l = true) : ∀ x ∈ l, 1 ≤ x.1.length ∧ x.1.length ≤ 64 ∧ x.2.2.2.1.length ≤ 32 := by
  intro x hx
  have he := srt_ok p l h x hx
  obtain ⟨k, d, f, b, s, a, n, m⟩ := x
  simp only [itErr] at he
  obtain ⟨h1, h2, h3⟩ := iErr_ok he
  exact ⟨h1, h2, cErr_len h3⟩

theorem wf_str {x : List Int} (h : Wf .str x) : ∀ c ∈ x, 0 ≤ c ∧ c < 256 := fun c hc => by have := h.2 c hc; omega
theorem wf_itemsS {l : List It} (h : Wf (.sl ItT) l) : ∀ x ∈ l, (∀ c ∈ x.1, 0 ≤ c ∧ c < 256) ∧ (∀ c ∈ x.2.2.2.1, 0 ≤ c ∧ c < 256) :=
  fun x hx => ⟨wf_str (h.2 x hx).1, wf_bytes (h.2 x hx).2.2.2.1⟩
end Go.Proofs.YtolcekkcenedjaaGreat.Sx
