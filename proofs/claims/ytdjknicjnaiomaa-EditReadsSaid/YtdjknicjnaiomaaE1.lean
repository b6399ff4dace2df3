/-
  Edits of a roster: the texts of the functions, and which edits there may be.
-/
import Derived.Test.YtdjknicjnaiomaaD2
set_option linter.unusedVariables false
set_option linter.unusedSimpArgs false
/- The texts of the functions that EditPuts reaches. -/
namespace Go.Proofs.Ytdjknicjnaiomaa.Sx
theorem getG {α : Type} {l : List α} {i : Int} {d : α} (h0 : 0 ≤ i) (h1 : i < l.length) : l[i.toNat]?.getD d = l[i.toNat]'(by omega) := by
  rw [List.getElem?_eq_getElem (by omega)]; rfl
abbrev TbT : Ty := (Ty.int .i64).pair ((Ty.int .i64).pair ((Ty.int .i64).pair (Ty.str.pair Ty.str)))
abbrev EdT : Ty := (Ty.int .i64).pair ((Ty.int .i64).pair ((Ty.int .i64).pair ((Ty.int .i64).pair (((Ty.int .i64).pair ((Ty.int .i64).pair (Ty.int .i64))).pair TbT))))
def sig79 : Sig := { id := 79, ins := [(false, Ty.int .i64), (false, Ty.bool)], outs := [(false, [(Ty.bool, none)])] }
def ir79 : IR := .op (.icmp .geq) [.v 0, .l (.int .i64 1)] (.ite (.v 2) (.op (.icmp .leq) [.v 0, .l (.int .i64 2147483647)] (.ite (.v 3) (.ret [.l (.bool true)]) (.op (.icmp .eql) [.v 0, .l (.int .i64 0)] (.ite (.v 4) (.ret [.v 1]) (.ret [.l (.bool false)]))))) (.op (.icmp .eql) [.v 0, .l (.int .i64 0)] (.ite (.v 3) (.ret [.v 1]) (.ret [.l (.bool false)]))))
def sig102 : Sig := { id := 102, ins := [(true, TbT), (true, TbT)], outs := [(false, [(Ty.bool, none)])] }
def ir102 : IR := .op (.scmp .geq) [.v 4, .v 8] (.ite (.v 10) (.op (.scmp .geq) [.v 9, .v 3] (.ret [.v 11])) (.ret [.l (.bool false)]))
def sig114 : Sig := { id := 114, ins := [(true, TbT)], outs := [(false, [(Ty.bool, none)])] }
def ir114 : IR := .op (.icmp .geq) [.v 0, .l (.int .i64 1)] (.ite (.v 5) (.op (.icmp .leq) [.v 0, .l (.int .i64 2147483647)] (.ite (.v 6) (.op (.icmp .geq) [.v 1, .l (.int .i64 0)] (.ite (.v 7) (.op (.icmp .leq) [.v 1, .l (.int .i64 4)] (.ite (.v 8) (.op (.icmp .geq) [.v 2, .l (.int .i64 0)] (.ite (.v 9) (.op (.icmp .leq) [.v 2, .l (.int .i64 1073741824)] (.ite (.v 10) (.op (.scmp .neq) [.v 3, .l (.str [])] (.ite (.v 11) (.op .len [.v 3] (.op (.icmp .leq) [.v 12, .l (.int .i64 64)] (.ite (.v 13) (.op .len [.v 4] (.op (.icmp .leq) [.v 14, .l (.int .i64 64)] (.ite (.v 15) (.op (.scmp .leq) [.v 3, .v 4] (.ret [.v 16])) (.ret [.l (.bool false)])))) (.ret [.l (.bool false)])))) (.ret [.l (.bool false)]))) (.ret [.l (.bool false)]))) (.ret [.l (.bool false)]))) (.ret [.l (.bool false)]))) (.ret [.l (.bool false)]))) (.ret [.l (.bool false)]))) (.ret [.l (.bool false)]))
def sig58 : Sig := { id := 58, ins := [(false, TbT.sl)], outs := [(false, [(Ty.int .i64, none)])] }
def ir58 : IR := .op .len [.v 0] (.op (.icmp .gtr) [.v 1, .l (.int .i64 64)] (.ite (.v 2) (.ret [.l (.int .i64 1)]) (.op .len [.v 0] (.loop [.l (.int .i64 0)] [Ty.int .i64] (.op (.icmp .lss) [.v 4, .v 3] (.ite (.v 5) (.op .inb [.v 0, .v 4] (.op (.idx TbT) [.v 0, .v 4] (.op (.call 114) [.v 6, .v 7, .v 8, .v 9, .v 10] (.op .not [.v 11] (.ite (.v 12) (.ret [.l (.int .i64 1)]) (.op .sub [.v 0, .l (.int .i64 0), .v 4] (.op .len [.v 13] (.loop [.l (.int .i64 0)] [Ty.int .i64] (.op (.icmp .lss) [.v 15, .v 14] (.ite (.v 16) (.op .inb [.v 13, .v 15] (.op (.idx TbT) [.v 13, .v 15] (.op (.icmp .eql) [.v 6, .v 17] (.ite (.v 22) (.ret [.l (.int .i64 1)]) (.op (.icmp .gtr) [.v 7, .l (.int .i64 0)] (.ite (.v 23) (.op (.icmp .eql) [.v 7, .v 18] (.ite (.v 24) (.op (.call 102) [.v 6, .v 7, .v 8, .v 9, .v 10, .v 17, .v 18, .v 19, .v 20, .v 21] (.ite (.v 25) (.ret [.l (.int .i64 1)]) (.op (.ibin .add .i64) [.v 15, .l (.int .i64 1)] (.jump 1 [.v 26])))) (.op (.ibin .add .i64) [.v 15, .l (.int .i64 1)] (.jump 1 [.v 25])))) (.op (.ibin .add .i64) [.v 15, .l (.int .i64 1)] (.jump 1 [.v 24])))))))) (.op (.ibin .add .i64) [.v 4, .l (.int .i64 1)] (.jump 0 [.v 17])))))))))))) (.ret [.l (.int .i64 0)])))))))
def sig37 : Sig := { id := 37, ins := [(true, EdT)], outs := [(false, [(Ty.int .i64, none)])] }
def ir37 : IR := .op (.icmp .eql) [.v 0, .l (.int .i64 1)] (.ite (.v 12) (.op (.icmp .eql) [.v 0, .l (.int .i64 8)] (.op (.icmp .eql) [.v 0, .l (.int .i64 2)] (.op (.call 79) [.v 1, .v 14] (.op .not [.v 15] (.ite (.v 16) (.ret [.l (.int .i64 1)]) (.op (.call 79) [.v 2, .l (.bool true)] (.op .not [.v 17] (.ite (.v 18) (.ret [.l (.int .i64 1)]) (.op (.call 79) [.v 3, .l (.bool true)] (.op .not [.v 19] (.ite (.v 20) (.ret [.l (.int .i64 1)]) (.op (.icmp .eql) [.v 3, .l (.int .i64 0)] (.op (.icmp .eql) [.v 2, .l (.int .i64 0)] (.op (.bcmp .neq) [.v 21, .v 22] (.ite (.v 23) (.ite (.v 13) (.ret [.l (.int .i64 1)]) (.op (.icmp .neq) [.v 2, .l (.int .i64 0)] (.ite (.v 24) (.ret [.l (.int .i64 1)]) (.op (.icmp .neq) [.v 3, .l (.int .i64 0)] (.ite (.v 25) (.ret [.l (.int .i64 1)]) (.op (.eqs true 3) [.v 4, .v 5, .v 6, .l (.int .i64 0), .l (.int .i64 0), .l (.int .i64 0)] (.ite (.v 26) (.ret [.l (.int .i64 1)]) (.op (.eqs true 5) [.v 7, .v 8, .v 9, .v 10, .v 11, .l (.int .i64 0), .l (.int .i64 0), .l (.int .i64 0), .l (.str []), .l (.str [])] (.ite (.v 27) (.ret [.l (.int .i64 1)]) (.op (.call 79) [.v 4, .l (.bool true)] (.op .not [.v 28] (.ite (.v 29) (.ret [.l (.int .i64 1)]) (.op (.call 79) [.v 5, .l (.bool true)] (.op .not [.v 30] (.ite (.v 31) (.ret [.l (.int .i64 1)]) (.op (.call 79) [.v 6, .l (.bool true)] (.op .not [.v 32] (.ite (.v 33) (.ret [.l (.int .i64 1)]) (.ret [.l (.int .i64 0)]))))))))))))))))))) (.op (.icmp .neq) [.v 2, .l (.int .i64 0)] (.ite (.v 24) (.ret [.l (.int .i64 1)]) (.op (.icmp .neq) [.v 3, .l (.int .i64 0)] (.ite (.v 25) (.ret [.l (.int .i64 1)]) (.op (.eqs true 3) [.v 4, .v 5, .v 6, .l (.int .i64 0), .l (.int .i64 0), .l (.int .i64 0)] (.ite (.v 26) (.ret [.l (.int .i64 1)]) (.op (.eqs true 5) [.v 7, .v 8, .v 9, .v 10, .v 11, .l (.int .i64 0), .l (.int .i64 0), .l (.int .i64 0), .l (.str []), .l (.str [])] (.ite (.v 27) (.ret [.l (.int .i64 1)]) (.op (.call 79) [.v 4, .l (.bool true)] (.op .not [.v 28] (.ite (.v 29) (.ret [.l (.int .i64 1)]) (.op (.call 79) [.v 5, .l (.bool true)] (.op .not [.v 30] (.ite (.v 31) (.ret [.l (.int .i64 1)]) (.op (.call 79) [.v 6, .l (.bool true)] (.op .not [.v 32] (.ite (.v 33) (.ret [.l (.int .i64 1)]) (.ret [.l (.int .i64 0)]))))))))))))))))))))))))))))))))) (.op (.icmp .eql) [.v 0, .l (.int .i64 5)] (.ite (.v 13) (.op (.icmp .eql) [.v 0, .l (.int .i64 8)] (.op (.icmp .eql) [.v 0, .l (.int .i64 2)] (.op (.call 79) [.v 1, .v 15] (.op .not [.v 16] (.ite (.v 17) (.ret [.l (.int .i64 1)]) (.op (.call 79) [.v 2, .l (.bool true)] (.op .not [.v 18] (.ite (.v 19) (.ret [.l (.int .i64 1)]) (.op (.call 79) [.v 3, .l (.bool true)] (.op .not [.v 20] (.ite (.v 21) (.ret [.l (.int .i64 1)]) (.op (.icmp .eql) [.v 3, .l (.int .i64 0)] (.op (.icmp .eql) [.v 2, .l (.int .i64 0)] (.op (.bcmp .neq) [.v 22, .v 23] (.ite (.v 24) (.ite (.v 14) (.ret [.l (.int .i64 1)]) (.op (.icmp .neq) [.v 2, .l (.int .i64 0)] (.ite (.v 25) (.ret [.l (.int .i64 1)]) (.op (.icmp .neq) [.v 3, .l (.int .i64 0)] (.ite (.v 26) (.ret [.l (.int .i64 1)]) (.op (.eqs true 3) [.v 4, .v 5, .v 6, .l (.int .i64 0), .l (.int .i64 0), .l (.int .i64 0)] (.ite (.v 27) (.ret [.l (.int .i64 1)]) (.op (.eqs true 5) [.v 7, .v 8, .v 9, .v 10, .v 11, .l (.int .i64 0), .l (.int .i64 0), .l (.int .i64 0), .l (.str []), .l (.str [])] (.ite (.v 28) (.ret [.l (.int .i64 1)]) (.op (.call 79) [.v 4, .l (.bool true)] (.op .not [.v 29] (.ite (.v 30) (.ret [.l (.int .i64 1)]) (.op (.call 79) [.v 5, .l (.bool true)] (.op .not [.v 31] (.ite (.v 32) (.ret [.l (.int .i64 1)]) (.op (.call 79) [.v 6, .l (.bool true)] (.op .not [.v 33] (.ite (.v 34) (.ret [.l (.int .i64 1)]) (.ret [.l (.int .i64 0)]))))))))))))))))))) (.op (.icmp .neq) [.v 2, .l (.int .i64 0)] (.ite (.v 25) (.ret [.l (.int .i64 1)]) (.op (.icmp .neq) [.v 3, .l (.int .i64 0)] (.ite (.v 26) (.ret [.l (.int .i64 1)]) (.op (.eqs true 3) [.v 4, .v 5, .v 6, .l (.int .i64 0), .l (.int .i64 0), .l (.int .i64 0)] (.ite (.v 27) (.ret [.l (.int .i64 1)]) (.op (.eqs true 5) [.v 7, .v 8, .v 9, .v 10, .v 11, .l (.int .i64 0), .l (.int .i64 0), .l (.int .i64 0), .l (.str []), .l (.str [])] (.ite (.v 28) (.ret [.l (.int .i64 1)]) (.op (.call 79) [.v 4, .l (.bool true)] (.op .not [.v 29] (.ite (.v 30) (.ret [.l (.int .i64 1)]) (.op (.call 79) [.v 5, .l (.bool true)] (.op .not [.v 31] (.ite (.v 32) (.ret [.l (.int .i64 1)]) (.op (.call 79) [.v 6, .l (.bool true)] (.op .not [.v 33] (.ite (.v 34) (.ret [.l (.int .i64 1)]) (.ret [.l (.int .i64 0)]))))))))))))))))))))))))))))))))) (.op (.icmp .eql) [.v 0, .l (.int .i64 2)] (.ite (.v 14) (.op (.icmp .eql) [.v 0, .l (.int .i64 8)] (.op (.icmp .eql) [.v 0, .l (.int .i64 2)] (.op (.call 79) [.v 1, .v 16] (.op .not [.v 17] (.ite (.v 18) (.ret [.l (.int .i64 1)]) (.op (.call 79) [.v 2, .v 15] (.op .not [.v 19] (.ite (.v 20) (.ret [.l (.int .i64 1)]) (.op (.call 79) [.v 3, .l (.bool true)] (.op .not [.v 21] (.ite (.v 22) (.ret [.l (.int .i64 1)]) (.op (.icmp .eql) [.v 3, .l (.int .i64 0)] (.op (.icmp .eql) [.v 2, .l (.int .i64 0)] (.op (.bcmp .neq) [.v 23, .v 24] (.ite (.v 25) (.ite (.v 15) (.ret [.l (.int .i64 1)]) (.op (.icmp .neq) [.v 3, .l (.int .i64 0)] (.ite (.v 26) (.ret [.l (.int .i64 1)]) (.op (.eqs true 3) [.v 4, .v 5, .v 6, .l (.int .i64 0), .l (.int .i64 0), .l (.int .i64 0)] (.ite (.v 27) (.ret [.l (.int .i64 1)]) (.op (.eqs true 5) [.v 7, .v 8, .v 9, .v 10, .v 11, .l (.int .i64 0), .l (.int .i64 0), .l (.int .i64 0), .l (.str []), .l (.str [])] (.ite (.v 28) (.ret [.l (.int .i64 1)]) (.op (.call 79) [.v 4, .l (.bool true)] (.op .not [.v 29] (.ite (.v 30) (.ret [.l (.int .i64 1)]) (.op (.call 79) [.v 5, .l (.bool true)] (.op .not [.v 31] (.ite (.v 32) (.ret [.l (.int .i64 1)]) (.op (.call 79) [.v 6, .l (.bool true)] (.op .not [.v 33] (.ite (.v 34) (.ret [.l (.int .i64 1)]) (.ret [.l (.int .i64 0)]))))))))))))))))) (.op (.icmp .neq) [.v 3, .l (.int .i64 0)] (.ite (.v 26) (.ret [.l (.int .i64 1)]) (.op (.eqs true 3) [.v 4, .v 5, .v 6, .l (.int .i64 0), .l (.int .i64 0), .l (.int .i64 0)] (.ite (.v 27) (.ret [.l (.int .i64 1)]) (.op (.eqs true 5) [.v 7, .v 8, .v 9, .v 10, .v 11, .l (.int .i64 0), .l (.int .i64 0), .l (.int .i64 0), .l (.str []), .l (.str [])] (.ite (.v 28) (.ret [.l (.int .i64 1)]) (.op (.call 79) [.v 4, .l (.bool true)] (.op .not [.v 29] (.ite (.v 30) (.ret [.l (.int .i64 1)]) (.op (.call 79) [.v 5, .l (.bool true)] (.op .not [.v 31] (.ite (.v 32) (.ret [.l (.int .i64 1)]) (.op (.call 79) [.v 6, .l (.bool true)] (.op .not [.v 33] (.ite (.v 34) (.ret [.l (.int .i64 1)]) (.ret [.l (.int .i64 0)]))))))))))))))))))))))))))))))) (.op (.icmp .eql) [.v 0, .l (.int .i64 3)] (.ite (.v 15) (.op (.icmp .eql) [.v 0, .l (.int .i64 8)] (.op (.call 79) [.v 1, .l (.bool true)] (.op .not [.v 17] (.ite (.v 18) (.ret [.l (.int .i64 1)]) (.op (.call 79) [.v 2, .v 16] (.op .not [.v 19] (.ite (.v 20) (.ret [.l (.int .i64 1)]) (.op (.call 79) [.v 3, .l (.bool true)] (.op .not [.v 21] (.ite (.v 22) (.ret [.l (.int .i64 1)]) (.op (.icmp .eql) [.v 3, .l (.int .i64 0)] (.op (.icmp .eql) [.v 2, .l (.int .i64 0)] (.op (.bcmp .neq) [.v 23, .v 24] (.ite (.v 25) (.ite (.v 16) (.ret [.l (.int .i64 1)]) (.op (.icmp .neq) [.v 1, .l (.int .i64 0)] (.ite (.v 26) (.ret [.l (.int .i64 1)]) (.op (.icmp .neq) [.v 3, .l (.int .i64 0)] (.ite (.v 27) (.ret [.l (.int .i64 1)]) (.op (.eqs true 3) [.v 4, .v 5, .v 6, .l (.int .i64 0), .l (.int .i64 0), .l (.int .i64 0)] (.ite (.v 28) (.ret [.l (.int .i64 1)]) (.op (.eqs true 5) [.v 7, .v 8, .v 9, .v 10, .v 11, .l (.int .i64 0), .l (.int .i64 0), .l (.int .i64 0), .l (.str []), .l (.str [])] (.ite (.v 29) (.ret [.l (.int .i64 1)]) (.op (.call 79) [.v 4, .l (.bool true)] (.op .not [.v 30] (.ite (.v 31) (.ret [.l (.int .i64 1)]) (.op (.call 79) [.v 5, .l (.bool true)] (.op .not [.v 32] (.ite (.v 33) (.ret [.l (.int .i64 1)]) (.op (.call 79) [.v 6, .l (.bool true)] (.op .not [.v 34] (.ite (.v 35) (.ret [.l (.int .i64 1)]) (.ret [.l (.int .i64 0)]))))))))))))))))))) (.op (.icmp .neq) [.v 1, .l (.int .i64 0)] (.ite (.v 26) (.ret [.l (.int .i64 1)]) (.op (.icmp .neq) [.v 3, .l (.int .i64 0)] (.ite (.v 27) (.ret [.l (.int .i64 1)]) (.op (.eqs true 3) [.v 4, .v 5, .v 6, .l (.int .i64 0), .l (.int .i64 0), .l (.int .i64 0)] (.ite (.v 28) (.ret [.l (.int .i64 1)]) (.op (.eqs true 5) [.v 7, .v 8, .v 9, .v 10, .v 11, .l (.int .i64 0), .l (.int .i64 0), .l (.int .i64 0), .l (.str []), .l (.str [])] (.ite (.v 29) (.ret [.l (.int .i64 1)]) (.op (.call 79) [.v 4, .l (.bool true)] (.op .not [.v 30] (.ite (.v 31) (.ret [.l (.int .i64 1)]) (.op (.call 79) [.v 5, .l (.bool true)] (.op .not [.v 32] (.ite (.v 33) (.ret [.l (.int .i64 1)]) (.op (.call 79) [.v 6, .l (.bool true)] (.op .not [.v 34] (.ite (.v 35) (.ret [.l (.int .i64 1)]) (.ret [.l (.int .i64 0)])))))))))))))))))))))))))))))))) (.op (.icmp .eql) [.v 0, .l (.int .i64 7)] (.ite (.v 16) (.op (.icmp .eql) [.v 0, .l (.int .i64 8)] (.op (.call 79) [.v 1, .l (.bool true)] (.op .not [.v 18] (.ite (.v 19) (.ret [.l (.int .i64 1)]) (.op (.call 79) [.v 2, .v 17] (.op .not [.v 20] (.ite (.v 21) (.ret [.l (.int .i64 1)]) (.op (.call 79) [.v 3, .l (.bool true)] (.op .not [.v 22] (.ite (.v 23) (.ret [.l (.int .i64 1)]) (.op (.icmp .eql) [.v 3, .l (.int .i64 0)] (.op (.icmp .eql) [.v 2, .l (.int .i64 0)] (.op (.bcmp .neq) [.v 24, .v 25] (.ite (.v 26) (.ite (.v 17) (.ret [.l (.int .i64 1)]) (.op (.icmp .neq) [.v 1, .l (.int .i64 0)] (.ite (.v 27) (.ret [.l (.int .i64 1)]) (.op (.icmp .neq) [.v 3, .l (.int .i64 0)] (.ite (.v 28) (.ret [.l (.int .i64 1)]) (.op (.eqs true 3) [.v 4, .v 5, .v 6, .l (.int .i64 0), .l (.int .i64 0), .l (.int .i64 0)] (.ite (.v 29) (.ret [.l (.int .i64 1)]) (.op (.eqs true 5) [.v 7, .v 8, .v 9, .v 10, .v 11, .l (.int .i64 0), .l (.int .i64 0), .l (.int .i64 0), .l (.str []), .l (.str [])] (.ite (.v 30) (.ret [.l (.int .i64 1)]) (.op (.call 79) [.v 4, .l (.bool true)] (.op .not [.v 31] (.ite (.v 32) (.ret [.l (.int .i64 1)]) (.op (.call 79) [.v 5, .l (.bool true)] (.op .not [.v 33] (.ite (.v 34) (.ret [.l (.int .i64 1)]) (.op (.call 79) [.v 6, .l (.bool true)] (.op .not [.v 35] (.ite (.v 36) (.ret [.l (.int .i64 1)]) (.ret [.l (.int .i64 0)]))))))))))))))))))) (.op (.icmp .neq) [.v 1, .l (.int .i64 0)] (.ite (.v 27) (.ret [.l (.int .i64 1)]) (.op (.icmp .neq) [.v 3, .l (.int .i64 0)] (.ite (.v 28) (.ret [.l (.int .i64 1)]) (.op (.eqs true 3) [.v 4, .v 5, .v 6, .l (.int .i64 0), .l (.int .i64 0), .l (.int .i64 0)] (.ite (.v 29) (.ret [.l (.int .i64 1)]) (.op (.eqs true 5) [.v 7, .v 8, .v 9, .v 10, .v 11, .l (.int .i64 0), .l (.int .i64 0), .l (.int .i64 0), .l (.str []), .l (.str [])] (.ite (.v 30) (.ret [.l (.int .i64 1)]) (.op (.call 79) [.v 4, .l (.bool true)] (.op .not [.v 31] (.ite (.v 32) (.ret [.l (.int .i64 1)]) (.op (.call 79) [.v 5, .l (.bool true)] (.op .not [.v 33] (.ite (.v 34) (.ret [.l (.int .i64 1)]) (.op (.call 79) [.v 6, .l (.bool true)] (.op .not [.v 35] (.ite (.v 36) (.ret [.l (.int .i64 1)]) (.ret [.l (.int .i64 0)])))))))))))))))))))))))))))))))) (.op (.icmp .eql) [.v 0, .l (.int .i64 9)] (.ite (.v 17) (.op (.icmp .eql) [.v 0, .l (.int .i64 8)] (.op (.call 79) [.v 1, .l (.bool true)] (.op .not [.v 19] (.ite (.v 20) (.ret [.l (.int .i64 1)]) (.op (.call 79) [.v 2, .v 18] (.op .not [.v 21] (.ite (.v 22) (.ret [.l (.int .i64 1)]) (.op (.call 79) [.v 3, .l (.bool true)] (.op .not [.v 23] (.ite (.v 24) (.ret [.l (.int .i64 1)]) (.op (.icmp .eql) [.v 3, .l (.int .i64 0)] (.op (.icmp .eql) [.v 2, .l (.int .i64 0)] (.op (.bcmp .neq) [.v 25, .v 26] (.ite (.v 27) (.ite (.v 18) (.ret [.l (.int .i64 1)]) (.op (.icmp .neq) [.v 1, .l (.int .i64 0)] (.ite (.v 28) (.ret [.l (.int .i64 1)]) (.op (.icmp .neq) [.v 3, .l (.int .i64 0)] (.ite (.v 29) (.ret [.l (.int .i64 1)]) (.op (.eqs true 3) [.v 4, .v 5, .v 6, .l (.int .i64 0), .l (.int .i64 0), .l (.int .i64 0)] (.ite (.v 30) (.ret [.l (.int .i64 1)]) (.op (.eqs true 5) [.v 7, .v 8, .v 9, .v 10, .v 11, .l (.int .i64 0), .l (.int .i64 0), .l (.int .i64 0), .l (.str []), .l (.str [])] (.ite (.v 31) (.ret [.l (.int .i64 1)]) (.op (.call 79) [.v 4, .l (.bool true)] (.op .not [.v 32] (.ite (.v 33) (.ret [.l (.int .i64 1)]) (.op (.call 79) [.v 5, .l (.bool true)] (.op .not [.v 34] (.ite (.v 35) (.ret [.l (.int .i64 1)]) (.op (.call 79) [.v 6, .l (.bool true)] (.op .not [.v 36] (.ite (.v 37) (.ret [.l (.int .i64 1)]) (.ret [.l (.int .i64 0)]))))))))))))))))))) (.op (.icmp .neq) [.v 1, .l (.int .i64 0)] (.ite (.v 28) (.ret [.l (.int .i64 1)]) (.op (.icmp .neq) [.v 3, .l (.int .i64 0)] (.ite (.v 29) (.ret [.l (.int .i64 1)]) (.op (.eqs true 3) [.v 4, .v 5, .v 6, .l (.int .i64 0), .l (.int .i64 0), .l (.int .i64 0)] (.ite (.v 30) (.ret [.l (.int .i64 1)]) (.op (.eqs true 5) [.v 7, .v 8, .v 9, .v 10, .v 11, .l (.int .i64 0), .l (.int .i64 0), .l (.int .i64 0), .l (.str []), .l (.str [])] (.ite (.v 31) (.ret [.l (.int .i64 1)]) (.op (.call 79) [.v 4, .l (.bool true)] (.op .not [.v 32] (.ite (.v 33) (.ret [.l (.int .i64 1)]) (.op (.call 79) [.v 5, .l (.bool true)] (.op .not [.v 34] (.ite (.v 35) (.ret [.l (.int .i64 1)]) (.op (.call 79) [.v 6, .l (.bool true)] (.op .not [.v 36] (.ite (.v 37) (.ret [.l (.int .i64 1)]) (.ret [.l (.int .i64 0)])))))))))))))))))))))))))))))))) (.op (.icmp .eql) [.v 0, .l (.int .i64 4)] (.ite (.v 18) (.op (.icmp .eql) [.v 0, .l (.int .i64 8)] (.op (.call 79) [.v 1, .l (.bool true)] (.op .not [.v 20] (.ite (.v 21) (.ret [.l (.int .i64 1)]) (.op (.call 79) [.v 2, .l (.bool true)] (.op .not [.v 22] (.ite (.v 23) (.ret [.l (.int .i64 1)]) (.op (.call 79) [.v 3, .l (.bool true)] (.op .not [.v 24] (.ite (.v 25) (.ret [.l (.int .i64 1)]) (.op (.icmp .eql) [.v 3, .l (.int .i64 0)] (.op (.icmp .eql) [.v 2, .l (.int .i64 0)] (.op (.bcmp .neq) [.v 26, .v 27] (.ite (.v 28) (.ite (.v 19) (.ret [.l (.int .i64 1)]) (.op (.icmp .neq) [.v 1, .l (.int .i64 0)] (.ite (.v 29) (.ret [.l (.int .i64 1)]) (.op (.icmp .neq) [.v 2, .l (.int .i64 0)] (.ite (.v 30) (.ret [.l (.int .i64 1)]) (.op (.icmp .neq) [.v 3, .l (.int .i64 0)] (.ite (.v 31) (.ret [.l (.int .i64 1)]) (.op (.eqs true 3) [.v 4, .v 5, .v 6, .l (.int .i64 0), .l (.int .i64 0), .l (.int .i64 0)] (.ite (.v 32) (.ret [.l (.int .i64 1)]) (.op (.call 79) [.v 4, .l (.bool true)] (.op .not [.v 33] (.ite (.v 34) (.ret [.l (.int .i64 1)]) (.op (.call 79) [.v 5, .l (.bool true)] (.op .not [.v 35] (.ite (.v 36) (.ret [.l (.int .i64 1)]) (.op (.call 79) [.v 6, .l (.bool true)] (.op .not [.v 37] (.ite (.v 38) (.ret [.l (.int .i64 1)]) (.op (.mk TbT 1) [.v 7, .v 8, .v 9, .v 10, .v 11] (.op (.call 58) [.v 39] (.ret [.v 40]))))))))))))))))))))) (.op (.icmp .neq) [.v 1, .l (.int .i64 0)] (.ite (.v 29) (.ret [.l (.int .i64 1)]) (.op (.icmp .neq) [.v 2, .l (.int .i64 0)] (.ite (.v 30) (.ret [.l (.int .i64 1)]) (.op (.icmp .neq) [.v 3, .l (.int .i64 0)] (.ite (.v 31) (.ret [.l (.int .i64 1)]) (.op (.eqs true 3) [.v 4, .v 5, .v 6, .l (.int .i64 0), .l (.int .i64 0), .l (.int .i64 0)] (.ite (.v 32) (.ret [.l (.int .i64 1)]) (.op (.call 79) [.v 4, .l (.bool true)] (.op .not [.v 33] (.ite (.v 34) (.ret [.l (.int .i64 1)]) (.op (.call 79) [.v 5, .l (.bool true)] (.op .not [.v 35] (.ite (.v 36) (.ret [.l (.int .i64 1)]) (.op (.call 79) [.v 6, .l (.bool true)] (.op .not [.v 37] (.ite (.v 38) (.ret [.l (.int .i64 1)]) (.op (.mk TbT 1) [.v 7, .v 8, .v 9, .v 10, .v 11] (.op (.call 58) [.v 39] (.ret [.v 40])))))))))))))))))))))))))))))))))) (.op (.icmp .eql) [.v 0, .l (.int .i64 6)] (.ite (.v 19) (.op (.icmp .eql) [.v 0, .l (.int .i64 8)] (.op (.icmp .eql) [.v 0, .l (.int .i64 2)] (.op (.call 79) [.v 1, .v 21] (.op .not [.v 22] (.ite (.v 23) (.ret [.l (.int .i64 1)]) (.op (.call 79) [.v 2, .v 20] (.op .not [.v 24] (.ite (.v 25) (.ret [.l (.int .i64 1)]) (.op (.call 79) [.v 3, .v 20] (.op .not [.v 26] (.ite (.v 27) (.ret [.l (.int .i64 1)]) (.op (.icmp .eql) [.v 3, .l (.int .i64 0)] (.op (.icmp .eql) [.v 2, .l (.int .i64 0)] (.op (.bcmp .neq) [.v 28, .v 29] (.ite (.v 30) (.ite (.v 20) (.ret [.l (.int .i64 1)]) (.op (.eqs true 3) [.v 4, .v 5, .v 6, .l (.int .i64 0), .l (.int .i64 0), .l (.int .i64 0)] (.ite (.v 31) (.ret [.l (.int .i64 1)]) (.op (.eqs true 5) [.v 7, .v 8, .v 9, .v 10, .v 11, .l (.int .i64 0), .l (.int .i64 0), .l (.int .i64 0), .l (.str []), .l (.str [])] (.ite (.v 32) (.ret [.l (.int .i64 1)]) (.op (.call 79) [.v 4, .l (.bool true)] (.op .not [.v 33] (.ite (.v 34) (.ret [.l (.int .i64 1)]) (.op (.call 79) [.v 5, .l (.bool true)] (.op .not [.v 35] (.ite (.v 36) (.ret [.l (.int .i64 1)]) (.op (.call 79) [.v 6, .l (.bool true)] (.op .not [.v 37] (.ite (.v 38) (.ret [.l (.int .i64 1)]) (.ret [.l (.int .i64 0)]))))))))))))))) (.op (.eqs true 3) [.v 4, .v 5, .v 6, .l (.int .i64 0), .l (.int .i64 0), .l (.int .i64 0)] (.ite (.v 31) (.ret [.l (.int .i64 1)]) (.op (.eqs true 5) [.v 7, .v 8, .v 9, .v 10, .v 11, .l (.int .i64 0), .l (.int .i64 0), .l (.int .i64 0), .l (.str []), .l (.str [])] (.ite (.v 32) (.ret [.l (.int .i64 1)]) (.op (.call 79) [.v 4, .l (.bool true)] (.op .not [.v 33] (.ite (.v 34) (.ret [.l (.int .i64 1)]) (.op (.call 79) [.v 5, .l (.bool true)] (.op .not [.v 35] (.ite (.v 36) (.ret [.l (.int .i64 1)]) (.op (.call 79) [.v 6, .l (.bool true)] (.op .not [.v 37] (.ite (.v 38) (.ret [.l (.int .i64 1)]) (.ret [.l (.int .i64 0)]))))))))))))))))))))))))))))) (.op (.icmp .eql) [.v 0, .l (.int .i64 8)] (.ite (.v 20) (.op (.icmp .eql) [.v 0, .l (.int .i64 8)] (.op (.icmp .eql) [.v 0, .l (.int .i64 2)] (.op (.call 79) [.v 1, .v 22] (.op .not [.v 23] (.ite (.v 24) (.ret [.l (.int .i64 1)]) (.op (.call 79) [.v 2, .v 21] (.op .not [.v 25] (.ite (.v 26) (.ret [.l (.int .i64 1)]) (.op (.call 79) [.v 3, .v 21] (.op .not [.v 27] (.ite (.v 28) (.ret [.l (.int .i64 1)]) (.op (.icmp .eql) [.v 3, .l (.int .i64 0)] (.op (.icmp .eql) [.v 2, .l (.int .i64 0)] (.op (.bcmp .neq) [.v 29, .v 30] (.ite (.v 31) (.ite (.v 21) (.ret [.l (.int .i64 1)]) (.op (.eqs true 5) [.v 7, .v 8, .v 9, .v 10, .v 11, .l (.int .i64 0), .l (.int .i64 0), .l (.int .i64 0), .l (.str []), .l (.str [])] (.ite (.v 32) (.ret [.l (.int .i64 1)]) (.op (.call 79) [.v 4, .l (.bool true)] (.op .not [.v 33] (.ite (.v 34) (.ret [.l (.int .i64 1)]) (.op (.call 79) [.v 5, .l (.bool true)] (.op .not [.v 35] (.ite (.v 36) (.ret [.l (.int .i64 1)]) (.op (.call 79) [.v 6, .l (.bool true)] (.op .not [.v 37] (.ite (.v 38) (.ret [.l (.int .i64 1)]) (.ret [.l (.int .i64 0)]))))))))))))) (.op (.eqs true 5) [.v 7, .v 8, .v 9, .v 10, .v 11, .l (.int .i64 0), .l (.int .i64 0), .l (.int .i64 0), .l (.str []), .l (.str [])] (.ite (.v 32) (.ret [.l (.int .i64 1)]) (.op (.call 79) [.v 4, .l (.bool true)] (.op .not [.v 33] (.ite (.v 34) (.ret [.l (.int .i64 1)]) (.op (.call 79) [.v 5, .l (.bool true)] (.op .not [.v 35] (.ite (.v 36) (.ret [.l (.int .i64 1)]) (.op (.call 79) [.v 6, .l (.bool true)] (.op .not [.v 37] (.ite (.v 38) (.ret [.l (.int .i64 1)]) (.ret [.l (.int .i64 0)]))))))))))))))))))))))))))) (.op (.icmp .eql) [.v 0, .l (.int .i64 8)] (.ret [.l (.int .i64 1)])))))))))))))))))))
def sig86 : Sig := { id := 86, ins := [(false, Ty.str)], outs := [(false, [((Ty.int .u8).sl, some 5)])] }
def ir86 : IR := .op .len [.v 0] (.op (.conv .u64) [.v 1] (.op (.mk (Ty.int .u64) 1) [.v 2] (.op (.call 66) [.v 3] (.op .apps [.v 4, .v 0] (.ret [.v 5])))))
def sig87 : Sig := { id := 87, ins := [(false, EdT.sl), (false, EdT.sl)], outs := [(false, [(Ty.bool, none)])] }
def ir87 : IR := .op .len [.v 0] (.op .len [.v 1] (.op (.icmp .neq) [.v 2, .v 3] (.ite (.v 4) (.ret [.l (.bool false)]) (.op .len [.v 0] (.loop [.l (.int .i64 0)] [Ty.int .i64] (.op (.icmp .lss) [.v 6, .v 5] (.ite (.v 7) (.op .inb [.v 0, .v 6] (.op (.idx EdT) [.v 0, .v 6] (.op .inb [.v 1, .v 6] (.op (.idx EdT) [.v 1, .v 6] (.op (.eqs true 12) [.v 8, .v 9, .v 10, .v 11, .v 12, .v 13, .v 14, .v 15, .v 16, .v 17, .v 18, .v 19, .v 20, .v 21, .v 22, .v 23, .v 24, .v 25, .v 26, .v 27, .v 28, .v 29, .v 30, .v 31] (.ite (.v 32) (.ret [.l (.bool false)]) (.op (.ibin .add .i64) [.v 6, .l (.int .i64 1)] (.jump 0 [.v 33])))))))) (.ret [.l (.bool true)]))))))))
def sig40 : Sig := { id := 40, ins := [(false, EdT.sl), (false, EdT.sl)], outs := [(false, [(Ty.bool, none)])] }
def ir40 : IR := .op (.call 87) [.v 0, .v 1] (.ret [.v 2])
def sig35 : Sig := { id := 35, ins := [(false, EdT.sl)], outs := [(false, [(Ty.bool, none)])] }
def ir35 : IR := .loop [.l (.int .i64 0)] [Ty.int .i64] (.op .len [.v 0] (.op (.icmp .lss) [.v 1, .v 2] (.ite (.v 3) (.op (.icmp .leq) [.v 1, .l (.int .i64 40)] (.ite (.v 4) (.op .inb [.v 0, .v 1] (.op (.idx EdT) [.v 0, .v 1] (.op .len [.v 15] (.op (.icmp .gtr) [.v 17, .l (.int .i64 200)] (.ite (.v 18) (.ret [.l (.bool false)]) (.op .inb [.v 0, .v 1] (.op (.idx EdT) [.v 0, .v 1] (.op .len [.v 30] (.op (.icmp .gtr) [.v 31, .l (.int .i64 200)] (.ite (.v 32) (.ret [.l (.bool false)]) (.op (.ibin .add .i64) [.v 1, .l (.int .i64 1)] (.jump 0 [.v 33])))))))))))) (.op .len [.v 0] (.op (.icmp .leq) [.v 5, .l (.int .i64 40)] (.ret [.v 6]))))) (.op .len [.v 0] (.op (.icmp .leq) [.v 4, .l (.int .i64 40)] (.ret [.v 5]))))))
def sig101 : Sig := { id := 101, ins := [(true, TbT), (true, TbT)], outs := [(false, [(Ty.bool, none)])] }
def ir101 : IR := .op (.scmp .lss) [.v 4, .v 8] (.op .not [.v 10] (.ite (.v 11) (.op (.scmp .lss) [.v 9, .v 3] (.op .not [.v 12] (.ret [.v 13]))) (.ret [.l (.bool false)])))
def sig54 : Sig := { id := 54, ins := [(false, TbT.sl)], outs := [(false, [(Ty.bool, none)])] }
def ir54 : IR := .loop [.l (.int .i64 0)] [Ty.int .i64] (.op .len [.v 0] (.op (.icmp .lss) [.v 1, .v 2] (.ite (.v 3) (.op .inb [.v 0, .v 1] (.op (.idx TbT) [.v 0, .v 1] (.op (.icmp .lss) [.v 4, .l (.int .i64 1)] (.ite (.v 9) (.ret [.l (.bool false)]) (.op (.icmp .gtr) [.v 4, .l (.int .i64 2147483647)] (.ite (.v 10) (.ret [.l (.bool false)]) (.op (.icmp .lss) [.v 5, .l (.int .i64 0)] (.ite (.v 11) (.ret [.l (.bool false)]) (.op (.icmp .gtr) [.v 5, .l (.int .i64 4)] (.ite (.v 12) (.ret [.l (.bool false)]) (.op (.icmp .lss) [.v 6, .l (.int .i64 0)] (.ite (.v 13) (.ret [.l (.bool false)]) (.op (.icmp .gtr) [.v 6, .l (.int .i64 1073741824)] (.ite (.v 14) (.ret [.l (.bool false)]) (.op (.scmp .eql) [.v 7, .l (.str [])] (.ite (.v 15) (.ret [.l (.bool false)]) (.op (.scmp .eql) [.v 8, .l (.str [])] (.ite (.v 16) (.ret [.l (.bool false)]) (.op .len [.v 7] (.op (.icmp .gtr) [.v 17, .l (.int .i64 64)] (.ite (.v 18) (.ret [.l (.bool false)]) (.op .len [.v 8] (.op (.icmp .gtr) [.v 19, .l (.int .i64 64)] (.ite (.v 20) (.ret [.l (.bool false)]) (.op (.scmp .gtr) [.v 7, .v 8] (.ite (.v 21) (.ret [.l (.bool false)]) (.loop [.l (.int .i64 0)] [Ty.int .i64] (.op (.icmp .lss) [.v 22, .v 1] (.ite (.v 23) (.op .inb [.v 0, .v 22] (.op (.idx TbT) [.v 0, .v 22] (.op (.icmp .eql) [.v 24, .v 4] (.ite (.v 29) (.ret [.l (.bool false)]) (.op .inb [.v 0, .v 22] (.op (.idx TbT) [.v 0, .v 22] (.op (.icmp .eql) [.v 31, .v 5] (.ite (.v 35) (.op (.icmp .gtr) [.v 5, .l (.int .i64 0)] (.ite (.v 36) (.op .inb [.v 0, .v 22] (.op (.idx TbT) [.v 0, .v 22] (.op (.call 101) [.v 37, .v 38, .v 39, .v 40, .v 41, .v 4, .v 5, .v 6, .v 7, .v 8] (.ite (.v 42) (.ret [.l (.bool false)]) (.op (.ibin .add .i64) [.v 22, .l (.int .i64 1)] (.jump 1 [.v 43])))))) (.op (.ibin .add .i64) [.v 22, .l (.int .i64 1)] (.jump 1 [.v 37])))) (.op (.ibin .add .i64) [.v 22, .l (.int .i64 1)] (.jump 1 [.v 36])))))))))) (.op (.ibin .add .i64) [.v 1, .l (.int .i64 1)] (.jump 0 [.v 24]))))))))))))))))))))))))))))))) (.op .len [.v 0] (.op (.icmp .leq) [.v 4, .l (.int .i64 64)] (.ret [.v 5]))))))
def sig125 : Sig := { id := 125, ins := [(false, Ty.int .i64)], outs := [(false, [(Ty.bool, none)])] }
def ir125 : IR := .op (.icmp .geq) [.v 0, .l (.int .i64 1)] (.ite (.v 1) (.op (.icmp .leq) [.v 0, .l (.int .i64 2147483647)] (.ret [.v 2])) (.ret [.l (.bool false)]))
def sig82 : Sig := { id := 82, ins := [(false, Ty.str), (false, Ty.int .u8)], outs := [(false, [(Ty.bool, none)])] }
def ir82 : IR := .loop [.l (.int .i64 0)] [Ty.int .i64] (.op .len [.v 0] (.op (.icmp .lss) [.v 2, .v 3] (.ite (.v 4) (.op .sidx [.v 0, .v 2] (.op (.icmp .eql) [.v 5, .v 1] (.ite (.v 6) (.ret [.l (.bool true)]) (.op (.ibin .add .i64) [.v 2, .l (.int .i64 1)] (.jump 0 [.v 7]))))) (.ret [.l (.bool false)]))))
def sig80 : Sig := { id := 80, ins := [(false, Ty.int .i64)], outs := [(false, [(Ty.str, none)])] }
def ir80 : IR := .op (.mk Ty.str 10) [.l (.str []), .l (.str [Int.ofNat 78]), .l (.str [Int.ofNat 78, Int.ofNat 73]), .l (.str [Int.ofNat 73]), .l (.str [Int.ofNat 66]), .l (.str [Int.ofNat 78]), .l (.str [Int.ofNat 78, Int.ofNat 73, Int.ofNat 84]), .l (.str [Int.ofNat 73]), .l (.str [Int.ofNat 78, Int.ofNat 73, Int.ofNat 84, Int.ofNat 72]), .l (.str [Int.ofNat 73])] (.op (.icmp .lss) [.v 0, .l (.int .i64 1)] (.ite (.v 2) (.ret [.l (.str [])]) (.op (.icmp .gtr) [.v 0, .l (.int .i64 9)] (.ite (.v 3) (.ret [.l (.str [])]) (.op .inb [.v 1, .v 0] (.op (.idx Ty.str) [.v 1, .v 0] (.ret [.v 4])))))))
def sig81 : Sig := { id := 81, ins := [(false, Ty.int .i64), (false, Ty.bool)], outs := [(false, [(Ty.bool, none)])] }
def ir81 : IR := .ite (.v 1) (.op (.call 125) [.v 0] (.ite (.v 2) (.ret [.l (.bool true)]) (.ret [.l (.bool false)]))) (.op (.icmp .eql) [.v 0, .l (.int .i64 0)] (.ret [.v 2]))
def sig38 : Sig := { id := 38, ins := [(true, EdT)], outs := [(false, [(Ty.bool, none)])] }
def ir38 : IR := .op (.call 80) [.v 0] (.op (.scmp .eql) [.v 12, .l (.str [])] (.ite (.v 13) (.ret [.l (.bool false)]) (.op (.call 82) [.v 12, .l (.int .u8 73)] (.op (.call 81) [.v 2, .v 14] (.op .not [.v 15] (.ite (.v 16) (.op (.icmp .eql) [.v 0, .l (.int .i64 8)] (.ite (.v 17) (.op (.icmp .eql) [.v 2, .l (.int .i64 0)] (.op .not [.v 18] (.ite (.v 19) (.ret [.l (.bool false)]) (.op (.call 82) [.v 12, .l (.int .u8 84)] (.op (.call 81) [.v 3, .v 20] (.op .not [.v 21] (.ite (.v 22) (.op (.icmp .eql) [.v 0, .l (.int .i64 8)] (.ite (.v 23) (.op (.icmp .eql) [.v 3, .l (.int .i64 0)] (.op .not [.v 24] (.ite (.v 25) (.ret [.l (.bool false)]) (.op (.call 82) [.v 12, .l (.int .u8 78)] (.op (.call 81) [.v 1, .v 26] (.op .not [.v 27] (.ite (.v 28) (.op (.icmp .eql) [.v 0, .l (.int .i64 2)] (.ite (.v 29) (.op (.icmp .eql) [.v 1, .l (.int .i64 0)] (.op .not [.v 30] (.ite (.v 31) (.ret [.l (.bool false)]) (.op (.icmp .eql) [.v 0, .l (.int .i64 8)] (.ite (.v 32) (.op (.icmp .eql) [.v 2, .l (.int .i64 0)] (.op (.icmp .eql) [.v 3, .l (.int .i64 0)] (.op (.bcmp .neq) [.v 33, .v 34] (.ite (.v 35) (.ret [.l (.bool false)]) (.op (.icmp .lss) [.v 4, .l (.int .i64 0)] (.ite (.v 36) (.ret [.l (.bool false)]) (.op (.icmp .lss) [.v 5, .l (.int .i64 0)] (.ite (.v 37) (.ret [.l (.bool false)]) (.op (.icmp .lss) [.v 6, .l (.int .i64 0)] (.ite (.v 38) (.ret [.l (.bool false)]) (.op (.icmp .gtr) [.v 4, .l (.int .i64 2147483647)] (.ite (.v 39) (.ret [.l (.bool false)]) (.op (.icmp .gtr) [.v 5, .l (.int .i64 2147483647)] (.ite (.v 40) (.ret [.l (.bool false)]) (.op (.icmp .gtr) [.v 6, .l (.int .i64 2147483647)] (.ite (.v 41) (.ret [.l (.bool false)]) (.op (.call 82) [.v 12, .l (.int .u8 72)] (.op .not [.v 42] (.ite (.v 43) (.op (.eqs true 3) [.v 4, .v 5, .v 6, .l (.int .i64 0), .l (.int .i64 0), .l (.int .i64 0)] (.ite (.v 44) (.ret [.l (.bool false)]) (.op (.call 82) [.v 12, .l (.int .u8 66)] (.ite (.v 45) (.op (.mk TbT 1) [.v 7, .v 8, .v 9, .v 10, .v 11] (.op (.call 54) [.v 46] (.ret [.v 47]))) (.op (.eqs false 5) [.v 7, .v 8, .v 9, .v 10, .v 11, .l (.int .i64 0), .l (.int .i64 0), .l (.int .i64 0), .l (.str []), .l (.str [])] (.ret [.v 46])))))) (.op (.call 82) [.v 12, .l (.int .u8 66)] (.ite (.v 44) (.op (.mk TbT 1) [.v 7, .v 8, .v 9, .v 10, .v 11] (.op (.call 54) [.v 45] (.ret [.v 46]))) (.op (.eqs false 5) [.v 7, .v 8, .v 9, .v 10, .v 11, .l (.int .i64 0), .l (.int .i64 0), .l (.int .i64 0), .l (.str []), .l (.str [])] (.ret [.v 45]))))))))))))))))))))))) (.op (.icmp .lss) [.v 4, .l (.int .i64 0)] (.ite (.v 33) (.ret [.l (.bool false)]) (.op (.icmp .lss) [.v 5, .l (.int .i64 0)] (.ite (.v 34) (.ret [.l (.bool false)]) (.op (.icmp .lss) [.v 6, .l (.int .i64 0)] (.ite (.v 35) (.ret [.l (.bool false)]) (.op (.icmp .gtr) [.v 4, .l (.int .i64 2147483647)] (.ite (.v 36) (.ret [.l (.bool false)]) (.op (.icmp .gtr) [.v 5, .l (.int .i64 2147483647)] (.ite (.v 37) (.ret [.l (.bool false)]) (.op (.icmp .gtr) [.v 6, .l (.int .i64 2147483647)] (.ite (.v 38) (.ret [.l (.bool false)]) (.op (.call 82) [.v 12, .l (.int .u8 72)] (.op .not [.v 39] (.ite (.v 40) (.op (.eqs true 3) [.v 4, .v 5, .v 6, .l (.int .i64 0), .l (.int .i64 0), .l (.int .i64 0)] (.ite (.v 41) (.ret [.l (.bool false)]) (.op (.call 82) [.v 12, .l (.int .u8 66)] (.ite (.v 42) (.op (.mk TbT 1) [.v 7, .v 8, .v 9, .v 10, .v 11] (.op (.call 54) [.v 43] (.ret [.v 44]))) (.op (.eqs false 5) [.v 7, .v 8, .v 9, .v 10, .v 11, .l (.int .i64 0), .l (.int .i64 0), .l (.int .i64 0), .l (.str []), .l (.str [])] (.ret [.v 43])))))) (.op (.call 82) [.v 12, .l (.int .u8 66)] (.ite (.v 41) (.op (.mk TbT 1) [.v 7, .v 8, .v 9, .v 10, .v 11] (.op (.call 54) [.v 42] (.ret [.v 43]))) (.op (.eqs false 5) [.v 7, .v 8, .v 9, .v 10, .v 11, .l (.int .i64 0), .l (.int .i64 0), .l (.int .i64 0), .l (.str []), .l (.str [])] (.ret [.v 42])))))))))))))))))))))))) (.ret [.l (.bool false)]))) (.op (.icmp .eql) [.v 0, .l (.int .i64 8)] (.ite (.v 29) (.op (.icmp .eql) [.v 2, .l (.int .i64 0)] (.op (.icmp .eql) [.v 3, .l (.int .i64 0)] (.op (.bcmp .neq) [.v 30, .v 31] (.ite (.v 32) (.ret [.l (.bool false)]) (.op (.icmp .lss) [.v 4, .l (.int .i64 0)] (.ite (.v 33) (.ret [.l (.bool false)]) (.op (.icmp .lss) [.v 5, .l (.int .i64 0)] (.ite (.v 34) (.ret [.l (.bool false)]) (.op (.icmp .lss) [.v 6, .l (.int .i64 0)] (.ite (.v 35) (.ret [.l (.bool false)]) (.op (.icmp .gtr) [.v 4, .l (.int .i64 2147483647)] (.ite (.v 36) (.ret [.l (.bool false)]) (.op (.icmp .gtr) [.v 5, .l (.int .i64 2147483647)] (.ite (.v 37) (.ret [.l (.bool false)]) (.op (.icmp .gtr) [.v 6, .l (.int .i64 2147483647)] (.ite (.v 38) (.ret [.l (.bool false)]) (.op (.call 82) [.v 12, .l (.int .u8 72)] (.op .not [.v 39] (.ite (.v 40) (.op (.eqs true 3) [.v 4, .v 5, .v 6, .l (.int .i64 0), .l (.int .i64 0), .l (.int .i64 0)] (.ite (.v 41) (.ret [.l (.bool false)]) (.op (.call 82) [.v 12, .l (.int .u8 66)] (.ite (.v 42) (.op (.mk TbT 1) [.v 7, .v 8, .v 9, .v 10, .v 11] (.op (.call 54) [.v 43] (.ret [.v 44]))) (.op (.eqs false 5) [.v 7, .v 8, .v 9, .v 10, .v 11, .l (.int .i64 0), .l (.int .i64 0), .l (.int .i64 0), .l (.str []), .l (.str [])] (.ret [.v 43])))))) (.op (.call 82) [.v 12, .l (.int .u8 66)] (.ite (.v 41) (.op (.mk TbT 1) [.v 7, .v 8, .v 9, .v 10, .v 11] (.op (.call 54) [.v 42] (.ret [.v 43]))) (.op (.eqs false 5) [.v 7, .v 8, .v 9, .v 10, .v 11, .l (.int .i64 0), .l (.int .i64 0), .l (.int .i64 0), .l (.str []), .l (.str [])] (.ret [.v 42]))))))))))))))))))))))) (.op (.icmp .lss) [.v 4, .l (.int .i64 0)] (.ite (.v 30) (.ret [.l (.bool false)]) (.op (.icmp .lss) [.v 5, .l (.int .i64 0)] (.ite (.v 31) (.ret [.l (.bool false)]) (.op (.icmp .lss) [.v 6, .l (.int .i64 0)] (.ite (.v 32) (.ret [.l (.bool false)]) (.op (.icmp .gtr) [.v 4, .l (.int .i64 2147483647)] (.ite (.v 33) (.ret [.l (.bool false)]) (.op (.icmp .gtr) [.v 5, .l (.int .i64 2147483647)] (.ite (.v 34) (.ret [.l (.bool false)]) (.op (.icmp .gtr) [.v 6, .l (.int .i64 2147483647)] (.ite (.v 35) (.ret [.l (.bool false)]) (.op (.call 82) [.v 12, .l (.int .u8 72)] (.op .not [.v 36] (.ite (.v 37) (.op (.eqs true 3) [.v 4, .v 5, .v 6, .l (.int .i64 0), .l (.int .i64 0), .l (.int .i64 0)] (.ite (.v 38) (.ret [.l (.bool false)]) (.op (.call 82) [.v 12, .l (.int .u8 66)] (.ite (.v 39) (.op (.mk TbT 1) [.v 7, .v 8, .v 9, .v 10, .v 11] (.op (.call 54) [.v 40] (.ret [.v 41]))) (.op (.eqs false 5) [.v 7, .v 8, .v 9, .v 10, .v 11, .l (.int .i64 0), .l (.int .i64 0), .l (.int .i64 0), .l (.str []), .l (.str [])] (.ret [.v 40])))))) (.op (.call 82) [.v 12, .l (.int .u8 66)] (.ite (.v 38) (.op (.mk TbT 1) [.v 7, .v 8, .v 9, .v 10, .v 11] (.op (.call 54) [.v 39] (.ret [.v 40]))) (.op (.eqs false 5) [.v 7, .v 8, .v 9, .v 10, .v 11, .l (.int .i64 0), .l (.int .i64 0), .l (.int .i64 0), .l (.str []), .l (.str [])] (.ret [.v 39])))))))))))))))))))))))))))) (.ret [.l (.bool false)]))) (.op (.call 82) [.v 12, .l (.int .u8 78)] (.op (.call 81) [.v 1, .v 23] (.op .not [.v 24] (.ite (.v 25) (.op (.icmp .eql) [.v 0, .l (.int .i64 2)] (.ite (.v 26) (.op (.icmp .eql) [.v 1, .l (.int .i64 0)] (.op .not [.v 27] (.ite (.v 28) (.ret [.l (.bool false)]) (.op (.icmp .eql) [.v 0, .l (.int .i64 8)] (.ite (.v 29) (.op (.icmp .eql) [.v 2, .l (.int .i64 0)] (.op (.icmp .eql) [.v 3, .l (.int .i64 0)] (.op (.bcmp .neq) [.v 30, .v 31] (.ite (.v 32) (.ret [.l (.bool false)]) (.op (.icmp .lss) [.v 4, .l (.int .i64 0)] (.ite (.v 33) (.ret [.l (.bool false)]) (.op (.icmp .lss) [.v 5, .l (.int .i64 0)] (.ite (.v 34) (.ret [.l (.bool false)]) (.op (.icmp .lss) [.v 6, .l (.int .i64 0)] (.ite (.v 35) (.ret [.l (.bool false)]) (.op (.icmp .gtr) [.v 4, .l (.int .i64 2147483647)] (.ite (.v 36) (.ret [.l (.bool false)]) (.op (.icmp .gtr) [.v 5, .l (.int .i64 2147483647)] (.ite (.v 37) (.ret [.l (.bool false)]) (.op (.icmp .gtr) [.v 6, .l (.int .i64 2147483647)] (.ite (.v 38) (.ret [.l (.bool false)]) (.op (.call 82) [.v 12, .l (.int .u8 72)] (.op .not [.v 39] (.ite (.v 40) (.op (.eqs true 3) [.v 4, .v 5, .v 6, .l (.int .i64 0), .l (.int .i64 0), .l (.int .i64 0)] (.ite (.v 41) (.ret [.l (.bool false)]) (.op (.call 82) [.v 12, .l (.int .u8 66)] (.ite (.v 42) (.op (.mk TbT 1) [.v 7, .v 8, .v 9, .v 10, .v 11] (.op (.call 54) [.v 43] (.ret [.v 44]))) (.op (.eqs false 5) [.v 7, .v 8, .v 9, .v 10, .v 11, .l (.int .i64 0), .l (.int .i64 0), .l (.int .i64 0), .l (.str []), .l (.str [])] (.ret [.v 43])))))) (.op (.call 82) [.v 12, .l (.int .u8 66)] (.ite (.v 41) (.op (.mk TbT 1) [.v 7, .v 8, .v 9, .v 10, .v 11] (.op (.call 54) [.v 42] (.ret [.v 43]))) (.op (.eqs false 5) [.v 7, .v 8, .v 9, .v 10, .v 11, .l (.int .i64 0), .l (.int .i64 0), .l (.int .i64 0), .l (.str []), .l (.str [])] (.ret [.v 42]))))))))))))))))))))))) (.op (.icmp .lss) [.v 4, .l (.int .i64 0)] (.ite (.v 30) (.ret [.l (.bool false)]) (.op (.icmp .lss) [.v 5, .l (.int .i64 0)] (.ite (.v 31) (.ret [.l (.bool false)]) (.op (.icmp .lss) [.v 6, .l (.int .i64 0)] (.ite (.v 32) (.ret [.l (.bool false)]) (.op (.icmp .gtr) [.v 4, .l (.int .i64 2147483647)] (.ite (.v 33) (.ret [.l (.bool false)]) (.op (.icmp .gtr) [.v 5, .l (.int .i64 2147483647)] (.ite (.v 34) (.ret [.l (.bool false)]) (.op (.icmp .gtr) [.v 6, .l (.int .i64 2147483647)] (.ite (.v 35) (.ret [.l (.bool false)]) (.op (.call 82) [.v 12, .l (.int .u8 72)] (.op .not [.v 36] (.ite (.v 37) (.op (.eqs true 3) [.v 4, .v 5, .v 6, .l (.int .i64 0), .l (.int .i64 0), .l (.int .i64 0)] (.ite (.v 38) (.ret [.l (.bool false)]) (.op (.call 82) [.v 12, .l (.int .u8 66)] (.ite (.v 39) (.op (.mk TbT 1) [.v 7, .v 8, .v 9, .v 10, .v 11] (.op (.call 54) [.v 40] (.ret [.v 41]))) (.op (.eqs false 5) [.v 7, .v 8, .v 9, .v 10, .v 11, .l (.int .i64 0), .l (.int .i64 0), .l (.int .i64 0), .l (.str []), .l (.str [])] (.ret [.v 40])))))) (.op (.call 82) [.v 12, .l (.int .u8 66)] (.ite (.v 38) (.op (.mk TbT 1) [.v 7, .v 8, .v 9, .v 10, .v 11] (.op (.call 54) [.v 39] (.ret [.v 40]))) (.op (.eqs false 5) [.v 7, .v 8, .v 9, .v 10, .v 11, .l (.int .i64 0), .l (.int .i64 0), .l (.int .i64 0), .l (.str []), .l (.str [])] (.ret [.v 39])))))))))))))))))))))))) (.ret [.l (.bool false)]))) (.op (.icmp .eql) [.v 0, .l (.int .i64 8)] (.ite (.v 26) (.op (.icmp .eql) [.v 2, .l (.int .i64 0)] (.op (.icmp .eql) [.v 3, .l (.int .i64 0)] (.op (.bcmp .neq) [.v 27, .v 28] (.ite (.v 29) (.ret [.l (.bool false)]) (.op (.icmp .lss) [.v 4, .l (.int .i64 0)] (.ite (.v 30) (.ret [.l (.bool false)]) (.op (.icmp .lss) [.v 5, .l (.int .i64 0)] (.ite (.v 31) (.ret [.l (.bool false)]) (.op (.icmp .lss) [.v 6, .l (.int .i64 0)] (.ite (.v 32) (.ret [.l (.bool false)]) (.op (.icmp .gtr) [.v 4, .l (.int .i64 2147483647)] (.ite (.v 33) (.ret [.l (.bool false)]) (.op (.icmp .gtr) [.v 5, .l (.int .i64 2147483647)] (.ite (.v 34) (.ret [.l (.bool false)]) (.op (.icmp .gtr) [.v 6, .l (.int .i64 2147483647)] (.ite (.v 35) (.ret [.l (.bool false)]) (.op (.call 82) [.v 12, .l (.int .u8 72)] (.op .not [.v 36] (.ite (.v 37) (.op (.eqs true 3) [.v 4, .v 5, .v 6, .l (.int .i64 0), .l (.int .i64 0), .l (.int .i64 0)] (.ite (.v 38) (.ret [.l (.bool false)]) (.op (.call 82) [.v 12, .l (.int .u8 66)] (.ite (.v 39) (.op (.mk TbT 1) [.v 7, .v 8, .v 9, .v 10, .v 11] (.op (.call 54) [.v 40] (.ret [.v 41]))) (.op (.eqs false 5) [.v 7, .v 8, .v 9, .v 10, .v 11, .l (.int .i64 0), .l (.int .i64 0), .l (.int .i64 0), .l (.str []), .l (.str [])] (.ret [.v 40])))))) (.op (.call 82) [.v 12, .l (.int .u8 66)] (.ite (.v 38) (.op (.mk TbT 1) [.v 7, .v 8, .v 9, .v 10, .v 11] (.op (.call 54) [.v 39] (.ret [.v 40]))) (.op (.eqs false 5) [.v 7, .v 8, .v 9, .v 10, .v 11, .l (.int .i64 0), .l (.int .i64 0), .l (.int .i64 0), .l (.str []), .l (.str [])] (.ret [.v 39]))))))))))))))))))))))) (.op (.icmp .lss) [.v 4, .l (.int .i64 0)] (.ite (.v 27) (.ret [.l (.bool false)]) (.op (.icmp .lss) [.v 5, .l (.int .i64 0)] (.ite (.v 28) (.ret [.l (.bool false)]) (.op (.icmp .lss) [.v 6, .l (.int .i64 0)] (.ite (.v 29) (.ret [.l (.bool false)]) (.op (.icmp .gtr) [.v 4, .l (.int .i64 2147483647)] (.ite (.v 30) (.ret [.l (.bool false)]) (.op (.icmp .gtr) [.v 5, .l (.int .i64 2147483647)] (.ite (.v 31) (.ret [.l (.bool false)]) (.op (.icmp .gtr) [.v 6, .l (.int .i64 2147483647)] (.ite (.v 32) (.ret [.l (.bool false)]) (.op (.call 82) [.v 12, .l (.int .u8 72)] (.op .not [.v 33] (.ite (.v 34) (.op (.eqs true 3) [.v 4, .v 5, .v 6, .l (.int .i64 0), .l (.int .i64 0), .l (.int .i64 0)] (.ite (.v 35) (.ret [.l (.bool false)]) (.op (.call 82) [.v 12, .l (.int .u8 66)] (.ite (.v 36) (.op (.mk TbT 1) [.v 7, .v 8, .v 9, .v 10, .v 11] (.op (.call 54) [.v 37] (.ret [.v 38]))) (.op (.eqs false 5) [.v 7, .v 8, .v 9, .v 10, .v 11, .l (.int .i64 0), .l (.int .i64 0), .l (.int .i64 0), .l (.str []), .l (.str [])] (.ret [.v 37])))))) (.op (.call 82) [.v 12, .l (.int .u8 66)] (.ite (.v 35) (.op (.mk TbT 1) [.v 7, .v 8, .v 9, .v 10, .v 11] (.op (.call 54) [.v 36] (.ret [.v 37]))) (.op (.eqs false 5) [.v 7, .v 8, .v 9, .v 10, .v 11, .l (.int .i64 0), .l (.int .i64 0), .l (.int .i64 0), .l (.str []), .l (.str [])] (.ret [.v 36])))))))))))))))))))))))))))))))) (.ret [.l (.bool false)]))) (.op (.call 82) [.v 12, .l (.int .u8 84)] (.op (.call 81) [.v 3, .v 17] (.op .not [.v 18] (.ite (.v 19) (.op (.icmp .eql) [.v 0, .l (.int .i64 8)] (.ite (.v 20) (.op (.icmp .eql) [.v 3, .l (.int .i64 0)] (.op .not [.v 21] (.ite (.v 22) (.ret [.l (.bool false)]) (.op (.call 82) [.v 12, .l (.int .u8 78)] (.op (.call 81) [.v 1, .v 23] (.op .not [.v 24] (.ite (.v 25) (.op (.icmp .eql) [.v 0, .l (.int .i64 2)] (.ite (.v 26) (.op (.icmp .eql) [.v 1, .l (.int .i64 0)] (.op .not [.v 27] (.ite (.v 28) (.ret [.l (.bool false)]) (.op (.icmp .eql) [.v 0, .l (.int .i64 8)] (.ite (.v 29) (.op (.icmp .eql) [.v 2, .l (.int .i64 0)] (.op (.icmp .eql) [.v 3, .l (.int .i64 0)] (.op (.bcmp .neq) [.v 30, .v 31] (.ite (.v 32) (.ret [.l (.bool false)]) (.op (.icmp .lss) [.v 4, .l (.int .i64 0)] (.ite (.v 33) (.ret [.l (.bool false)]) (.op (.icmp .lss) [.v 5, .l (.int .i64 0)] (.ite (.v 34) (.ret [.l (.bool false)]) (.op (.icmp .lss) [.v 6, .l (.int .i64 0)] (.ite (.v 35) (.ret [.l (.bool false)]) (.op (.icmp .gtr) [.v 4, .l (.int .i64 2147483647)] (.ite (.v 36) (.ret [.l (.bool false)]) (.op (.icmp .gtr) [.v 5, .l (.int .i64 2147483647)] (.ite (.v 37) (.ret [.l (.bool false)]) (.op (.icmp .gtr) [.v 6, .l (.int .i64 2147483647)] (.ite (.v 38) (.ret [.l (.bool false)]) (.op (.call 82) [.v 12, .l (.int .u8 72)] (.op .not [.v 39] (.ite (.v 40) (.op (.eqs true 3) [.v 4, .v 5, .v 6, .l (.int .i64 0), .l (.int .i64 0), .l (.int .i64 0)] (.ite (.v 41) (.ret [.l (.bool false)]) (.op (.call 82) [.v 12, .l (.int .u8 66)] (.ite (.v 42) (.op (.mk TbT 1) [.v 7, .v 8, .v 9, .v 10, .v 11] (.op (.call 54) [.v 43] (.ret [.v 44]))) (.op (.eqs false 5) [.v 7, .v 8, .v 9, .v 10, .v 11, .l (.int .i64 0), .l (.int .i64 0), .l (.int .i64 0), .l (.str []), .l (.str [])] (.ret [.v 43])))))) (.op (.call 82) [.v 12, .l (.int .u8 66)] (.ite (.v 41) (.op (.mk TbT 1) [.v 7, .v 8, .v 9, .v 10, .v 11] (.op (.call 54) [.v 42] (.ret [.v 43]))) (.op (.eqs false 5) [.v 7, .v 8, .v 9, .v 10, .v 11, .l (.int .i64 0), .l (.int .i64 0), .l (.int .i64 0), .l (.str []), .l (.str [])] (.ret [.v 42]))))))))))))))))))))))) (.op (.icmp .lss) [.v 4, .l (.int .i64 0)] (.ite (.v 30) (.ret [.l (.bool false)]) (.op (.icmp .lss) [.v 5, .l (.int .i64 0)] (.ite (.v 31) (.ret [.l (.bool false)]) (.op (.icmp .lss) [.v 6, .l (.int .i64 0)] (.ite (.v 32) (.ret [.l (.bool false)]) (.op (.icmp .gtr) [.v 4, .l (.int .i64 2147483647)] (.ite (.v 33) (.ret [.l (.bool false)]) (.op (.icmp .gtr) [.v 5, .l (.int .i64 2147483647)] (.ite (.v 34) (.ret [.l (.bool false)]) (.op (.icmp .gtr) [.v 6, .l (.int .i64 2147483647)] (.ite (.v 35) (.ret [.l (.bool false)]) (.op (.call 82) [.v 12, .l (.int .u8 72)] (.op .not [.v 36] (.ite (.v 37) (.op (.eqs true 3) [.v 4, .v 5, .v 6, .l (.int .i64 0), .l (.int .i64 0), .l (.int .i64 0)] (.ite (.v 38) (.ret [.l (.bool false)]) (.op (.call 82) [.v 12, .l (.int .u8 66)] (.ite (.v 39) (.op (.mk TbT 1) [.v 7, .v 8, .v 9, .v 10, .v 11] (.op (.call 54) [.v 40] (.ret [.v 41]))) (.op (.eqs false 5) [.v 7, .v 8, .v 9, .v 10, .v 11, .l (.int .i64 0), .l (.int .i64 0), .l (.int .i64 0), .l (.str []), .l (.str [])] (.ret [.v 40])))))) (.op (.call 82) [.v 12, .l (.int .u8 66)] (.ite (.v 38) (.op (.mk TbT 1) [.v 7, .v 8, .v 9, .v 10, .v 11] (.op (.call 54) [.v 39] (.ret [.v 40]))) (.op (.eqs false 5) [.v 7, .v 8, .v 9, .v 10, .v 11, .l (.int .i64 0), .l (.int .i64 0), .l (.int .i64 0), .l (.str []), .l (.str [])] (.ret [.v 39])))))))))))))))))))))))) (.ret [.l (.bool false)]))) (.op (.icmp .eql) [.v 0, .l (.int .i64 8)] (.ite (.v 26) (.op (.icmp .eql) [.v 2, .l (.int .i64 0)] (.op (.icmp .eql) [.v 3, .l (.int .i64 0)] (.op (.bcmp .neq) [.v 27, .v 28] (.ite (.v 29) (.ret [.l (.bool false)]) (.op (.icmp .lss) [.v 4, .l (.int .i64 0)] (.ite (.v 30) (.ret [.l (.bool false)]) (.op (.icmp .lss) [.v 5, .l (.int .i64 0)] (.ite (.v 31) (.ret [.l (.bool false)]) (.op (.icmp .lss) [.v 6, .l (.int .i64 0)] (.ite (.v 32) (.ret [.l (.bool false)]) (.op (.icmp .gtr) [.v 4, .l (.int .i64 2147483647)] (.ite (.v 33) (.ret [.l (.bool false)]) (.op (.icmp .gtr) [.v 5, .l (.int .i64 2147483647)] (.ite (.v 34) (.ret [.l (.bool false)]) (.op (.icmp .gtr) [.v 6, .l (.int .i64 2147483647)] (.ite (.v 35) (.ret [.l (.bool false)]) (.op (.call 82) [.v 12, .l (.int .u8 72)] (.op .not [.v 36] (.ite (.v 37) (.op (.eqs true 3) [.v 4, .v 5, .v 6, .l (.int .i64 0), .l (.int .i64 0), .l (.int .i64 0)] (.ite (.v 38) (.ret [.l (.bool false)]) (.op (.call 82) [.v 12, .l (.int .u8 66)] (.ite (.v 39) (.op (.mk TbT 1) [.v 7, .v 8, .v 9, .v 10, .v 11] (.op (.call 54) [.v 40] (.ret [.v 41]))) (.op (.eqs false 5) [.v 7, .v 8, .v 9, .v 10, .v 11, .l (.int .i64 0), .l (.int .i64 0), .l (.int .i64 0), .l (.str []), .l (.str [])] (.ret [.v 40])))))) (.op (.call 82) [.v 12, .l (.int .u8 66)] (.ite (.v 38) (.op (.mk TbT 1) [.v 7, .v 8, .v 9, .v 10, .v 11] (.op (.call 54) [.v 39] (.ret [.v 40]))) (.op (.eqs false 5) [.v 7, .v 8, .v 9, .v 10, .v 11, .l (.int .i64 0), .l (.int .i64 0), .l (.int .i64 0), .l (.str []), .l (.str [])] (.ret [.v 39]))))))))))))))))))))))) (.op (.icmp .lss) [.v 4, .l (.int .i64 0)] (.ite (.v 27) (.ret [.l (.bool false)]) (.op (.icmp .lss) [.v 5, .l (.int .i64 0)] (.ite (.v 28) (.ret [.l (.bool false)]) (.op (.icmp .lss) [.v 6, .l (.int .i64 0)] (.ite (.v 29) (.ret [.l (.bool false)]) (.op (.icmp .gtr) [.v 4, .l (.int .i64 2147483647)] (.ite (.v 30) (.ret [.l (.bool false)]) (.op (.icmp .gtr) [.v 5, .l (.int .i64 2147483647)] (.ite (.v 31) (.ret [.l (.bool false)]) (.op (.icmp .gtr) [.v 6, .l (.int .i64 2147483647)] (.ite (.v 32) (.ret [.l (.bool false)]) (.op (.call 82) [.v 12, .l (.int .u8 72)] (.op .not [.v 33] (.ite (.v 34) (.op (.eqs true 3) [.v 4, .v 5, .v 6, .l (.int .i64 0), .l (.int .i64 0), .l (.int .i64 0)] (.ite (.v 35) (.ret [.l (.bool false)]) (.op (.call 82) [.v 12, .l (.int .u8 66)] (.ite (.v 36) (.op (.mk TbT 1) [.v 7, .v 8, .v 9, .v 10, .v 11] (.op (.call 54) [.v 37] (.ret [.v 38]))) (.op (.eqs false 5) [.v 7, .v 8, .v 9, .v 10, .v 11, .l (.int .i64 0), .l (.int .i64 0), .l (.int .i64 0), .l (.str []), .l (.str [])] (.ret [.v 37])))))) (.op (.call 82) [.v 12, .l (.int .u8 66)] (.ite (.v 35) (.op (.mk TbT 1) [.v 7, .v 8, .v 9, .v 10, .v 11] (.op (.call 54) [.v 36] (.ret [.v 37]))) (.op (.eqs false 5) [.v 7, .v 8, .v 9, .v 10, .v 11, .l (.int .i64 0), .l (.int .i64 0), .l (.int .i64 0), .l (.str []), .l (.str [])] (.ret [.v 36])))))))))))))))))))))))))))) (.ret [.l (.bool false)]))) (.op (.call 82) [.v 12, .l (.int .u8 78)] (.op (.call 81) [.v 1, .v 20] (.op .not [.v 21] (.ite (.v 22) (.op (.icmp .eql) [.v 0, .l (.int .i64 2)] (.ite (.v 23) (.op (.icmp .eql) [.v 1, .l (.int .i64 0)] (.op .not [.v 24] (.ite (.v 25) (.ret [.l (.bool false)]) (.op (.icmp .eql) [.v 0, .l (.int .i64 8)] (.ite (.v 26) (.op (.icmp .eql) [.v 2, .l (.int .i64 0)] (.op (.icmp .eql) [.v 3, .l (.int .i64 0)] (.op (.bcmp .neq) [.v 27, .v 28] (.ite (.v 29) (.ret [.l (.bool false)]) (.op (.icmp .lss) [.v 4, .l (.int .i64 0)] (.ite (.v 30) (.ret [.l (.bool false)]) (.op (.icmp .lss) [.v 5, .l (.int .i64 0)] (.ite (.v 31) (.ret [.l (.bool false)]) (.op (.icmp .lss) [.v 6, .l (.int .i64 0)] (.ite (.v 32) (.ret [.l (.bool false)]) (.op (.icmp .gtr) [.v 4, .l (.int .i64 2147483647)] (.ite (.v 33) (.ret [.l (.bool false)]) (.op (.icmp .gtr) [.v 5, .l (.int .i64 2147483647)] (.ite (.v 34) (.ret [.l (.bool false)]) (.op (.icmp .gtr) [.v 6, .l (.int .i64 2147483647)] (.ite (.v 35) (.ret [.l (.bool false)]) (.op (.call 82) [.v 12, .l (.int .u8 72)] (.op .not [.v 36] (.ite (.v 37) (.op (.eqs true 3) [.v 4, .v 5, .v 6, .l (.int .i64 0), .l (.int .i64 0), .l (.int .i64 0)] (.ite (.v 38) (.ret [.l (.bool false)]) (.op (.call 82) [.v 12, .l (.int .u8 66)] (.ite (.v 39) (.op (.mk TbT 1) [.v 7, .v 8, .v 9, .v 10, .v 11] (.op (.call 54) [.v 40] (.ret [.v 41]))) (.op (.eqs false 5) [.v 7, .v 8, .v 9, .v 10, .v 11, .l (.int .i64 0), .l (.int .i64 0), .l (.int .i64 0), .l (.str []), .l (.str [])] (.ret [.v 40])))))) (.op (.call 82) [.v 12, .l (.int .u8 66)] (.ite (.v 38) (.op (.mk TbT 1) [.v 7, .v 8, .v 9, .v 10, .v 11] (.op (.call 54) [.v 39] (.ret [.v 40]))) (.op (.eqs false 5) [.v 7, .v 8, .v 9, .v 10, .v 11, .l (.int .i64 0), .l (.int .i64 0), .l (.int .i64 0), .l (.str []), .l (.str [])] (.ret [.v 39]))))))))))))))))))))))) (.op (.icmp .lss) [.v 4, .l (.int .i64 0)] (.ite (.v 27) (.ret [.l (.bool false)]) (.op (.icmp .lss) [.v 5, .l (.int .i64 0)] (.ite (.v 28) (.ret [.l (.bool false)]) (.op (.icmp .lss) [.v 6, .l (.int .i64 0)] (.ite (.v 29) (.ret [.l (.bool false)]) (.op (.icmp .gtr) [.v 4, .l (.int .i64 2147483647)] (.ite (.v 30) (.ret [.l (.bool false)]) (.op (.icmp .gtr) [.v 5, .l (.int .i64 2147483647)] (.ite (.v 31) (.ret [.l (.bool false)]) (.op (.icmp .gtr) [.v 6, .l (.int .i64 2147483647)] (.ite (.v 32) (.ret [.l (.bool false)]) (.op (.call 82) [.v 12, .l (.int .u8 72)] (.op .not [.v 33] (.ite (.v 34) (.op (.eqs true 3) [.v 4, .v 5, .v 6, .l (.int .i64 0), .l (.int .i64 0), .l (.int .i64 0)] (.ite (.v 35) (.ret [.l (.bool false)]) (.op (.call 82) [.v 12, .l (.int .u8 66)] (.ite (.v 36) (.op (.mk TbT 1) [.v 7, .v 8, .v 9, .v 10, .v 11] (.op (.call 54) [.v 37] (.ret [.v 38]))) (.op (.eqs false 5) [.v 7, .v 8, .v 9, .v 10, .v 11, .l (.int .i64 0), .l (.int .i64 0), .l (.int .i64 0), .l (.str []), .l (.str [])] (.ret [.v 37])))))) (.op (.call 82) [.v 12, .l (.int .u8 66)] (.ite (.v 35) (.op (.mk TbT 1) [.v 7, .v 8, .v 9, .v 10, .v 11] (.op (.call 54) [.v 36] (.ret [.v 37]))) (.op (.eqs false 5) [.v 7, .v 8, .v 9, .v 10, .v 11, .l (.int .i64 0), .l (.int .i64 0), .l (.int .i64 0), .l (.str []), .l (.str [])] (.ret [.v 36])))))))))))))))))))))))) (.ret [.l (.bool false)]))) (.op (.icmp .eql) [.v 0, .l (.int .i64 8)] (.ite (.v 23) (.op (.icmp .eql) [.v 2, .l (.int .i64 0)] (.op (.icmp .eql) [.v 3, .l (.int .i64 0)] (.op (.bcmp .neq) [.v 24, .v 25] (.ite (.v 26) (.ret [.l (.bool false)]) (.op (.icmp .lss) [.v 4, .l (.int .i64 0)] (.ite (.v 27) (.ret [.l (.bool false)]) (.op (.icmp .lss) [.v 5, .l (.int .i64 0)] (.ite (.v 28) (.ret [.l (.bool false)]) (.op (.icmp .lss) [.v 6, .l (.int .i64 0)] (.ite (.v 29) (.ret [.l (.bool false)]) (.op (.icmp .gtr) [.v 4, .l (.int .i64 2147483647)] (.ite (.v 30) (.ret [.l (.bool false)]) (.op (.icmp .gtr) [.v 5, .l (.int .i64 2147483647)] (.ite (.v 31) (.ret [.l (.bool false)]) (.op (.icmp .gtr) [.v 6, .l (.int .i64 2147483647)] (.ite (.v 32) (.ret [.l (.bool false)]) (.op (.call 82) [.v 12, .l (.int .u8 72)] (.op .not [.v 33] (.ite (.v 34) (.op (.eqs true 3) [.v 4, .v 5, .v 6, .l (.int .i64 0), .l (.int .i64 0), .l (.int .i64 0)] (.ite (.v 35) (.ret [.l (.bool false)]) (.op (.call 82) [.v 12, .l (.int .u8 66)] (.ite (.v 36) (.op (.mk TbT 1) [.v 7, .v 8, .v 9, .v 10, .v 11] (.op (.call 54) [.v 37] (.ret [.v 38]))) (.op (.eqs false 5) [.v 7, .v 8, .v 9, .v 10, .v 11, .l (.int .i64 0), .l (.int .i64 0), .l (.int .i64 0), .l (.str []), .l (.str [])] (.ret [.v 37])))))) (.op (.call 82) [.v 12, .l (.int .u8 66)] (.ite (.v 35) (.op (.mk TbT 1) [.v 7, .v 8, .v 9, .v 10, .v 11] (.op (.call 54) [.v 36] (.ret [.v 37]))) (.op (.eqs false 5) [.v 7, .v 8, .v 9, .v 10, .v 11, .l (.int .i64 0), .l (.int .i64 0), .l (.int .i64 0), .l (.str []), .l (.str [])] (.ret [.v 36]))))))))))))))))))))))) (.op (.icmp .lss) [.v 4, .l (.int .i64 0)] (.ite (.v 24) (.ret [.l (.bool false)]) (.op (.icmp .lss) [.v 5, .l (.int .i64 0)] (.ite (.v 25) (.ret [.l (.bool false)]) (.op (.icmp .lss) [.v 6, .l (.int .i64 0)] (.ite (.v 26) (.ret [.l (.bool false)]) (.op (.icmp .gtr) [.v 4, .l (.int .i64 2147483647)] (.ite (.v 27) (.ret [.l (.bool false)]) (.op (.icmp .gtr) [.v 5, .l (.int .i64 2147483647)] (.ite (.v 28) (.ret [.l (.bool false)]) (.op (.icmp .gtr) [.v 6, .l (.int .i64 2147483647)] (.ite (.v 29) (.ret [.l (.bool false)]) (.op (.call 82) [.v 12, .l (.int .u8 72)] (.op .not [.v 30] (.ite (.v 31) (.op (.eqs true 3) [.v 4, .v 5, .v 6, .l (.int .i64 0), .l (.int .i64 0), .l (.int .i64 0)] (.ite (.v 32) (.ret [.l (.bool false)]) (.op (.call 82) [.v 12, .l (.int .u8 66)] (.ite (.v 33) (.op (.mk TbT 1) [.v 7, .v 8, .v 9, .v 10, .v 11] (.op (.call 54) [.v 34] (.ret [.v 35]))) (.op (.eqs false 5) [.v 7, .v 8, .v 9, .v 10, .v 11, .l (.int .i64 0), .l (.int .i64 0), .l (.int .i64 0), .l (.str []), .l (.str [])] (.ret [.v 34])))))) (.op (.call 82) [.v 12, .l (.int .u8 66)] (.ite (.v 32) (.op (.mk TbT 1) [.v 7, .v 8, .v 9, .v 10, .v 11] (.op (.call 54) [.v 33] (.ret [.v 34]))) (.op (.eqs false 5) [.v 7, .v 8, .v 9, .v 10, .v 11, .l (.int .i64 0), .l (.int .i64 0), .l (.int .i64 0), .l (.str []), .l (.str [])] (.ret [.v 33])))))))))))))))))))))))))))))))))))
def sig41 : Sig := { id := 41, ins := [(false, EdT.sl), (false, EdT.sl)], outs := [(false, [(Ty.bool, none)])] }
def ir41 : IR := .op .len [.v 0] (.op .len [.v 1] (.op (.icmp .neq) [.v 2, .v 3] (.ite (.v 4) (.ret [.l (.bool false)]) (.loop [.l (.int .i64 0)] [Ty.int .i64] (.op .len [.v 0] (.op (.icmp .lss) [.v 5, .v 6] (.ite (.v 7) (.op .inb [.v 0, .v 5] (.op (.idx EdT) [.v 0, .v 5] (.op .inb [.v 1, .v 5] (.op (.idx EdT) [.v 1, .v 5] (.op (.eqs true 12) [.v 8, .v 9, .v 10, .v 11, .v 12, .v 13, .v 14, .v 15, .v 16, .v 17, .v 18, .v 19, .v 20, .v 21, .v 22, .v 23, .v 24, .v 25, .v 26, .v 27, .v 28, .v 29, .v 30, .v 31] (.ite (.v 32) (.ret [.l (.bool false)]) (.op (.ibin .add .i64) [.v 5, .l (.int .i64 1)] (.jump 0 [.v 33])))))))) (.ret [.l (.bool true)]))))))))
def sig127 : Sig := { id := 127, ins := [(true, EdT)], outs := [(false, [((Ty.int .u64).sl, some 104)])] }
def ir127 : IR := .op (.mk (Ty.int .i64) 0) [] (.op (.call 80) [.v 0] (.loop [.v 12, .l (.int .i64 0)] [(Ty.int .i64).sl, Ty.int .i64] (.op .len [.v 13] (.op (.icmp .lss) [.v 15, .v 16] (.ite (.v 17) (.op .sidx [.v 13, .v 15] (.op (.icmp .eql) [.v 18, .l (.int .u8 78)] (.ite (.v 19) (.op (.mk (Ty.int .i64) 1) [.v 1] (.op .app [.v 14, .v 20] (.op (.ibin .add .i64) [.v 15, .l (.int .i64 1)] (.jump 0 [.v 21, .v 22])))) (.op (.icmp .eql) [.v 18, .l (.int .u8 73)] (.ite (.v 20) (.op (.mk (Ty.int .i64) 1) [.v 2] (.op .app [.v 14, .v 21] (.op (.ibin .add .i64) [.v 15, .l (.int .i64 1)] (.jump 0 [.v 22, .v 23])))) (.op (.icmp .eql) [.v 18, .l (.int .u8 84)] (.ite (.v 21) (.op (.mk (Ty.int .i64) 1) [.v 3] (.op .app [.v 14, .v 22] (.op (.ibin .add .i64) [.v 15, .l (.int .i64 1)] (.jump 0 [.v 23, .v 24])))) (.op (.icmp .eql) [.v 18, .l (.int .u8 72)] (.ite (.v 22) (.op (.mk (Ty.int .i64) 3) [.v 4, .v 5, .v 6] (.op .app [.v 14, .v 23] (.op (.ibin .add .i64) [.v 15, .l (.int .i64 1)] (.jump 0 [.v 24, .v 25])))) (.op (.icmp .eql) [.v 18, .l (.int .u8 66)] (.ite (.v 23) (.op (.mk (Ty.int .i64) 3) [.v 7, .v 8, .v 9] (.op .app [.v 14, .v 24] (.op (.ibin .add .i64) [.v 15, .l (.int .i64 1)] (.jump 0 [.v 25, .v 26])))) (.op (.ibin .add .i64) [.v 15, .l (.int .i64 1)] (.jump 0 [.v 14, .v 24]))))))))))))) (.op (.mk (Ty.int .u64) 0) [] (.loop [.v 18, .l (.int .i64 0)] [(Ty.int .u64).sl, Ty.int .i64] (.op .len [.v 14] (.op (.icmp .lss) [.v 20, .v 21] (.ite (.v 22) (.op .inb [.v 14, .v 20] (.op (.idx (Ty.int .i64)) [.v 14, .v 20] (.op (.conv .u64) [.v 23] (.op (.mk (Ty.int .u64) 1) [.v 24] (.op .app [.v 19, .v 25] (.op (.ibin .add .i64) [.v 20, .l (.int .i64 1)] (.jump 1 [.v 26, .v 27]))))))) (.ret [.v 19])))))))))))
def sig128 : Sig := { id := 128, ins := [(false, Ty.str)], outs := [(false, [((Ty.int .u8).sl, some 5)])] }
def ir128 : IR := .op .len [.v 0] (.op (.conv .u64) [.v 1] (.op (.call 71) [.v 2] (.op .apps [.v 3, .v 0] (.ret [.v 4]))))
def sig88 : Sig := { id := 88, ins := [(true, EdT)], outs := [(false, [((Ty.int .u8).sl, some 5)])] }
def ir88 : IR := .op (.conv .u8) [.v 0] (.op (.mk (Ty.int .u8) 1) [.v 12] (.op (.call 127) [.v 0, .v 1, .v 2, .v 3, .v 4, .v 5, .v 6, .v 7, .v 8, .v 9, .v 10, .v 11] (.op (.call 120) [.v 14] (.op .app [.v 13, .v 15] (.op (.icmp .eql) [.v 0, .l (.int .i64 4)] (.ite (.v 17) (.op (.call 128) [.v 10] (.op .app [.v 16, .v 18] (.op (.call 128) [.v 11] (.op .app [.v 19, .v 20] (.ret [.v 21]))))) (.ret [.v 16])))))))
def sig42 : Sig := { id := 42, ins := [(false, EdT.sl)], outs := [(false, [((Ty.int .u8).sl, some 5)])] }
def ir42 : IR := .op .len [.v 0] (.op (.conv .u64) [.v 1] (.op (.call 71) [.v 2] (.loop [.v 3, .l (.int .i64 0)] [(Ty.int .u8).sl, Ty.int .i64] (.op .len [.v 0] (.op (.icmp .lss) [.v 5, .v 6] (.ite (.v 7) (.op .inb [.v 0, .v 5] (.op (.idx EdT) [.v 0, .v 5] (.op (.call 88) [.v 8, .v 9, .v 10, .v 11, .v 12, .v 13, .v 14, .v 15, .v 16, .v 17, .v 18, .v 19] (.op .app [.v 4, .v 20] (.op (.ibin .add .i64) [.v 5, .l (.int .i64 1)] (.jump 0 [.v 21, .v 22])))))) (.ret [.v 4])))))))
def sig39 : Sig := { id := 39, ins := [(false, EdT.sl)], outs := [(false, [((Ty.int .u8).sl, some 5)]), (false, [(Ty.int .i64, none)])] }
def ir39 : IR := .op .len [.v 0] (.op (.icmp .lss) [.v 1, .l (.int .i64 1)] (.ite (.v 2) (.ret [.l (.nil (Ty.int .u8)), .l (.int .i64 1)]) (.op .len [.v 0] (.op (.icmp .gtr) [.v 3, .l (.int .i64 200)] (.ite (.v 4) (.ret [.l (.nil (Ty.int .u8)), .l (.int .i64 1)]) (.op .len [.v 0] (.loop [.l (.int .i64 0), .l (.int .i64 0)] [Ty.int .i64, Ty.int .i64] (.op (.icmp .lss) [.v 7, .v 5] (.ite (.v 8) (.op .inb [.v 0, .v 7] (.op (.idx EdT) [.v 0, .v 7] (.op (.call 37) [.v 9, .v 10, .v 11, .v 12, .v 13, .v 14, .v 15, .v 16, .v 17, .v 18, .v 19, .v 20] (.op (.icmp .neq) [.v 21, .l (.int .i64 0)] (.ite (.v 22) (.op (.icmp .geq) [.v 7, .l (.int .i64 0)] (.ite (.v 4) (.ret [.l (.nil (Ty.int .u8)), .l (.int .i64 1)]) (.ite (.v 23) (.ret [.l (.nil (Ty.int .u8)), .l (.int .i64 1)]) (.op .len [.v 0] (.op (.conv .u64) [.v 24] (.op (.mk (Ty.int .u64) 1) [.v 25] (.op (.call 66) [.v 26] (.op .len [.v 0] (.loop [.v 27, .l (.int .i64 0), .v 9, .v 10, .v 11, .v 12, .v 13, .v 14, .v 15, .v 16, .v 17, .v 18, .v 19, .v 20] [(Ty.int .u8).sl, Ty.int .i64, Ty.int .i64, Ty.int .i64, Ty.int .i64, Ty.int .i64, Ty.int .i64, Ty.int .i64, Ty.int .i64, Ty.int .i64, Ty.int .i64, Ty.int .i64, Ty.str, Ty.str] (.op (.icmp .lss) [.v 30, .v 28] (.ite (.v 43) (.op .inb [.v 0, .v 30] (.op (.idx EdT) [.v 0, .v 30] (.op (.icmp .eql) [.v 44, .l (.int .i64 1)] (.ite (.v 56) (.op (.conv .u8) [.v 44] (.op (.mk (Ty.int .u8) 1) [.v 57] (.op .app [.v 29, .v 58] (.op (.conv .u64) [.v 45] (.op (.mk (Ty.int .u64) 1) [.v 60] (.op (.call 66) [.v 61] (.op .app [.v 59, .v 62] (.op (.ibin .add .i64) [.v 30, .l (.int .i64 1)] (.jump 1 [.v 63, .v 64, .v 31, .v 32, .v 33, .v 34, .v 35, .v 36, .v 37, .v 38, .v 39, .v 40, .v 41, .v 42]))))))))) (.op (.icmp .eql) [.v 44, .l (.int .i64 5)] (.ite (.v 57) (.op (.conv .u8) [.v 44] (.op (.mk (Ty.int .u8) 1) [.v 58] (.op .app [.v 29, .v 59] (.op (.conv .u64) [.v 45] (.op (.mk (Ty.int .u64) 1) [.v 61] (.op (.call 66) [.v 62] (.op .app [.v 60, .v 63] (.op (.ibin .add .i64) [.v 30, .l (.int .i64 1)] (.jump 1 [.v 64, .v 65, .v 31, .v 32, .v 33, .v 34, .v 35, .v 36, .v 37, .v 38, .v 39, .v 40, .v 41, .v 42]))))))))) (.op (.icmp .eql) [.v 44, .l (.int .i64 2)] (.ite (.v 58) (.op (.conv .u8) [.v 44] (.op (.mk (Ty.int .u8) 1) [.v 59] (.op .app [.v 29, .v 60] (.op (.conv .u64) [.v 45] (.op (.mk (Ty.int .u64) 1) [.v 62] (.op (.call 66) [.v 63] (.op .app [.v 61, .v 64] (.op (.conv .u64) [.v 46] (.op (.mk (Ty.int .u64) 1) [.v 66] (.op (.call 66) [.v 67] (.op .app [.v 65, .v 68] (.op (.ibin .add .i64) [.v 30, .l (.int .i64 1)] (.jump 1 [.v 69, .v 70, .v 31, .v 32, .v 33, .v 34, .v 35, .v 36, .v 37, .v 38, .v 39, .v 40, .v 41, .v 42]))))))))))))) (.op (.icmp .eql) [.v 44, .l (.int .i64 3)] (.ite (.v 59) (.op (.conv .u8) [.v 44] (.op (.mk (Ty.int .u8) 1) [.v 60] (.op .app [.v 29, .v 61] (.op (.conv .u64) [.v 46] (.op (.mk (Ty.int .u64) 1) [.v 63] (.op (.call 66) [.v 64] (.op .app [.v 62, .v 65] (.op (.ibin .add .i64) [.v 30, .l (.int .i64 1)] (.jump 1 [.v 66, .v 67, .v 31, .v 32, .v 33, .v 34, .v 35, .v 36, .v 37, .v 38, .v 39, .v 40, .v 41, .v 42]))))))))) (.op (.icmp .eql) [.v 44, .l (.int .i64 7)] (.ite (.v 60) (.op (.conv .u8) [.v 44] (.op (.mk (Ty.int .u8) 1) [.v 61] (.op .app [.v 29, .v 62] (.op (.conv .u64) [.v 46] (.op (.mk (Ty.int .u64) 1) [.v 64] (.op (.call 66) [.v 65] (.op .app [.v 63, .v 66] (.op (.ibin .add .i64) [.v 30, .l (.int .i64 1)] (.jump 1 [.v 67, .v 68, .v 31, .v 32, .v 33, .v 34, .v 35, .v 36, .v 37, .v 38, .v 39, .v 40, .v 41, .v 42]))))))))) (.op (.icmp .eql) [.v 44, .l (.int .i64 9)] (.ite (.v 61) (.op (.conv .u8) [.v 44] (.op (.mk (Ty.int .u8) 1) [.v 62] (.op .app [.v 29, .v 63] (.op (.conv .u64) [.v 46] (.op (.mk (Ty.int .u64) 1) [.v 65] (.op (.call 66) [.v 66] (.op .app [.v 64, .v 67] (.op (.ibin .add .i64) [.v 30, .l (.int .i64 1)] (.jump 1 [.v 68, .v 69, .v 31, .v 32, .v 33, .v 34, .v 35, .v 36, .v 37, .v 38, .v 39, .v 40, .v 41, .v 42]))))))))) (.op (.icmp .eql) [.v 44, .l (.int .i64 4)] (.ite (.v 62) (.op (.conv .u8) [.v 44] (.op (.mk (Ty.int .u8) 1) [.v 63] (.op .app [.v 29, .v 64] (.op (.conv .u64) [.v 51] (.op (.mk (Ty.int .u64) 1) [.v 66] (.op (.call 66) [.v 67] (.op .app [.v 65, .v 68] (.op (.conv .u64) [.v 52] (.op (.mk (Ty.int .u64) 1) [.v 70] (.op (.call 66) [.v 71] (.op .app [.v 69, .v 72] (.op (.conv .u64) [.v 53] (.op (.mk (Ty.int .u64) 1) [.v 74] (.op (.call 66) [.v 75] (.op .app [.v 73, .v 76] (.op (.call 86) [.v 54] (.op .app [.v 77, .v 78] (.op (.call 86) [.v 55] (.op .app [.v 79, .v 80] (.op (.ibin .add .i64) [.v 30, .l (.int .i64 1)] (.jump 1 [.v 81, .v 82, .v 31, .v 32, .v 33, .v 34, .v 35, .v 36, .v 37, .v 38, .v 39, .v 40, .v 41, .v 42]))))))))))))))))))))) (.op (.icmp .eql) [.v 44, .l (.int .i64 6)] (.ite (.v 63) (.op (.conv .u8) [.v 44] (.op (.mk (Ty.int .u8) 1) [.v 64] (.op .app [.v 29, .v 65] (.op (.conv .u64) [.v 45] (.op (.mk (Ty.int .u64) 1) [.v 67] (.op (.call 66) [.v 68] (.op .app [.v 66, .v 69] (.op (.conv .u64) [.v 46] (.op (.mk (Ty.int .u64) 1) [.v 71] (.op (.call 66) [.v 72] (.op .app [.v 70, .v 73] (.op (.conv .u64) [.v 47] (.op (.mk (Ty.int .u64) 1) [.v 75] (.op (.call 66) [.v 76] (.op .app [.v 74, .v 77] (.op (.ibin .add .i64) [.v 30, .l (.int .i64 1)] (.jump 1 [.v 78, .v 79, .v 31, .v 32, .v 33, .v 34, .v 35, .v 36, .v 37, .v 38, .v 39, .v 40, .v 41, .v 42]))))))))))))))))) (.op (.icmp .eql) [.v 44, .l (.int .i64 8)] (.ite (.v 64) (.op (.conv .u8) [.v 44] (.op (.mk (Ty.int .u8) 1) [.v 65] (.op .app [.v 29, .v 66] (.op (.conv .u64) [.v 45] (.op (.mk (Ty.int .u64) 1) [.v 68] (.op (.call 66) [.v 69] (.op .app [.v 67, .v 70] (.op (.conv .u64) [.v 46] (.op (.mk (Ty.int .u64) 1) [.v 72] (.op (.call 66) [.v 73] (.op .app [.v 71, .v 74] (.op (.conv .u64) [.v 47] (.op (.mk (Ty.int .u64) 1) [.v 76] (.op (.call 66) [.v 77] (.op .app [.v 75, .v 78] (.op (.conv .u64) [.v 48] (.op (.mk (Ty.int .u64) 1) [.v 80] (.op (.call 66) [.v 81] (.op .app [.v 79, .v 82] (.op (.conv .u64) [.v 49] (.op (.mk (Ty.int .u64) 1) [.v 84] (.op (.call 66) [.v 85] (.op .app [.v 83, .v 86] (.op (.conv .u64) [.v 50] (.op (.mk (Ty.int .u64) 1) [.v 88] (.op (.call 66) [.v 89] (.op .app [.v 87, .v 90] (.op (.ibin .add .i64) [.v 30, .l (.int .i64 1)] (.jump 1 [.v 91, .v 92, .v 31, .v 32, .v 33, .v 34, .v 35, .v 36, .v 37, .v 38, .v 39, .v 40, .v 41, .v 42]))))))))))))))))))))))))))))) (.op (.conv .u8) [.v 44] (.op (.mk (Ty.int .u8) 1) [.v 65] (.op .app [.v 29, .v 66] (.op (.ibin .add .i64) [.v 30, .l (.int .i64 1)] (.jump 1 [.v 67, .v 68, .v 31, .v 32, .v 33, .v 34, .v 35, .v 36, .v 37, .v 38, .v 39, .v 40, .v 41, .v 42]))))))))))))))))))))))))) (.ret [.v 29, .l (.int .i64 0)])))))))))))) (.op (.ibin .add .i64) [.v 7, .l (.int .i64 1)] (.jump 0 [.v 6, .v 23]))))))) (.ite (.v 4) (.ret [.l (.nil (Ty.int .u8)), .l (.int .i64 1)]) (.op .len [.v 0] (.op (.conv .u64) [.v 9] (.op (.mk (Ty.int .u64) 1) [.v 10] (.op (.call 66) [.v 11] (.op .len [.v 0] (.loop [.v 12, .l (.int .i64 0)] [(Ty.int .u8).sl, Ty.int .i64] (.op (.icmp .lss) [.v 15, .v 13] (.ite (.v 16) (.op .inb [.v 0, .v 15] (.op (.idx EdT) [.v 0, .v 15] (.op (.icmp .eql) [.v 17, .l (.int .i64 1)] (.ite (.v 29) (.op (.conv .u8) [.v 17] (.op (.mk (Ty.int .u8) 1) [.v 30] (.op .app [.v 14, .v 31] (.op (.conv .u64) [.v 18] (.op (.mk (Ty.int .u64) 1) [.v 33] (.op (.call 66) [.v 34] (.op .app [.v 32, .v 35] (.op (.ibin .add .i64) [.v 15, .l (.int .i64 1)] (.jump 1 [.v 36, .v 37]))))))))) (.op (.icmp .eql) [.v 17, .l (.int .i64 5)] (.ite (.v 30) (.op (.conv .u8) [.v 17] (.op (.mk (Ty.int .u8) 1) [.v 31] (.op .app [.v 14, .v 32] (.op (.conv .u64) [.v 18] (.op (.mk (Ty.int .u64) 1) [.v 34] (.op (.call 66) [.v 35] (.op .app [.v 33, .v 36] (.op (.ibin .add .i64) [.v 15, .l (.int .i64 1)] (.jump 1 [.v 37, .v 38]))))))))) (.op (.icmp .eql) [.v 17, .l (.int .i64 2)] (.ite (.v 31) (.op (.conv .u8) [.v 17] (.op (.mk (Ty.int .u8) 1) [.v 32] (.op .app [.v 14, .v 33] (.op (.conv .u64) [.v 18] (.op (.mk (Ty.int .u64) 1) [.v 35] (.op (.call 66) [.v 36] (.op .app [.v 34, .v 37] (.op (.conv .u64) [.v 19] (.op (.mk (Ty.int .u64) 1) [.v 39] (.op (.call 66) [.v 40] (.op .app [.v 38, .v 41] (.op (.ibin .add .i64) [.v 15, .l (.int .i64 1)] (.jump 1 [.v 42, .v 43]))))))))))))) (.op (.icmp .eql) [.v 17, .l (.int .i64 3)] (.ite (.v 32) (.op (.conv .u8) [.v 17] (.op (.mk (Ty.int .u8) 1) [.v 33] (.op .app [.v 14, .v 34] (.op (.conv .u64) [.v 19] (.op (.mk (Ty.int .u64) 1) [.v 36] (.op (.call 66) [.v 37] (.op .app [.v 35, .v 38] (.op (.ibin .add .i64) [.v 15, .l (.int .i64 1)] (.jump 1 [.v 39, .v 40]))))))))) (.op (.icmp .eql) [.v 17, .l (.int .i64 7)] (.ite (.v 33) (.op (.conv .u8) [.v 17] (.op (.mk (Ty.int .u8) 1) [.v 34] (.op .app [.v 14, .v 35] (.op (.conv .u64) [.v 19] (.op (.mk (Ty.int .u64) 1) [.v 37] (.op (.call 66) [.v 38] (.op .app [.v 36, .v 39] (.op (.ibin .add .i64) [.v 15, .l (.int .i64 1)] (.jump 1 [.v 40, .v 41]))))))))) (.op (.icmp .eql) [.v 17, .l (.int .i64 9)] (.ite (.v 34) (.op (.conv .u8) [.v 17] (.op (.mk (Ty.int .u8) 1) [.v 35] (.op .app [.v 14, .v 36] (.op (.conv .u64) [.v 19] (.op (.mk (Ty.int .u64) 1) [.v 38] (.op (.call 66) [.v 39] (.op .app [.v 37, .v 40] (.op (.ibin .add .i64) [.v 15, .l (.int .i64 1)] (.jump 1 [.v 41, .v 42]))))))))) (.op (.icmp .eql) [.v 17, .l (.int .i64 4)] (.ite (.v 35) (.op (.conv .u8) [.v 17] (.op (.mk (Ty.int .u8) 1) [.v 36] (.op .app [.v 14, .v 37] (.op (.conv .u64) [.v 24] (.op (.mk (Ty.int .u64) 1) [.v 39] (.op (.call 66) [.v 40] (.op .app [.v 38, .v 41] (.op (.conv .u64) [.v 25] (.op (.mk (Ty.int .u64) 1) [.v 43] (.op (.call 66) [.v 44] (.op .app [.v 42, .v 45] (.op (.conv .u64) [.v 26] (.op (.mk (Ty.int .u64) 1) [.v 47] (.op (.call 66) [.v 48] (.op .app [.v 46, .v 49] (.op (.call 86) [.v 27] (.op .app [.v 50, .v 51] (.op (.call 86) [.v 28] (.op .app [.v 52, .v 53] (.op (.ibin .add .i64) [.v 15, .l (.int .i64 1)] (.jump 1 [.v 54, .v 55]))))))))))))))))))))) (.op (.icmp .eql) [.v 17, .l (.int .i64 6)] (.ite (.v 36) (.op (.conv .u8) [.v 17] (.op (.mk (Ty.int .u8) 1) [.v 37] (.op .app [.v 14, .v 38] (.op (.conv .u64) [.v 18] (.op (.mk (Ty.int .u64) 1) [.v 40] (.op (.call 66) [.v 41] (.op .app [.v 39, .v 42] (.op (.conv .u64) [.v 19] (.op (.mk (Ty.int .u64) 1) [.v 44] (.op (.call 66) [.v 45] (.op .app [.v 43, .v 46] (.op (.conv .u64) [.v 20] (.op (.mk (Ty.int .u64) 1) [.v 48] (.op (.call 66) [.v 49] (.op .app [.v 47, .v 50] (.op (.ibin .add .i64) [.v 15, .l (.int .i64 1)] (.jump 1 [.v 51, .v 52]))))))))))))))))) (.op (.icmp .eql) [.v 17, .l (.int .i64 8)] (.ite (.v 37) (.op (.conv .u8) [.v 17] (.op (.mk (Ty.int .u8) 1) [.v 38] (.op .app [.v 14, .v 39] (.op (.conv .u64) [.v 18] (.op (.mk (Ty.int .u64) 1) [.v 41] (.op (.call 66) [.v 42] (.op .app [.v 40, .v 43] (.op (.conv .u64) [.v 19] (.op (.mk (Ty.int .u64) 1) [.v 45] (.op (.call 66) [.v 46] (.op .app [.v 44, .v 47] (.op (.conv .u64) [.v 20] (.op (.mk (Ty.int .u64) 1) [.v 49] (.op (.call 66) [.v 50] (.op .app [.v 48, .v 51] (.op (.conv .u64) [.v 21] (.op (.mk (Ty.int .u64) 1) [.v 53] (.op (.call 66) [.v 54] (.op .app [.v 52, .v 55] (.op (.conv .u64) [.v 22] (.op (.mk (Ty.int .u64) 1) [.v 57] (.op (.call 66) [.v 58] (.op .app [.v 56, .v 59] (.op (.conv .u64) [.v 23] (.op (.mk (Ty.int .u64) 1) [.v 61] (.op (.call 66) [.v 62] (.op .app [.v 60, .v 63] (.op (.ibin .add .i64) [.v 15, .l (.int .i64 1)] (.jump 1 [.v 64, .v 65]))))))))))))))))))))))))))))) (.op (.conv .u8) [.v 17] (.op (.mk (Ty.int .u8) 1) [.v 38] (.op .app [.v 14, .v 39] (.op (.ibin .add .i64) [.v 15, .l (.int .i64 1)] (.jump 1 [.v 40, .v 41]))))))))))))))))))))))))) (.ret [.v 14, .l (.int .i64 0)])))))))))))))))))))
def sig36 : Sig := { id := 36, ins := [], outs := [(false, [(Ty.bool, none)])] }
def ir36 : IR := .op (.mk EdT 1) [.l (.int .i64 1), .l (.int .i64 3), .l (.int .i64 0), .l (.int .i64 0), .l (.int .i64 0), .l (.int .i64 0), .l (.int .i64 0), .l (.int .i64 0), .l (.int .i64 0), .l (.int .i64 0), .l (.str []), .l (.str [])] (.op (.call 39) [.v 0] (.op (.icmp .eql) [.v 2, .l (.int .i64 0)] (.ite (.v 3) (.op (.mk (Ty.int .u8) 3) [.l (.int .u8 1), .l (.int .u8 1), .l (.int .u8 3)] (.op (.call 21) [.v 1, .v 4] (.ret [.v 5]))) (.ret [.l (.bool false)]))))
def sig6 : Sig := { id := 6, ins := [(false, EdT.sl), (false, EdT.sl)], outs := [(false, [(Ty.bool, none)])] }
def ir6 : IR := .op (.call 35) [.v 0] (.op .not [.v 2] (.ite (.v 3) (.op (.call 36) [] (.ret [.v 4])) (.op (.call 35) [.v 1] (.op .not [.v 4] (.ite (.v 5) (.op (.call 36) [] (.ret [.v 6])) (.op .len [.v 0] (.op (.icmp .gtr) [.v 6, .l (.int .i64 0)] (.loop [.v 7, .l (.int .i64 0)] [Ty.bool, Ty.int .i64] (.op .len [.v 0] (.op (.icmp .lss) [.v 9, .v 10] (.ite (.v 11) (.op .inb [.v 0, .v 9] (.op (.idx EdT) [.v 0, .v 9] (.op (.call 37) [.v 12, .v 13, .v 14, .v 15, .v 16, .v 17, .v 18, .v 19, .v 20, .v 21, .v 22, .v 23] (.op (.icmp .eql) [.v 24, .l (.int .i64 0)] (.op .inb [.v 0, .v 9] (.op (.idx EdT) [.v 0, .v 9] (.op (.call 38) [.v 26, .v 27, .v 28, .v 29, .v 30, .v 31, .v 32, .v 33, .v 34, .v 35, .v 36, .v 37] (.op (.bcmp .neq) [.v 25, .v 38] (.ite (.v 39) (.ret [.l (.bool false)]) (.ite (.v 8) (.op .inb [.v 0, .v 9] (.op (.idx EdT) [.v 0, .v 9] (.op (.call 38) [.v 40, .v 41, .v 42, .v 43, .v 44, .v 45, .v 46, .v 47, .v 48, .v 49, .v 50, .v 51] (.op (.ibin .add .i64) [.v 9, .l (.int .i64 1)] (.jump 0 [.v 52, .v 53]))))) (.op (.ibin .add .i64) [.v 9, .l (.int .i64 1)] (.jump 0 [.l (.bool false), .v 40])))))))))))) (.op (.call 39) [.v 0] (.op (.call 40) [.v 0, .v 1] (.op (.call 41) [.v 0, .v 1] (.op (.bcmp .neq) [.v 14, .v 15] (.ite (.v 16) (.ret [.l (.bool false)]) (.op .not [.v 8] (.ite (.v 17) (.op (.icmp .eql) [.v 13, .l (.int .i64 1)] (.ite (.v 18) (.op .len [.v 12] (.op (.icmp .eql) [.v 19, .l (.int .i64 0)] (.ite (.v 20) (.op (.call 36) [] (.ret [.v 21])) (.ret [.l (.bool false)])))) (.ret [.l (.bool false)]))) (.op (.icmp .eql) [.v 13, .l (.int .i64 0)] (.ite (.v 18) (.op (.call 42) [.v 0] (.op (.call 21) [.v 12, .v 19] (.ite (.v 20) (.op (.call 36) [] (.ret [.v 21])) (.ret [.l (.bool false)])))) (.ret [.l (.bool false)])))))))))))))))))))))
noncomputable def F79 : List D → Option (List D) := Fof [] ir79
noncomputable def c79 : Ct := ⟨sig79, F79⟩
noncomputable def F102 : List D → Option (List D) := Fof [] ir102
noncomputable def c102 : Ct := ⟨sig102, F102⟩
noncomputable def F114 : List D → Option (List D) := Fof [] ir114
noncomputable def c114 : Ct := ⟨sig114, F114⟩
noncomputable def F58 : List D → Option (List D) := Fof [c114, c102] ir58
noncomputable def c58 : Ct := ⟨sig58, F58⟩
noncomputable def F37 : List D → Option (List D) := Fof [c79, c58] ir37
noncomputable def c37 : Ct := ⟨sig37, F37⟩
noncomputable def F86 : List D → Option (List D) := Fof [c66] ir86
noncomputable def c86 : Ct := ⟨sig86, F86⟩
noncomputable def F87 : List D → Option (List D) := Fof [] ir87
noncomputable def c87 : Ct := ⟨sig87, F87⟩
noncomputable def F40 : List D → Option (List D) := Fof [c87] ir40
noncomputable def c40 : Ct := ⟨sig40, F40⟩
noncomputable def F35 : List D → Option (List D) := Fof [] ir35
noncomputable def c35 : Ct := ⟨sig35, F35⟩
noncomputable def F101 : List D → Option (List D) := Fof [] ir101
noncomputable def c101 : Ct := ⟨sig101, F101⟩
noncomputable def F54 : List D → Option (List D) := Fof [c101] ir54
noncomputable def c54 : Ct := ⟨sig54, F54⟩
noncomputable def F125 : List D → Option (List D) := Fof [] ir125
noncomputable def c125 : Ct := ⟨sig125, F125⟩
noncomputable def F82 : List D → Option (List D) := Fof [] ir82
noncomputable def c82 : Ct := ⟨sig82, F82⟩
noncomputable def F80 : List D → Option (List D) := Fof [] ir80
noncomputable def c80 : Ct := ⟨sig80, F80⟩
noncomputable def F81 : List D → Option (List D) := Fof [c125] ir81
noncomputable def c81 : Ct := ⟨sig81, F81⟩
noncomputable def F38 : List D → Option (List D) := Fof [c80, c82, c81, c54] ir38
noncomputable def c38 : Ct := ⟨sig38, F38⟩
noncomputable def F41 : List D → Option (List D) := Fof [] ir41
noncomputable def c41 : Ct := ⟨sig41, F41⟩
noncomputable def F127 : List D → Option (List D) := Fof [c80] ir127
noncomputable def c127 : Ct := ⟨sig127, F127⟩
noncomputable def F128 : List D → Option (List D) := Fof [c71] ir128
noncomputable def c128 : Ct := ⟨sig128, F128⟩
noncomputable def F88 : List D → Option (List D) := Fof [c127, c120, c128] ir88
noncomputable def c88 : Ct := ⟨sig88, F88⟩
noncomputable def F42 : List D → Option (List D) := Fof [c71, c88] ir42
noncomputable def c42 : Ct := ⟨sig42, F42⟩
noncomputable def F39 : List D → Option (List D) := Fof [c37, c66, c86] ir39
noncomputable def c39 : Ct := ⟨sig39, F39⟩
noncomputable def F36 : List D → Option (List D) := Fof [c39, c21] ir36
noncomputable def c36 : Ct := ⟨sig36, F36⟩
noncomputable def F6 : List D → Option (List D) := Fof [c35, c36, c37, c38, c39, c40, c41, c42, c21] ir6
noncomputable def c6 : Ct := ⟨sig6, F6⟩
end Go.Proofs.Ytdjknicjnaiomaa.Sx

set_option maxHeartbeats 1600000
/- Edits of a roster: which there may be; the small functions. -/
namespace Go.Proofs.Ytdjknicjnaiomaa.Sx
attribute [local simp ↓] den_start deb_op deb_ret deb_jump deb_itev deb_itel deb_loop deb_fail deb_nilcv
attribute [local simp] nilE_some opE_some debP_nil debP_cons pushL_nil pushL_cons retE_some iteE_some evB_nil evB_v evB_l lkE_cons consE_some d_int d_bool d_str d_nil o_add o_sub o_mul o_and o_or o_xor o_andNot o_quo o_rem o_shl o_shr o_eql o_neq o_lss o_leq o_gtr o_geq o_seql o_sneq o_slss o_sleq o_sgtr o_sgeq o_beql o_bneq o_scat o_not o_neg o_com o_conv o_s2b o_b2s o_len o_slen o_inb o_idx o_sidx o_sub3 o_sub2 o_ssub3 o_ssub2 o_app o_apps o_mk mkE_some consD_some mkD_zero mkD_int mkD_str mkD_sl o_imin o_imax o_smin o_smax o_eqs eqsE_some eqC_nil andE_some eqC_int eqC_bool eqC_str j1 outE_some outE_none outE_ite agE_1 loopE_1 agE_2 loopE_2 agE_3 loopE_3 agE_4 loopE_4 agE_5 loopE_5 agE_6 loopE_6 agE_7 loopE_7 agE_8 loopE_8 agE_9 loopE_9 List.cons_append List.nil_append List.append_nil split List.take_succ_cons List.take_zero List.drop_succ_cons List.drop_zero

abbrev Tb : Type := Int × Int × Int × List Int × List Int
abbrev Ed : Type := Int × Int × Int × Int × (Int × Int × Int) × Tb

def cnt (n : Int) : Bool := decide (1 ≤ n ∧ n ≤ 2147483647)
def cntB (n : Int) (z : Bool) : Bool := cnt n || (decide (n = 0) && z)
def tabOk (n v s : Int) (f l : List Int) : Bool := cnt n && decide (0 ≤ v ∧ v ≤ 4) && decide (0 ≤ s ∧ s ≤ 1073741824) && decide (f ≠ [] ∧ f.length ≤ 64 ∧ l.length ≤ 64) && (ltL f l || decide (f = l))

theorem f79 (n : Int) (z : Bool) : F79 [⟨.int .i64, n⟩, ⟨.bool, z⟩] = some [⟨.bool, cntB n z⟩] := by
  simp only [F79, Fof, ir79]
  unfold cntB cnt
  by_cases h1 : 1 ≤ n
  · have h0 : ¬ n = 0 := by omega
    by_cases h2 : n ≤ 2147483647 <;> simp -implicitDefEqProofs [h1, h2, h0]
  · by_cases h0 : n = 0 <;> simp -implicitDefEqProofs [h1, h0]
theorem s79 {lc : List Ct} (hl0 : look (lc.map fun c => (c.sig.id, c)) 79 = some c79) : ∀ (n : Int) (z : Bool), Does1 (Phi lc) 79 [⟨.int .i64, n⟩, ⟨.bool, z⟩] [⟨.bool, cntB n z⟩] :=
  fun n z => by
    have eFc : c79.F = F79 := rfl
    have eFh := f79 n z
    rw [← eFc] at eFh
    exact Does1.of hl0 eFh rfl
theorem f125 (n : Int) : F125 [⟨.int .i64, n⟩] = some [⟨.bool, cnt n⟩] := by
  simp only [F125, Fof, ir125]
  unfold cnt
  by_cases h1 : 1 ≤ n <;> simp -implicitDefEqProofs [h1]
theorem s125 {lc : List Ct} (hl0 : look (lc.map fun c => (c.sig.id, c)) 125 = some c125) : ∀ (n : Int), Does1 (Phi lc) 125 [⟨.int .i64, n⟩] [⟨.bool, cnt n⟩] :=
  fun n => by
    have eFc : c125.F = F125 := rfl
    have eFh := f125 n
    rw [← eFc] at eFh
    exact Does1.of hl0 eFh rfl
def rightB (n : Int) (z : Bool) : Bool := if z = true then cnt n else decide (n = 0)
theorem f81 (n : Int) (z : Bool) : F81 [⟨.int .i64, n⟩, ⟨.bool, z⟩] = some [⟨.bool, rightB n z⟩] := by
  have h125 := s125 (lc := [c125]) rfl
  simp only [F81, Fof, ir81]
  generalize Phi [c125] = Φ at *
  have k := h125 n
  unfold rightB
  cases z
  · simp -implicitDefEqProofs []
  · cases hc : cnt n <;> rw [hc] at k <;> simp -implicitDefEqProofs [k]
theorem s81 {lc : List Ct} (hl0 : look (lc.map fun c => (c.sig.id, c)) 81 = some c81) : ∀ (n : Int) (z : Bool), Does1 (Phi lc) 81 [⟨.int .i64, n⟩, ⟨.bool, z⟩] [⟨.bool, rightB n z⟩] :=
  fun n z => by
    have eFc : c81.F = F81 := rfl
    have eFh := f81 n z
    rw [← eFc] at eFh
    exact Does1.of hl0 eFh rfl
theorem f82 (s : List Int) (c : Int) (hl : s.length < 1000000) : F82 [⟨.str, s⟩, ⟨.int .u8, c⟩] = some [⟨.bool, decide (c ∈ s)⟩] := by
  simp only [F82, Fof, ir82]
  simp -implicitDefEqProofs []
  refine (iter_meas (fun t : Int => (s.length - t).toNat) (fun t => ([⟨.bool, decide (c ∈ s.drop t.toNat)⟩] : List D)) (fun t => 0 ≤ t ∧ t ≤ s.length) (by exact ⟨by omega, by omega⟩) ?_).trans (by simp)
  rintro i ⟨h1, h2⟩
  by_cases hi : i < s.length
  · rw [dropI h1 hi]
    have g1 := getI (l := s) (d := (0 : Int)) h1 hi
    have b1 : 0 ≤ i ∧ i < (s.length : Int) := ⟨h1, hi⟩
    have wi : IntKind.i64.wrap (i + 1) = i + 1 := wi64 _ (by omega) (by omega)
    generalize hcx : s[i.toNat]'(by omega) = x at *
    by_cases he : x = c
    · refine .inr ?_
      simp -implicitDefEqProofs [hi, b1, g1, hcx, he]
    · refine .inl ⟨i + 1, ?_, ⟨by omega, by omega⟩, by omega, ?_⟩
      · simp -implicitDefEqProofs [hi, b1, g1, hcx, he, wi]
      · have he' : ¬ c = x := fun e => he e.symm
        simp [he']
  · refine .inr ?_
    rw [List.drop_eq_nil_of_le (by omega)]
    simp -implicitDefEqProofs [hi]
theorem s82 {lc : List Ct} (hl0 : look (lc.map fun c => (c.sig.id, c)) 82 = some c82) : ∀ (s : List Int) (c : Int) (hl : s.length < 1000000), Does1 (Phi lc) 82 [⟨.str, s⟩, ⟨.int .u8, c⟩] [⟨.bool, decide (c ∈ s)⟩] :=
  fun s c hl => by
    have eFc : c82.F = F82 := rfl
    have eFh := f82 s c hl
    rw [← eFc] at eFh
    exact Does1.of hl0 eFh rfl
def partsL (k : Int) : List Int := if k < 1 then [] else if 9 < k then [] else [[], [78], [78, 73], [73], [66], [78], [78, 73, 84], [73], [78, 73, 84, 72], [73]][k.toNat]?.getD []
theorem f80 (k : Int) : F80 [⟨.int .i64, k⟩] = some [⟨.str, partsL k⟩] := by
  simp only [F80, Fof, ir80]
  unfold partsL
  by_cases h1 : k < 1
  · simp -implicitDefEqProofs [h1]
  by_cases h2 : 9 < k
  · simp -implicitDefEqProofs [h1, h2]
  have b1 : 0 ≤ k ∧ k < 10 := by omega
  have hmk : mkD .str 10 [⟨.str, []⟩, ⟨.str, [78]⟩, ⟨.str, [78, 73]⟩, ⟨.str, [73]⟩, ⟨.str, [66]⟩, ⟨.str, [78]⟩, ⟨.str, [78, 73, 84]⟩, ⟨.str, [73]⟩, ⟨.str, [78, 73, 84, 72]⟩, ⟨.str, [73]⟩] = some ⟨.sl .str, [[], [78], [78, 73], [73], [66], [78], [78, 73, 84], [73], [78, 73, 84, 72], [73]]⟩ := rfl
  simp -implicitDefEqProofs [h1, h2, b1, hmk]
theorem s80 {lc : List Ct} (hl0 : look (lc.map fun c => (c.sig.id, c)) 80 = some c80) : ∀ (k : Int), Does1 (Phi lc) 80 [⟨.int .i64, k⟩] [⟨.str, partsL k⟩] :=
  fun k => by
    have eFc : c80.F = F80 := rfl
    have eFh := f80 k
    rw [← eFc] at eFh
    exact Does1.of hl0 eFh rfl
theorem f102 (a b c : Int) (d e : List Int) (a' b' c' : Int) (d' e' : List Int) : F102 [⟨.int .i64, a⟩, ⟨.int .i64, b⟩, ⟨.int .i64, c⟩, ⟨.str, d⟩, ⟨.str, e⟩, ⟨.int .i64, a'⟩, ⟨.int .i64, b'⟩, ⟨.int .i64, c'⟩, ⟨.str, d'⟩, ⟨.str, e'⟩] = some [⟨.bool, !ltL e d' && !ltL e' d⟩] := by
  simp only [F102, Fof, ir102]
  cases h : ltL e d' <;> simp -implicitDefEqProofs [h]
theorem s102 {lc : List Ct} (hl0 : look (lc.map fun c => (c.sig.id, c)) 102 = some c102) : ∀ (a b c : Int) (d e : List Int) (a' b' c' : Int) (d' e' : List Int), Does1 (Phi lc) 102 [⟨.int .i64, a⟩, ⟨.int .i64, b⟩, ⟨.int .i64, c⟩, ⟨.str, d⟩, ⟨.str, e⟩, ⟨.int .i64, a'⟩, ⟨.int .i64, b'⟩, ⟨.int .i64, c'⟩, ⟨.str, d'⟩, ⟨.str, e'⟩] [⟨.bool, !ltL e d' && !ltL e' d⟩] :=
  fun a b c d e a' b' c' d' e' => by
    have eFc : c102.F = F102 := rfl
    have eFh := f102 a b c d e a' b' c' d' e'
    rw [← eFc] at eFh
    exact Does1.of hl0 eFh rfl
theorem f101 (a b c : Int) (d e : List Int) (a' b' c' : Int) (d' e' : List Int) : F101 [⟨.int .i64, a⟩, ⟨.int .i64, b⟩, ⟨.int .i64, c⟩, ⟨.str, d⟩, ⟨.str, e⟩, ⟨.int .i64, a'⟩, ⟨.int .i64, b'⟩, ⟨.int .i64, c'⟩, ⟨.str, d'⟩, ⟨.str, e'⟩] = some [⟨.bool, !ltL e d' && !ltL e' d⟩] := by
  simp only [F101, Fof, ir101]
  cases h : ltL e d' <;> simp -implicitDefEqProofs [h]
theorem s101 {lc : List Ct} (hl0 : look (lc.map fun c => (c.sig.id, c)) 101 = some c101) : ∀ (a b c : Int) (d e : List Int) (a' b' c' : Int) (d' e' : List Int), Does1 (Phi lc) 101 [⟨.int .i64, a⟩, ⟨.int .i64, b⟩, ⟨.int .i64, c⟩, ⟨.str, d⟩, ⟨.str, e⟩, ⟨.int .i64, a'⟩, ⟨.int .i64, b'⟩, ⟨.int .i64, c'⟩, ⟨.str, d'⟩, ⟨.str, e'⟩] [⟨.bool, !ltL e d' && !ltL e' d⟩] :=
  fun a b c d e a' b' c' d' e' => by
    have eFc : c101.F = F101 := rfl
    have eFh := f101 a b c d e a' b' c' d' e'
    rw [← eFc] at eFh
    exact Does1.of hl0 eFh rfl
theorem f114 (n v s : Int) (f l : List Int) : F114 [⟨.int .i64, n⟩, ⟨.int .i64, v⟩, ⟨.int .i64, s⟩, ⟨.str, f⟩, ⟨.str, l⟩] = some [⟨.bool, tabOk n v s f l⟩] := by
  simp only [F114, Fof, ir114]
  unfold tabOk cnt
  by_cases c1 : 1 ≤ n
  rotate_left; · simp -implicitDefEqProofs [c1]
  by_cases c2 : n ≤ 2147483647
  rotate_left; · simp -implicitDefEqProofs [c1, c2]
  by_cases c3 : 0 ≤ v
  rotate_left; · simp -implicitDefEqProofs [c1, c2, c3]
  by_cases c4 : v ≤ 4
  rotate_left; · simp -implicitDefEqProofs [c1, c2, c3, c4]
  by_cases c5 : 0 ≤ s
  rotate_left; · simp -implicitDefEqProofs [c1, c2, c3, c4, c5]
  by_cases c6 : s ≤ 1073741824
  rotate_left; · simp -implicitDefEqProofs [c1, c2, c3, c4, c5, c6]
  by_cases c7 : f = []
  · simp -implicitDefEqProofs [c1, c2, c3, c4, c5, c6, c7]
  by_cases c8 : f.length ≤ 64
  rotate_left
  · have c8' : ¬ ((f.length : Int) ≤ 64) := by omega
    simp -implicitDefEqProofs [c1, c2, c3, c4, c5, c6, c7, c8, c8']
  have c8' : ((f.length : Int) ≤ 64) := by omega
  by_cases c9 : l.length ≤ 64
  rotate_left
  · have c9' : ¬ ((l.length : Int) ≤ 64) := by omega
    simp -implicitDefEqProofs [c1, c2, c3, c4, c5, c6, c7, c8, c8', c9, c9']
  have c9' : ((l.length : Int) ≤ 64) := by omega
  simp -implicitDefEqProofs [c1, c2, c3, c4, c5, c6, c7, c8, c8', c9, c9']
theorem s114 {lc : List Ct} (hl0 : look (lc.map fun c => (c.sig.id, c)) 114 = some c114) : ∀ (n v s : Int) (f l : List Int), Does1 (Phi lc) 114 [⟨.int .i64, n⟩, ⟨.int .i64, v⟩, ⟨.int .i64, s⟩, ⟨.str, f⟩, ⟨.str, l⟩] [⟨.bool, tabOk n v s f l⟩] :=
  fun n v s f l => by
    have eFc : c114.F = F114 := rfl
    have eFh := f114 n v s f l
    rw [← eFc] at eFh
    exact Does1.of hl0 eFh rfl
end Go.Proofs.Ytdjknicjnaiomaa.Sx

set_option maxHeartbeats 1600000
/- One table: may it be? -/
namespace Go.Proofs.Ytdjknicjnaiomaa.Sx
attribute [local simp ↓] den_start deb_op deb_ret deb_jump deb_itev deb_itel deb_loop deb_fail deb_nilcv
attribute [local simp] nilE_some opE_some debP_nil debP_cons pushL_nil pushL_cons retE_some iteE_some evB_nil evB_v evB_l lkE_cons consE_some d_int d_bool d_str d_nil o_add o_sub o_mul o_and o_or o_xor o_andNot o_quo o_rem o_shl o_shr o_eql o_neq o_lss o_leq o_gtr o_geq o_seql o_sneq o_slss o_sleq o_sgtr o_sgeq o_beql o_bneq o_scat o_not o_neg o_com o_conv o_s2b o_b2s o_len o_slen o_inb o_idx o_sidx o_sub3 o_sub2 o_ssub3 o_ssub2 o_app o_apps o_mk mkE_some consD_some mkD_zero mkD_int mkD_str mkD_sl o_imin o_imax o_smin o_smax o_eqs eqsE_some eqC_nil andE_some eqC_int eqC_bool eqC_str j1 outE_some outE_none outE_ite agE_1 loopE_1 agE_2 loopE_2 agE_3 loopE_3 agE_4 loopE_4 agE_5 loopE_5 agE_6 loopE_6 agE_7 loopE_7 agE_8 loopE_8 agE_9 loopE_9 List.cons_append List.nil_append List.append_nil split List.take_succ_cons List.take_zero List.drop_succ_cons List.drop_zero

theorem f58 (n v s : Int) (f l : List Int) : F58 [⟨.sl TbT, [(n, v, s, f, l)]⟩] = some [⟨.int .i64, if tabOk n v s f l = true then 0 else 1⟩] := by
  have h114 := s114 (lc := [c114, c102]) rfl
  have h102 := s102 (lc := [c114, c102]) rfl
  simp only [F58, Fof, ir58]
  generalize Phi [c114, c102] = Φ at *
  have k := h114 n v s f l
  have w0 : IntKind.i64.wrap (0 + 1) = 1 := rfl
  cases hc : tabOk n v s f l
  · rw [hc] at k
    simp -implicitDefEqProofs []
    refine iter_out ?_
    simp -implicitDefEqProofs [k]
  · rw [hc] at k
    simp -implicitDefEqProofs []
    refine (iter_again (s' := (1 : Int)) ?_).trans (iter_out ?_)
    · simp -implicitDefEqProofs [k]
      refine iter_out ?_
      simp -implicitDefEqProofs []
      rfl
    · simp -implicitDefEqProofs []
theorem s58 {lc : List Ct} (hl0 : look (lc.map fun c => (c.sig.id, c)) 58 = some c58) : ∀ (n v s : Int) (f l : List Int), Does1 (Phi lc) 58 [⟨.sl TbT, [(n, v, s, f, l)]⟩] [⟨.int .i64, if tabOk n v s f l = true then 0 else 1⟩] :=
  fun n v s f l => by
    have eFc : c58.F = F58 := rfl
    have eFh := f58 n v s f l
    rw [← eFc] at eFh
    exact Does1.of hl0 eFh rfl
theorem f54 (n v s : Int) (f l : List Int) : F54 [⟨.sl TbT, [(n, v, s, f, l)]⟩] = some [⟨.bool, tabOk n v s f l⟩] := by
  have h101 := s101 (lc := [c101]) rfl
  simp only [F54, Fof, ir54]
  generalize Phi [c101] = Φ at *
  have hd0 : ([(n, v, s, f, l)] : List Tb)[Int.toNat 0]?.getD (dflt TbT) = (n, v, s, f, l) := rfl
  unfold tabOk cnt
  simp -implicitDefEqProofs []
  by_cases c1 : 1 ≤ n
  rotate_left
  · have c1' : n < 1 := by omega
    refine iter_out ?_
    simp -implicitDefEqProofs [c1, c1']
  have d1 : ¬ n < 1 := by omega
  by_cases c2 : n ≤ 2147483647
  rotate_left
  · have c2' : 2147483647 < n := by omega
    refine iter_out ?_
    simp -implicitDefEqProofs [c1, d1, c2, c2']
  have d2 : ¬ 2147483647 < n := by omega
  by_cases c3 : 0 ≤ v
  rotate_left
  · have c3' : v < 0 := by omega
    refine iter_out ?_
    simp -implicitDefEqProofs [c1, d1, c2, d2, c3, c3']
  have d3 : ¬ v < 0 := by omega
  by_cases c4 : v ≤ 4
  rotate_left
  · have c4' : 4 < v := by omega
    refine iter_out ?_
    simp -implicitDefEqProofs [c1, d1, c2, d2, c3, d3, c4, c4']
  have d4 : ¬ 4 < v := by omega
  by_cases c5 : 0 ≤ s
  rotate_left
  · have c5' : s < 0 := by omega
    refine iter_out ?_
    simp -implicitDefEqProofs [c1, d1, c2, d2, c3, d3, c4, d4, c5, c5']
  have d5 : ¬ s < 0 := by omega
  by_cases c6 : s ≤ 1073741824
  rotate_left
  · have c6' : 1073741824 < s := by omega
    refine iter_out ?_
    simp -implicitDefEqProofs [c1, d1, c2, d2, c3, d3, c4, d4, c5, d5, c6, c6']
  have d6 : ¬ 1073741824 < s := by omega
  by_cases c7 : f = []
  · refine iter_out ?_
    simp -implicitDefEqProofs [c1, d1, c2, d2, c3, d3, c4, d4, c5, d5, c6, d6, c7]
  by_cases c8 : l = []
  · refine iter_out ?_
    have hlt : ltL f l = false := by rw [c8]; cases f <;> rfl
    have hne : ¬ f = l := by rw [c8]; exact c7
    simp -implicitDefEqProofs [c1, d1, c2, d2, c3, d3, c4, d4, c5, d5, c6, d6, c7, c8, hlt, hne]
    rw [c8] at hlt hne
    simp [hlt, hne]
  by_cases c9 : f.length ≤ 64
  rotate_left
  · have c9' : (64 : Int) < f.length := by omega
    refine iter_out ?_
    simp -implicitDefEqProofs [c1, d1, c2, d2, c3, d3, c4, d4, c5, d5, c6, d6, c7, c8, c9, c9']
  have d9 : ¬ (64 : Int) < f.length := by omega
  by_cases c10 : l.length ≤ 64
  rotate_left
  · have c10' : (64 : Int) < l.length := by omega
    refine iter_out ?_
    simp -implicitDefEqProofs [c1, d1, c2, d2, c3, d3, c4, d4, c5, d5, c6, d6, c7, c8, c9, d9, c10, c10']
  have d10 : ¬ (64 : Int) < l.length := by omega
  by_cases c11 : ltL f l = true ∨ f = l
  rotate_left
  · have e1 : ltL f l = false := by cases h : ltL f l; rfl; exact absurd (.inl h) c11
    have e2 : ¬ f = l := fun h => c11 (.inr h)
    refine iter_out ?_
    simp -implicitDefEqProofs [c1, d1, c2, d2, c3, d3, c4, d4, c5, d5, c6, d6, c7, c8, c9, d9, c10, d10, e1, e2]
  have e1 : ¬ (ltL f l = false ∧ ¬ f = l) := by
    rintro ⟨h1, h2⟩
    rcases c11 with h | h
    · rw [h1] at h; cases h
    · exact h2 h
  have e3 : (ltL f l || decide (f = l)) = true := by simpa using c11
  refine (iter_again (s' := (1 : Int)) ?_).trans (iter_out ?_)
  · simp -implicitDefEqProofs [c1, d1, c2, d2, c3, d3, c4, d4, c5, d5, c6, d6, c7, c8, c9, d9, c10, d10, e1, e3]
    refine iter_out ?_
    simp -implicitDefEqProofs []
    rfl
  · simp -implicitDefEqProofs [c1, c2, c3, c4, c5, c6, c7, c8, c9, c10, e3]
theorem s54 {lc : List Ct} (hl0 : look (lc.map fun c => (c.sig.id, c)) 54 = some c54) : ∀ (n v s : Int) (f l : List Int), Does1 (Phi lc) 54 [⟨.sl TbT, [(n, v, s, f, l)]⟩] [⟨.bool, tabOk n v s f l⟩] :=
  fun n v s f l => by
    have eFc : c54.F = F54 := rfl
    have eFh := f54 n v s f l
    rw [← eFc] at eFh
    exact Does1.of hl0 eFh rfl
end Go.Proofs.Ytdjknicjnaiomaa.Sx

set_option maxHeartbeats 1600000
/- Which edits there may be, kind by kind. -/
namespace Go.Proofs.Ytdjknicjnaiomaa.Sx
attribute [local simp ↓] den_start deb_op deb_ret deb_jump deb_itev deb_itel deb_loop deb_fail deb_nilcv
attribute [local simp] nilE_some opE_some debP_nil debP_cons pushL_nil pushL_cons retE_some iteE_some evB_nil evB_v evB_l lkE_cons consE_some d_int d_bool d_str d_nil o_add o_sub o_mul o_and o_or o_xor o_andNot o_quo o_rem o_shl o_shr o_eql o_neq o_lss o_leq o_gtr o_geq o_seql o_sneq o_slss o_sleq o_sgtr o_sgeq o_beql o_bneq o_scat o_not o_neg o_com o_conv o_s2b o_b2s o_len o_slen o_inb o_idx o_sidx o_sub3 o_sub2 o_ssub3 o_ssub2 o_app o_apps o_mk mkE_some consD_some mkD_zero mkD_int mkD_str mkD_sl o_imin o_imax o_smin o_smax o_eqs eqsE_some eqC_nil andE_some eqC_int eqC_bool eqC_str j1 outE_some outE_none outE_ite agE_1 loopE_1 agE_2 loopE_2 agE_3 loopE_3 agE_4 loopE_4 agE_5 loopE_5 agE_6 loopE_6 agE_7 loopE_7 agE_8 loopE_8 agE_9 loopE_9 List.cons_append List.nil_append List.append_nil split List.take_succ_cons List.take_zero List.drop_succ_cons List.drop_zero

def edOk (k num idx trm h1 h2 h3 tn tv ts : Int) (tf tl : List Int) : Bool :=
  (if k = 1 ∨ k = 2 ∨ k = 5 ∨ k = 6 ∨ k = 8 then cntB num (decide (k = 2)) else decide ((1 ≤ k ∧ k ≤ 9) ∧ num = 0)) &&
  (if k = 2 ∨ k = 3 ∨ k = 6 ∨ k = 7 ∨ k = 8 ∨ k = 9 then cntB idx (decide (k = 8)) else decide (idx = 0)) &&
  (if k = 6 ∨ k = 8 then cntB trm (decide (k = 8)) else decide (trm = 0)) &&
  (if k = 8 then decide (trm = 0) == decide (idx = 0) else true) &&
  (if k = 8 then cntB h1 true && cntB h2 true && cntB h3 true else decide (h1 = 0 ∧ h2 = 0 ∧ h3 = 0)) &&
  (if k = 4 then tabOk tn tv ts tf tl else decide (tn = 0 ∧ tv = 0 ∧ ts = 0 ∧ tf = [] ∧ tl = []))

theorem cz : cntB 0 true = true := rfl
theorem czf : cntB 0 false = false := rfl
theorem cn0 : cnt 0 = false := rfl
theorem f37_1 (x1 x2 x3 x4 x5 x6 x7 x8 x9 : Int) (x10 x11 : List Int) : F37 [⟨.int .i64, 1⟩, ⟨.int .i64, x1⟩, ⟨.int .i64, x2⟩, ⟨.int .i64, x3⟩, ⟨.int .i64, x4⟩, ⟨.int .i64, x5⟩, ⟨.int .i64, x6⟩, ⟨.int .i64, x7⟩, ⟨.int .i64, x8⟩, ⟨.int .i64, x9⟩, ⟨.str, x10⟩, ⟨.str, x11⟩] = some [⟨.int .i64, if edOk 1 x1 x2 x3 x4 x5 x6 x7 x8 x9 x10 x11 = true then 0 else 1⟩] := by
  have h79 := s79 (lc := [c79, c58]) rfl
  have h58 := s58 (lc := [c79, c58]) rfl
  simp only [F37, Fof, ir37]
  generalize Phi [c79, c58] = Φ at *
  have hmk : mkD TbT 1 [⟨.int .i64, x7⟩, ⟨.int .i64, x8⟩, ⟨.int .i64, x9⟩, ⟨.str, x10⟩, ⟨.str, x11⟩] = some ⟨.sl TbT, [(x7, x8, x9, x10, x11)]⟩ := rfl
  rcases Bool.eq_false_or_eq_true (cntB x1 false) with a0 | a0
  rotate_left
  · simp -implicitDefEqProofs [edOk, h79, h58, cz, czf, a0]
  by_cases a1 : x2 = 0
  rotate_left
  · simp -implicitDefEqProofs [edOk, h79, h58, cz, czf, a0, a1]
  subst a1
  by_cases a2 : x3 = 0
  rotate_left
  · simp -implicitDefEqProofs [edOk, h79, h58, cz, czf, a0, a2]
  subst a2
  by_cases a3 : x4 = 0
  rotate_left
  · simp -implicitDefEqProofs [edOk, h79, h58, cz, czf, a0, a3]
  subst a3
  by_cases a4 : x5 = 0
  rotate_left
  · simp -implicitDefEqProofs [edOk, h79, h58, cz, czf, a0, a4]
  subst a4
  by_cases a5 : x6 = 0
  rotate_left
  · simp -implicitDefEqProofs [edOk, h79, h58, cz, czf, a0, a5]
  subst a5
  by_cases a6 : x7 = 0
  rotate_left
  · simp -implicitDefEqProofs [edOk, h79, h58, cz, czf, a0, a6]
  subst a6
  by_cases a7 : x8 = 0
  rotate_left
  · simp -implicitDefEqProofs [edOk, h79, h58, cz, czf, a0, a7]
  subst a7
  by_cases a8 : x9 = 0
  rotate_left
  · simp -implicitDefEqProofs [edOk, h79, h58, cz, czf, a0, a8]
  subst a8
  by_cases a9 : x10 = []
  rotate_left
  · simp -implicitDefEqProofs [edOk, h79, h58, cz, czf, a0, a9]
  subst a9
  by_cases a10 : x11 = []
  rotate_left
  · simp -implicitDefEqProofs [edOk, h79, h58, cz, czf, a0, a10]
  subst a10
  simp -implicitDefEqProofs [edOk, h79, h58, cz, czf, a0]
theorem f37_2 (x1 x2 x3 x4 x5 x6 x7 x8 x9 : Int) (x10 x11 : List Int) : F37 [⟨.int .i64, 2⟩, ⟨.int .i64, x1⟩, ⟨.int .i64, x2⟩, ⟨.int .i64, x3⟩, ⟨.int .i64, x4⟩, ⟨.int .i64, x5⟩, ⟨.int .i64, x6⟩, ⟨.int .i64, x7⟩, ⟨.int .i64, x8⟩, ⟨.int .i64, x9⟩, ⟨.str, x10⟩, ⟨.str, x11⟩] = some [⟨.int .i64, if edOk 2 x1 x2 x3 x4 x5 x6 x7 x8 x9 x10 x11 = true then 0 else 1⟩] := by
  have h79 := s79 (lc := [c79, c58]) rfl
  have h58 := s58 (lc := [c79, c58]) rfl
  simp only [F37, Fof, ir37]
  generalize Phi [c79, c58] = Φ at *
  have hmk : mkD TbT 1 [⟨.int .i64, x7⟩, ⟨.int .i64, x8⟩, ⟨.int .i64, x9⟩, ⟨.str, x10⟩, ⟨.str, x11⟩] = some ⟨.sl TbT, [(x7, x8, x9, x10, x11)]⟩ := rfl
  rcases Bool.eq_false_or_eq_true (cntB x1 true) with a0 | a0
  rotate_left
  · simp -implicitDefEqProofs [edOk, h79, h58, cz, czf, a0]
  rcases Bool.eq_false_or_eq_true (cntB x2 false) with a1 | a1
  rotate_left
  · simp -implicitDefEqProofs [edOk, h79, h58, cz, czf, a0, a1]
  by_cases a2 : x3 = 0
  rotate_left
  · simp -implicitDefEqProofs [edOk, h79, h58, cz, czf, a0, a1, a2]
  subst a2
  by_cases a3 : x4 = 0
  rotate_left
  · simp -implicitDefEqProofs [edOk, h79, h58, cz, czf, a0, a1, a3]
  subst a3
  by_cases a4 : x5 = 0
  rotate_left
  · simp -implicitDefEqProofs [edOk, h79, h58, cz, czf, a0, a1, a4]
  subst a4
  by_cases a5 : x6 = 0
  rotate_left
  · simp -implicitDefEqProofs [edOk, h79, h58, cz, czf, a0, a1, a5]
  subst a5
  by_cases a6 : x7 = 0
  rotate_left
  · simp -implicitDefEqProofs [edOk, h79, h58, cz, czf, a0, a1, a6]
  subst a6
  by_cases a7 : x8 = 0
  rotate_left
  · simp -implicitDefEqProofs [edOk, h79, h58, cz, czf, a0, a1, a7]
  subst a7
  by_cases a8 : x9 = 0
  rotate_left
  · simp -implicitDefEqProofs [edOk, h79, h58, cz, czf, a0, a1, a8]
  subst a8
  by_cases a9 : x10 = []
  rotate_left
  · simp -implicitDefEqProofs [edOk, h79, h58, cz, czf, a0, a1, a9]
  subst a9
  by_cases a10 : x11 = []
  rotate_left
  · simp -implicitDefEqProofs [edOk, h79, h58, cz, czf, a0, a1, a10]
  subst a10
  simp -implicitDefEqProofs [edOk, h79, h58, cz, czf, a0, a1]
theorem f37_3 (x1 x2 x3 x4 x5 x6 x7 x8 x9 : Int) (x10 x11 : List Int) : F37 [⟨.int .i64, 3⟩, ⟨.int .i64, x1⟩, ⟨.int .i64, x2⟩, ⟨.int .i64, x3⟩, ⟨.int .i64, x4⟩, ⟨.int .i64, x5⟩, ⟨.int .i64, x6⟩, ⟨.int .i64, x7⟩, ⟨.int .i64, x8⟩, ⟨.int .i64, x9⟩, ⟨.str, x10⟩, ⟨.str, x11⟩] = some [⟨.int .i64, if edOk 3 x1 x2 x3 x4 x5 x6 x7 x8 x9 x10 x11 = true then 0 else 1⟩] := by
  have h79 := s79 (lc := [c79, c58]) rfl
  have h58 := s58 (lc := [c79, c58]) rfl
  simp only [F37, Fof, ir37]
  generalize Phi [c79, c58] = Φ at *
  have hmk : mkD TbT 1 [⟨.int .i64, x7⟩, ⟨.int .i64, x8⟩, ⟨.int .i64, x9⟩, ⟨.str, x10⟩, ⟨.str, x11⟩] = some ⟨.sl TbT, [(x7, x8, x9, x10, x11)]⟩ := rfl
  by_cases a0 : x1 = 0
  rotate_left
  · simp -implicitDefEqProofs [edOk, h79, h58, cz, czf, a0]
  subst a0
  rcases Bool.eq_false_or_eq_true (cntB x2 false) with a1 | a1
  rotate_left
  · simp -implicitDefEqProofs [edOk, h79, h58, cz, czf, a1]
  by_cases a2 : x3 = 0
  rotate_left
  · simp -implicitDefEqProofs [edOk, h79, h58, cz, czf, a1, a2]
  subst a2
  by_cases a3 : x4 = 0
  rotate_left
  · simp -implicitDefEqProofs [edOk, h79, h58, cz, czf, a1, a3]
  subst a3
  by_cases a4 : x5 = 0
  rotate_left
  · simp -implicitDefEqProofs [edOk, h79, h58, cz, czf, a1, a4]
  subst a4
  by_cases a5 : x6 = 0
  rotate_left
  · simp -implicitDefEqProofs [edOk, h79, h58, cz, czf, a1, a5]
  subst a5
  by_cases a6 : x7 = 0
  rotate_left
  · simp -implicitDefEqProofs [edOk, h79, h58, cz, czf, a1, a6]
  subst a6
  by_cases a7 : x8 = 0
  rotate_left
  · simp -implicitDefEqProofs [edOk, h79, h58, cz, czf, a1, a7]
  subst a7
  by_cases a8 : x9 = 0
  rotate_left
  · simp -implicitDefEqProofs [edOk, h79, h58, cz, czf, a1, a8]
  subst a8
  by_cases a9 : x10 = []
  rotate_left
  · simp -implicitDefEqProofs [edOk, h79, h58, cz, czf, a1, a9]
  subst a9
  by_cases a10 : x11 = []
  rotate_left
  · simp -implicitDefEqProofs [edOk, h79, h58, cz, czf, a1, a10]
  subst a10
  simp -implicitDefEqProofs [edOk, h79, h58, cz, czf, a1]
theorem f37_4 (x1 x2 x3 x4 x5 x6 x7 x8 x9 : Int) (x10 x11 : List Int) : F37 [⟨.int .i64, 4⟩, ⟨.int .i64, x1⟩, ⟨.int .i64, x2⟩, ⟨.int .i64, x3⟩, ⟨.int .i64, x4⟩, ⟨.int .i64, x5⟩, ⟨.int .i64, x6⟩, ⟨.int .i64, x7⟩, ⟨.int .i64, x8⟩, ⟨.int .i64, x9⟩, ⟨.str, x10⟩, ⟨.str, x11⟩] = some [⟨.int .i64, if edOk 4 x1 x2 x3 x4 x5 x6 x7 x8 x9 x10 x11 = true then 0 else 1⟩] := by
  have h79 := s79 (lc := [c79, c58]) rfl
  have h58 := s58 (lc := [c79, c58]) rfl
  simp only [F37, Fof, ir37]
  generalize Phi [c79, c58] = Φ at *
  have hmk : mkD TbT 1 [⟨.int .i64, x7⟩, ⟨.int .i64, x8⟩, ⟨.int .i64, x9⟩, ⟨.str, x10⟩, ⟨.str, x11⟩] = some ⟨.sl TbT, [(x7, x8, x9, x10, x11)]⟩ := rfl
  by_cases a0 : x1 = 0
  rotate_left
  · simp -implicitDefEqProofs [edOk, h79, h58, cz, czf, hmk, a0]
  subst a0
  by_cases a1 : x2 = 0
  rotate_left
  · simp -implicitDefEqProofs [edOk, h79, h58, cz, czf, hmk, a1]
  subst a1
  by_cases a2 : x3 = 0
  rotate_left
  · simp -implicitDefEqProofs [edOk, h79, h58, cz, czf, hmk, a2]
  subst a2
  by_cases a3 : x4 = 0
  rotate_left
  · simp -implicitDefEqProofs [edOk, h79, h58, cz, czf, hmk, a3]
  subst a3
  by_cases a4 : x5 = 0
  rotate_left
  · simp -implicitDefEqProofs [edOk, h79, h58, cz, czf, hmk, a4]
  subst a4
  by_cases a5 : x6 = 0
  rotate_left
  · simp -implicitDefEqProofs [edOk, h79, h58, cz, czf, hmk, a5]
  subst a5
  rcases Bool.eq_false_or_eq_true (tabOk x7 x8 x9 x10 x11) with a6 | a6
  rotate_left
  · simp -implicitDefEqProofs [edOk, h79, h58, cz, czf, hmk, a6]
  simp -implicitDefEqProofs [edOk, h79, h58, cz, czf, hmk, a6]
theorem f37_5 (x1 x2 x3 x4 x5 x6 x7 x8 x9 : Int) (x10 x11 : List Int) : F37 [⟨.int .i64, 5⟩, ⟨.int .i64, x1⟩, ⟨.int .i64, x2⟩, ⟨.int .i64, x3⟩, ⟨.int .i64, x4⟩, ⟨.int .i64, x5⟩, ⟨.int .i64, x6⟩, ⟨.int .i64, x7⟩, ⟨.int .i64, x8⟩, ⟨.int .i64, x9⟩, ⟨.str, x10⟩, ⟨.str, x11⟩] = some [⟨.int .i64, if edOk 5 x1 x2 x3 x4 x5 x6 x7 x8 x9 x10 x11 = true then 0 else 1⟩] := by
  have h79 := s79 (lc := [c79, c58]) rfl
  have h58 := s58 (lc := [c79, c58]) rfl
  simp only [F37, Fof, ir37]
  generalize Phi [c79, c58] = Φ at *
  have hmk : mkD TbT 1 [⟨.int .i64, x7⟩, ⟨.int .i64, x8⟩, ⟨.int .i64, x9⟩, ⟨.str, x10⟩, ⟨.str, x11⟩] = some ⟨.sl TbT, [(x7, x8, x9, x10, x11)]⟩ := rfl
  rcases Bool.eq_false_or_eq_true (cntB x1 false) with a0 | a0
  rotate_left
  · simp -implicitDefEqProofs [edOk, h79, h58, cz, czf, a0]
  by_cases a1 : x2 = 0
  rotate_left
  · simp -implicitDefEqProofs [edOk, h79, h58, cz, czf, a0, a1]
  subst a1
  by_cases a2 : x3 = 0
  rotate_left
  · simp -implicitDefEqProofs [edOk, h79, h58, cz, czf, a0, a2]
  subst a2
  by_cases a3 : x4 = 0
  rotate_left
  · simp -implicitDefEqProofs [edOk, h79, h58, cz, czf, a0, a3]
  subst a3
  by_cases a4 : x5 = 0
  rotate_left
  · simp -implicitDefEqProofs [edOk, h79, h58, cz, czf, a0, a4]
  subst a4
  by_cases a5 : x6 = 0
  rotate_left
  · simp -implicitDefEqProofs [edOk, h79, h58, cz, czf, a0, a5]
  subst a5
  by_cases a6 : x7 = 0
  rotate_left
  · simp -implicitDefEqProofs [edOk, h79, h58, cz, czf, a0, a6]
  subst a6
  by_cases a7 : x8 = 0
  rotate_left
  · simp -implicitDefEqProofs [edOk, h79, h58, cz, czf, a0, a7]
  subst a7
  by_cases a8 : x9 = 0
  rotate_left
  · simp -implicitDefEqProofs [edOk, h79, h58, cz, czf, a0, a8]
  subst a8
  by_cases a9 : x10 = []
  rotate_left
  · simp -implicitDefEqProofs [edOk, h79, h58, cz, czf, a0, a9]
  subst a9
  by_cases a10 : x11 = []
  rotate_left
  · simp -implicitDefEqProofs [edOk, h79, h58, cz, czf, a0, a10]
  subst a10
  simp -implicitDefEqProofs [edOk, h79, h58, cz, czf, a0]
theorem f37_6 (x1 x2 x3 x4 x5 x6 x7 x8 x9 : Int) (x10 x11 : List Int) : F37 [⟨.int .i64, 6⟩, ⟨.int .i64, x1⟩, ⟨.int .i64, x2⟩, ⟨.int .i64, x3⟩, ⟨.int .i64, x4⟩, ⟨.int .i64, x5⟩, ⟨.int .i64, x6⟩, ⟨.int .i64, x7⟩, ⟨.int .i64, x8⟩, ⟨.int .i64, x9⟩, ⟨.str, x10⟩, ⟨.str, x11⟩] = some [⟨.int .i64, if edOk 6 x1 x2 x3 x4 x5 x6 x7 x8 x9 x10 x11 = true then 0 else 1⟩] := by
  have h79 := s79 (lc := [c79, c58]) rfl
  have h58 := s58 (lc := [c79, c58]) rfl
  simp only [F37, Fof, ir37]
  generalize Phi [c79, c58] = Φ at *
  have hmk : mkD TbT 1 [⟨.int .i64, x7⟩, ⟨.int .i64, x8⟩, ⟨.int .i64, x9⟩, ⟨.str, x10⟩, ⟨.str, x11⟩] = some ⟨.sl TbT, [(x7, x8, x9, x10, x11)]⟩ := rfl
  rcases Bool.eq_false_or_eq_true (cntB x1 false) with a0 | a0
  rotate_left
  · simp -implicitDefEqProofs [edOk, h79, h58, cz, czf, a0]
  rcases Bool.eq_false_or_eq_true (cntB x2 false) with a1 | a1
  rotate_left
  · simp -implicitDefEqProofs [edOk, h79, h58, cz, czf, a0, a1]
  rcases Bool.eq_false_or_eq_true (cntB x3 false) with a2 | a2
  rotate_left
  · simp -implicitDefEqProofs [edOk, h79, h58, cz, czf, a0, a1, a2]
  by_cases a3 : x4 = 0
  rotate_left
  · simp -implicitDefEqProofs [edOk, h79, h58, cz, czf, a0, a1, a2, a3]
  subst a3
  by_cases a4 : x5 = 0
  rotate_left
  · simp -implicitDefEqProofs [edOk, h79, h58, cz, czf, a0, a1, a2, a4]
  subst a4
  by_cases a5 : x6 = 0
  rotate_left
  · simp -implicitDefEqProofs [edOk, h79, h58, cz, czf, a0, a1, a2, a5]
  subst a5
  by_cases a6 : x7 = 0
  rotate_left
  · simp -implicitDefEqProofs [edOk, h79, h58, cz, czf, a0, a1, a2, a6]
  subst a6
  by_cases a7 : x8 = 0
  rotate_left
  · simp -implicitDefEqProofs [edOk, h79, h58, cz, czf, a0, a1, a2, a7]
  subst a7
  by_cases a8 : x9 = 0
  rotate_left
  · simp -implicitDefEqProofs [edOk, h79, h58, cz, czf, a0, a1, a2, a8]
  subst a8
  by_cases a9 : x10 = []
  rotate_left
  · simp -implicitDefEqProofs [edOk, h79, h58, cz, czf, a0, a1, a2, a9]
  subst a9
  by_cases a10 : x11 = []
  rotate_left
  · simp -implicitDefEqProofs [edOk, h79, h58, cz, czf, a0, a1, a2, a10]
  subst a10
  simp -implicitDefEqProofs [edOk, h79, h58, cz, czf, a0, a1, a2]
theorem f37_7 (x1 x2 x3 x4 x5 x6 x7 x8 x9 : Int) (x10 x11 : List Int) : F37 [⟨.int .i64, 7⟩, ⟨.int .i64, x1⟩, ⟨.int .i64, x2⟩, ⟨.int .i64, x3⟩, ⟨.int .i64, x4⟩, ⟨.int .i64, x5⟩, ⟨.int .i64, x6⟩, ⟨.int .i64, x7⟩, ⟨.int .i64, x8⟩, ⟨.int .i64, x9⟩, ⟨.str, x10⟩, ⟨.str, x11⟩] = some [⟨.int .i64, if edOk 7 x1 x2 x3 x4 x5 x6 x7 x8 x9 x10 x11 = true then 0 else 1⟩] := by
  have h79 := s79 (lc := [c79, c58]) rfl
  have h58 := s58 (lc := [c79, c58]) rfl
  simp only [F37, Fof, ir37]
  generalize Phi [c79, c58] = Φ at *
  have hmk : mkD TbT 1 [⟨.int .i64, x7⟩, ⟨.int .i64, x8⟩, ⟨.int .i64, x9⟩, ⟨.str, x10⟩, ⟨.str, x11⟩] = some ⟨.sl TbT, [(x7, x8, x9, x10, x11)]⟩ := rfl
  by_cases a0 : x1 = 0
  rotate_left
  · simp -implicitDefEqProofs [edOk, h79, h58, cz, czf, a0]
  subst a0
  rcases Bool.eq_false_or_eq_true (cntB x2 false) with a1 | a1
  rotate_left
  · simp -implicitDefEqProofs [edOk, h79, h58, cz, czf, a1]
  by_cases a2 : x3 = 0
  rotate_left
  · simp -implicitDefEqProofs [edOk, h79, h58, cz, czf, a1, a2]
  subst a2
  by_cases a3 : x4 = 0
  rotate_left
  · simp -implicitDefEqProofs [edOk, h79, h58, cz, czf, a1, a3]
  subst a3
  by_cases a4 : x5 = 0
  rotate_left
  · simp -implicitDefEqProofs [edOk, h79, h58, cz, czf, a1, a4]
  subst a4
  by_cases a5 : x6 = 0
  rotate_left
  · simp -implicitDefEqProofs [edOk, h79, h58, cz, czf, a1, a5]
  subst a5
  by_cases a6 : x7 = 0
  rotate_left
  · simp -implicitDefEqProofs [edOk, h79, h58, cz, czf, a1, a6]
  subst a6
  by_cases a7 : x8 = 0
  rotate_left
  · simp -implicitDefEqProofs [edOk, h79, h58, cz, czf, a1, a7]
  subst a7
  by_cases a8 : x9 = 0
  rotate_left
  · simp -implicitDefEqProofs [edOk, h79, h58, cz, czf, a1, a8]
  subst a8
  by_cases a9 : x10 = []
  rotate_left
  · simp -implicitDefEqProofs [edOk, h79, h58, cz, czf, a1, a9]
  subst a9
  by_cases a10 : x11 = []
  rotate_left
  · simp -implicitDefEqProofs [edOk, h79, h58, cz, czf, a1, a10]
  subst a10
  simp -implicitDefEqProofs [edOk, h79, h58, cz, czf, a1]
theorem f37_8 (x1 x2 x3 x4 x5 x6 x7 x8 x9 : Int) (x10 x11 : List Int) : F37 [⟨.int .i64, 8⟩, ⟨.int .i64, x1⟩, ⟨.int .i64, x2⟩, ⟨.int .i64, x3⟩, ⟨.int .i64, x4⟩, ⟨.int .i64, x5⟩, ⟨.int .i64, x6⟩, ⟨.int .i64, x7⟩, ⟨.int .i64, x8⟩, ⟨.int .i64, x9⟩, ⟨.str, x10⟩, ⟨.str, x11⟩] = some [⟨.int .i64, if edOk 8 x1 x2 x3 x4 x5 x6 x7 x8 x9 x10 x11 = true then 0 else 1⟩] := by
  have h79 := s79 (lc := [c79, c58]) rfl
  have h58 := s58 (lc := [c79, c58]) rfl
  simp only [F37, Fof, ir37]
  generalize Phi [c79, c58] = Φ at *
  have hmk : mkD TbT 1 [⟨.int .i64, x7⟩, ⟨.int .i64, x8⟩, ⟨.int .i64, x9⟩, ⟨.str, x10⟩, ⟨.str, x11⟩] = some ⟨.sl TbT, [(x7, x8, x9, x10, x11)]⟩ := rfl
  rcases Bool.eq_false_or_eq_true (cntB x1 false) with a0 | a0
  rotate_left
  · simp -implicitDefEqProofs [edOk, h79, h58, cz, czf, a0]
  rcases Bool.eq_false_or_eq_true (cntB x2 true) with a1 | a1
  rotate_left
  · simp -implicitDefEqProofs [edOk, h79, h58, cz, czf, a0, a1]
  rcases Bool.eq_false_or_eq_true (cntB x3 true) with a2 | a2
  rotate_left
  · simp -implicitDefEqProofs [edOk, h79, h58, cz, czf, a0, a1, a2]
  by_cases a3 : (x3 = 0 ↔ x2 = 0)
  rotate_left
  · simp -implicitDefEqProofs [edOk, h79, h58, cz, czf, a0, a1, a2, a3]
  rcases Bool.eq_false_or_eq_true (cntB x4 true) with a4 | a4
  rotate_left
  · simp -implicitDefEqProofs [edOk, h79, h58, cz, czf, a0, a1, a2, a3, a4]
  rcases Bool.eq_false_or_eq_true (cntB x5 true) with a5 | a5
  rotate_left
  · simp -implicitDefEqProofs [edOk, h79, h58, cz, czf, a0, a1, a2, a3, a4, a5]
  rcases Bool.eq_false_or_eq_true (cntB x6 true) with a6 | a6
  rotate_left
  · simp -implicitDefEqProofs [edOk, h79, h58, cz, czf, a0, a1, a2, a3, a4, a5, a6]
  by_cases a7 : x7 = 0
  rotate_left
  · simp -implicitDefEqProofs [edOk, h79, h58, cz, czf, a0, a1, a2, a3, a4, a5, a6, a7]
  subst a7
  by_cases a8 : x8 = 0
  rotate_left
  · simp -implicitDefEqProofs [edOk, h79, h58, cz, czf, a0, a1, a2, a3, a4, a5, a6, a8]
  subst a8
  by_cases a9 : x9 = 0
  rotate_left
  · simp -implicitDefEqProofs [edOk, h79, h58, cz, czf, a0, a1, a2, a3, a4, a5, a6, a9]
  subst a9
  by_cases a10 : x10 = []
  rotate_left
  · simp -implicitDefEqProofs [edOk, h79, h58, cz, czf, a0, a1, a2, a3, a4, a5, a6, a10]
  subst a10
  by_cases a11 : x11 = []
  rotate_left
  · simp -implicitDefEqProofs [edOk, h79, h58, cz, czf, a0, a1, a2, a3, a4, a5, a6, a11]
  subst a11
  simp -implicitDefEqProofs [edOk, h79, h58, cz, czf, a0, a1, a2, a3, a4, a5, a6]
theorem f37_9 (x1 x2 x3 x4 x5 x6 x7 x8 x9 : Int) (x10 x11 : List Int) : F37 [⟨.int .i64, 9⟩, ⟨.int .i64, x1⟩, ⟨.int .i64, x2⟩, ⟨.int .i64, x3⟩, ⟨.int .i64, x4⟩, ⟨.int .i64, x5⟩, ⟨.int .i64, x6⟩, ⟨.int .i64, x7⟩, ⟨.int .i64, x8⟩, ⟨.int .i64, x9⟩, ⟨.str, x10⟩, ⟨.str, x11⟩] = some [⟨.int .i64, if edOk 9 x1 x2 x3 x4 x5 x6 x7 x8 x9 x10 x11 = true then 0 else 1⟩] := by
  have h79 := s79 (lc := [c79, c58]) rfl
  have h58 := s58 (lc := [c79, c58]) rfl
  simp only [F37, Fof, ir37]
  generalize Phi [c79, c58] = Φ at *
  have hmk : mkD TbT 1 [⟨.int .i64, x7⟩, ⟨.int .i64, x8⟩, ⟨.int .i64, x9⟩, ⟨.str, x10⟩, ⟨.str, x11⟩] = some ⟨.sl TbT, [(x7, x8, x9, x10, x11)]⟩ := rfl
  by_cases a0 : x1 = 0
  rotate_left
  · simp -implicitDefEqProofs [edOk, h79, h58, cz, czf, a0]
  subst a0
  rcases Bool.eq_false_or_eq_true (cntB x2 false) with a1 | a1
  rotate_left
  · simp -implicitDefEqProofs [edOk, h79, h58, cz, czf, a1]
  by_cases a2 : x3 = 0
  rotate_left
  · simp -implicitDefEqProofs [edOk, h79, h58, cz, czf, a1, a2]
  subst a2
  by_cases a3 : x4 = 0
  rotate_left
  · simp -implicitDefEqProofs [edOk, h79, h58, cz, czf, a1, a3]
  subst a3
  by_cases a4 : x5 = 0
  rotate_left
  · simp -implicitDefEqProofs [edOk, h79, h58, cz, czf, a1, a4]
  subst a4
  by_cases a5 : x6 = 0
  rotate_left
  · simp -implicitDefEqProofs [edOk, h79, h58, cz, czf, a1, a5]
  subst a5
  by_cases a6 : x7 = 0
  rotate_left
  · simp -implicitDefEqProofs [edOk, h79, h58, cz, czf, a1, a6]
  subst a6
  by_cases a7 : x8 = 0
  rotate_left
  · simp -implicitDefEqProofs [edOk, h79, h58, cz, czf, a1, a7]
  subst a7
  by_cases a8 : x9 = 0
  rotate_left
  · simp -implicitDefEqProofs [edOk, h79, h58, cz, czf, a1, a8]
  subst a8
  by_cases a9 : x10 = []
  rotate_left
  · simp -implicitDefEqProofs [edOk, h79, h58, cz, czf, a1, a9]
  subst a9
  by_cases a10 : x11 = []
  rotate_left
  · simp -implicitDefEqProofs [edOk, h79, h58, cz, czf, a1, a10]
  subst a10
  simp -implicitDefEqProofs [edOk, h79, h58, cz, czf, a1]
theorem f37_no (k : Int) (x1 x2 x3 x4 x5 x6 x7 x8 x9 : Int) (x10 x11 : List Int) (hk : ¬ (1 ≤ k ∧ k ≤ 9)) : F37 [⟨.int .i64, k⟩, ⟨.int .i64, x1⟩, ⟨.int .i64, x2⟩, ⟨.int .i64, x3⟩, ⟨.int .i64, x4⟩, ⟨.int .i64, x5⟩, ⟨.int .i64, x6⟩, ⟨.int .i64, x7⟩, ⟨.int .i64, x8⟩, ⟨.int .i64, x9⟩, ⟨.str, x10⟩, ⟨.str, x11⟩] = some [⟨.int .i64, 1⟩] := by
  have e1 : ¬ k = 1 := by omega
  have e2 : ¬ k = 2 := by omega
  have e3 : ¬ k = 3 := by omega
  have e4 : ¬ k = 4 := by omega
  have e5 : ¬ k = 5 := by omega
  have e6 : ¬ k = 6 := by omega
  have e7 : ¬ k = 7 := by omega
  have e8 : ¬ k = 8 := by omega
  have e9 : ¬ k = 9 := by omega
  simp only [F37, Fof, ir37]
  simp -implicitDefEqProofs [e1, e2, e3, e4, e5, e6, e7, e8, e9]
theorem edOk_no (k : Int) (x1 x2 x3 x4 x5 x6 x7 x8 x9 : Int) (x10 x11 : List Int) (hk : ¬ (1 ≤ k ∧ k ≤ 9)) : edOk k x1 x2 x3 x4 x5 x6 x7 x8 x9 x10 x11 = false := by
  have e1 : ¬ (k = 1 ∨ k = 2 ∨ k = 5 ∨ k = 6 ∨ k = 8) := by omega
  unfold edOk
  rw [if_neg e1]
  simp [hk]
theorem f37 (k : Int) (x1 x2 x3 x4 x5 x6 x7 x8 x9 : Int) (x10 x11 : List Int) : F37 [⟨.int .i64, k⟩, ⟨.int .i64, x1⟩, ⟨.int .i64, x2⟩, ⟨.int .i64, x3⟩, ⟨.int .i64, x4⟩, ⟨.int .i64, x5⟩, ⟨.int .i64, x6⟩, ⟨.int .i64, x7⟩, ⟨.int .i64, x8⟩, ⟨.int .i64, x9⟩, ⟨.str, x10⟩, ⟨.str, x11⟩] = some [⟨.int .i64, if edOk k x1 x2 x3 x4 x5 x6 x7 x8 x9 x10 x11 = true then 0 else 1⟩] := by
  by_cases hk : 1 ≤ k ∧ k ≤ 9
  · have : k = 1 ∨ k = 2 ∨ k = 3 ∨ k = 4 ∨ k = 5 ∨ k = 6 ∨ k = 7 ∨ k = 8 ∨ k = 9 := by omega
    rcases this with rfl | rfl | rfl | rfl | rfl | rfl | rfl | rfl | rfl
    · exact f37_1 x1 x2 x3 x4 x5 x6 x7 x8 x9 x10 x11
    · exact f37_2 x1 x2 x3 x4 x5 x6 x7 x8 x9 x10 x11
    · exact f37_3 x1 x2 x3 x4 x5 x6 x7 x8 x9 x10 x11
    · exact f37_4 x1 x2 x3 x4 x5 x6 x7 x8 x9 x10 x11
    · exact f37_5 x1 x2 x3 x4 x5 x6 x7 x8 x9 x10 x11
    · exact f37_6 x1 x2 x3 x4 x5 x6 x7 x8 x9 x10 x11
    · exact f37_7 x1 x2 x3 x4 x5 x6 x7 x8 x9 x10 x11
    · exact f37_8 x1 x2 x3 x4 x5 x6 x7 x8 x9 x10 x11
    · exact f37_9 x1 x2 x3 x4 x5 x6 x7 x8 x9 x10 x11
  · rw [edOk_no k x1 x2 x3 x4 x5 x6 x7 x8 x9 x10 x11 hk]
    exact f37_no k x1 x2 x3 x4 x5 x6 x7 x8 x9 x10 x11 hk
theorem s37 {lc : List Ct} (hl0 : look (lc.map fun c => (c.sig.id, c)) 37 = some c37) : ∀ (k : Int) (x1 x2 x3 x4 x5 x6 x7 x8 x9 : Int) (x10 x11 : List Int), Does1 (Phi lc) 37 [⟨.int .i64, k⟩, ⟨.int .i64, x1⟩, ⟨.int .i64, x2⟩, ⟨.int .i64, x3⟩, ⟨.int .i64, x4⟩, ⟨.int .i64, x5⟩, ⟨.int .i64, x6⟩, ⟨.int .i64, x7⟩, ⟨.int .i64, x8⟩, ⟨.int .i64, x9⟩, ⟨.str, x10⟩, ⟨.str, x11⟩] [⟨.int .i64, if edOk k x1 x2 x3 x4 x5 x6 x7 x8 x9 x10 x11 = true then 0 else 1⟩] :=
  fun k x1 x2 x3 x4 x5 x6 x7 x8 x9 x10 x11 => Does1.of hl0 (f37 k x1 x2 x3 x4 x5 x6 x7 x8 x9 x10 x11) rfl
end Go.Proofs.Ytdjknicjnaiomaa.Sx

set_option maxHeartbeats 1600000
/- Which edits there may be, by the reference: the same. -/
namespace Go.Proofs.Ytdjknicjnaiomaa.Sx
attribute [local simp ↓] den_start deb_op deb_ret deb_jump deb_itev deb_itel deb_loop deb_fail deb_nilcv
attribute [local simp] nilE_some opE_some debP_nil debP_cons pushL_nil pushL_cons retE_some iteE_some evB_nil evB_v evB_l lkE_cons consE_some d_int d_bool d_str d_nil o_add o_sub o_mul o_and o_or o_xor o_andNot o_quo o_rem o_shl o_shr o_eql o_neq o_lss o_leq o_gtr o_geq o_seql o_sneq o_slss o_sleq o_sgtr o_sgeq o_beql o_bneq o_scat o_not o_neg o_com o_conv o_s2b o_b2s o_len o_slen o_inb o_idx o_sidx o_sub3 o_sub2 o_ssub3 o_ssub2 o_app o_apps o_mk mkE_some consD_some mkD_zero mkD_int mkD_str mkD_sl o_imin o_imax o_smin o_smax o_eqs eqsE_some eqC_nil andE_some eqC_int eqC_bool eqC_str j1 outE_some outE_none outE_ite agE_1 loopE_1 agE_2 loopE_2 agE_3 loopE_3 agE_4 loopE_4 agE_5 loopE_5 agE_6 loopE_6 agE_7 loopE_7 agE_8 loopE_8 agE_9 loopE_9 List.cons_append List.nil_append List.append_nil split List.take_succ_cons List.take_zero List.drop_succ_cons List.drop_zero

theorem rbt (n : Int) : rightB n true = cnt n := rfl
theorem rbf (n : Int) : rightB n false = decide (n = 0) := rfl
theorem cbf (n : Int) : cntB n false = cnt n := by simp [cntB]
theorem cbt (n : Int) : cntB n true = (cnt n || decide (n = 0)) := by simp [cntB]
theorem hr_in {n : Int} (h : (cnt n || decide (n = 0)) = true) : ¬ n < 0 ∧ ¬ 2147483647 < n := by
  simp only [cnt, Bool.or_eq_true, decide_eq_true_eq] at h; omega
theorem hr_out {n : Int} (h : (cnt n || decide (n = 0)) = false) : n < 0 ∨ 2147483647 < n := by
  simp only [cnt, Bool.or_eq_false_iff, decide_eq_false_iff_not] at h; omega
theorem f38_1 (x1 x2 x3 x4 x5 x6 x7 x8 x9 : Int) (x10 x11 : List Int) : F38 [⟨.int .i64, 1⟩, ⟨.int .i64, x1⟩, ⟨.int .i64, x2⟩, ⟨.int .i64, x3⟩, ⟨.int .i64, x4⟩, ⟨.int .i64, x5⟩, ⟨.int .i64, x6⟩, ⟨.int .i64, x7⟩, ⟨.int .i64, x8⟩, ⟨.int .i64, x9⟩, ⟨.str, x10⟩, ⟨.str, x11⟩] = some [⟨.bool, edOk 1 x1 x2 x3 x4 x5 x6 x7 x8 x9 x10 x11⟩] := by
  have h80 := s80 (lc := [c80, c82, c81, c54]) rfl
  have h82 := s82 (lc := [c80, c82, c81, c54]) rfl
  have h81 := s81 (lc := [c80, c82, c81, c54]) rfl
  have h54 := s54 (lc := [c80, c82, c81, c54]) rfl
  simp only [F38, Fof, ir38]
  generalize Phi [c80, c82, c81, c54] = Φ at *
  have k80 := h80 1
  rw [show partsL 1 = [78] from rfl] at k80
  have k82_73 := h82 [78] 73 (by decide)
  rw [show decide ((73 : Int) ∈ ([78] : List Int)) = false from by decide] at k82_73
  have k82_84 := h82 [78] 84 (by decide)
  rw [show decide ((84 : Int) ∈ ([78] : List Int)) = false from by decide] at k82_84
  have k82_78 := h82 [78] 78 (by decide)
  rw [show decide ((78 : Int) ∈ ([78] : List Int)) = true from by decide] at k82_78
  have k82_72 := h82 [78] 72 (by decide)
  rw [show decide ((72 : Int) ∈ ([78] : List Int)) = false from by decide] at k82_72
  have k82_66 := h82 [78] 66 (by decide)
  rw [show decide ((66 : Int) ∈ ([78] : List Int)) = false from by decide] at k82_66
  by_cases a1 : x2 = 0
  rotate_left
  · simp -implicitDefEqProofs [edOk, h81, h54, cn0, rbt, rbf, cbf, cbt, k80, k82_73, k82_84, k82_78, k82_72, k82_66, a1]
  subst a1
  by_cases a2 : x3 = 0
  rotate_left
  · simp -implicitDefEqProofs [edOk, h81, h54, cn0, rbt, rbf, cbf, cbt, k80, k82_73, k82_84, k82_78, k82_72, k82_66, a2]
  subst a2
  rcases Bool.eq_false_or_eq_true (cnt x1) with a3 | a3
  rotate_left
  · simp -implicitDefEqProofs [edOk, h81, h54, cn0, rbt, rbf, cbf, cbt, k80, k82_73, k82_84, k82_78, k82_72, k82_66, a3]
  by_cases a4 : x4 = 0
  rotate_left
  · simp -implicitDefEqProofs [edOk, h81, h54, cn0, rbt, rbf, cbf, cbt, k80, k82_73, k82_84, k82_78, k82_72, k82_66, a3, a4]
  subst a4
  by_cases a5 : x5 = 0
  rotate_left
  · simp -implicitDefEqProofs [edOk, h81, h54, cn0, rbt, rbf, cbf, cbt, k80, k82_73, k82_84, k82_78, k82_72, k82_66, a3, a5]
  subst a5
  by_cases a6 : x6 = 0
  rotate_left
  · simp -implicitDefEqProofs [edOk, h81, h54, cn0, rbt, rbf, cbf, cbt, k80, k82_73, k82_84, k82_78, k82_72, k82_66, a3, a6]
  subst a6
  by_cases a7 : x7 = 0
  rotate_left
  · simp -implicitDefEqProofs [edOk, h81, h54, cn0, rbt, rbf, cbf, cbt, k80, k82_73, k82_84, k82_78, k82_72, k82_66, a3, a7]
  subst a7
  by_cases a8 : x8 = 0
  rotate_left
  · simp -implicitDefEqProofs [edOk, h81, h54, cn0, rbt, rbf, cbf, cbt, k80, k82_73, k82_84, k82_78, k82_72, k82_66, a3, a8]
  subst a8
  by_cases a9 : x9 = 0
  rotate_left
  · simp -implicitDefEqProofs [edOk, h81, h54, cn0, rbt, rbf, cbf, cbt, k80, k82_73, k82_84, k82_78, k82_72, k82_66, a3, a9]
  subst a9
  by_cases a10 : x10 = []
  rotate_left
  · simp -implicitDefEqProofs [edOk, h81, h54, cn0, rbt, rbf, cbf, cbt, k80, k82_73, k82_84, k82_78, k82_72, k82_66, a3, a10]
  subst a10
  by_cases a11 : x11 = []
  rotate_left
  · simp -implicitDefEqProofs [edOk, h81, h54, cn0, rbt, rbf, cbf, cbt, k80, k82_73, k82_84, k82_78, k82_72, k82_66, a3, a11]
  subst a11
  simp -implicitDefEqProofs [edOk, h81, h54, cn0, rbt, rbf, cbf, cbt, k80, k82_73, k82_84, k82_78, k82_72, k82_66, a3]
theorem f38_2 (x1 x2 x3 x4 x5 x6 x7 x8 x9 : Int) (x10 x11 : List Int) : F38 [⟨.int .i64, 2⟩, ⟨.int .i64, x1⟩, ⟨.int .i64, x2⟩, ⟨.int .i64, x3⟩, ⟨.int .i64, x4⟩, ⟨.int .i64, x5⟩, ⟨.int .i64, x6⟩, ⟨.int .i64, x7⟩, ⟨.int .i64, x8⟩, ⟨.int .i64, x9⟩, ⟨.str, x10⟩, ⟨.str, x11⟩] = some [⟨.bool, edOk 2 x1 x2 x3 x4 x5 x6 x7 x8 x9 x10 x11⟩] := by
  have h80 := s80 (lc := [c80, c82, c81, c54]) rfl
  have h82 := s82 (lc := [c80, c82, c81, c54]) rfl
  have h81 := s81 (lc := [c80, c82, c81, c54]) rfl
  have h54 := s54 (lc := [c80, c82, c81, c54]) rfl
  simp only [F38, Fof, ir38]
  generalize Phi [c80, c82, c81, c54] = Φ at *
  have k80 := h80 2
  rw [show partsL 2 = [78, 73] from rfl] at k80
  have k82_73 := h82 [78, 73] 73 (by decide)
  rw [show decide ((73 : Int) ∈ ([78, 73] : List Int)) = true from by decide] at k82_73
  have k82_84 := h82 [78, 73] 84 (by decide)
  rw [show decide ((84 : Int) ∈ ([78, 73] : List Int)) = false from by decide] at k82_84
  have k82_78 := h82 [78, 73] 78 (by decide)
  rw [show decide ((78 : Int) ∈ ([78, 73] : List Int)) = true from by decide] at k82_78
  have k82_72 := h82 [78, 73] 72 (by decide)
  rw [show decide ((72 : Int) ∈ ([78, 73] : List Int)) = false from by decide] at k82_72
  have k82_66 := h82 [78, 73] 66 (by decide)
  rw [show decide ((66 : Int) ∈ ([78, 73] : List Int)) = false from by decide] at k82_66
  rcases Bool.eq_false_or_eq_true (cnt x2) with a1 | a1
  rotate_left
  · simp -implicitDefEqProofs [edOk, h81, h54, cn0, rbt, rbf, cbf, cbt, k80, k82_73, k82_84, k82_78, k82_72, k82_66, a1]
  by_cases a2 : x3 = 0
  rotate_left
  · simp -implicitDefEqProofs [edOk, h81, h54, cn0, rbt, rbf, cbf, cbt, k80, k82_73, k82_84, k82_78, k82_72, k82_66, a1, a2]
  subst a2
  by_cases a3 : x1 = 0
  · subst a3
    by_cases a5 : x4 = 0
    rotate_left
    · simp -implicitDefEqProofs [edOk, h81, h54, cn0, rbt, rbf, cbf, cbt, k80, k82_73, k82_84, k82_78, k82_72, k82_66, a1, a5]
    subst a5
    by_cases a6 : x5 = 0
    rotate_left
    · simp -implicitDefEqProofs [edOk, h81, h54, cn0, rbt, rbf, cbf, cbt, k80, k82_73, k82_84, k82_78, k82_72, k82_66, a1, a6]
    subst a6
    by_cases a7 : x6 = 0
    rotate_left
    · simp -implicitDefEqProofs [edOk, h81, h54, cn0, rbt, rbf, cbf, cbt, k80, k82_73, k82_84, k82_78, k82_72, k82_66, a1, a7]
    subst a7
    by_cases a8 : x7 = 0
    rotate_left
    · simp -implicitDefEqProofs [edOk, h81, h54, cn0, rbt, rbf, cbf, cbt, k80, k82_73, k82_84, k82_78, k82_72, k82_66, a1, a8]
    subst a8
    by_cases a9 : x8 = 0
    rotate_left
    · simp -implicitDefEqProofs [edOk, h81, h54, cn0, rbt, rbf, cbf, cbt, k80, k82_73, k82_84, k82_78, k82_72, k82_66, a1, a9]
    subst a9
    by_cases a10 : x9 = 0
    rotate_left
    · simp -implicitDefEqProofs [edOk, h81, h54, cn0, rbt, rbf, cbf, cbt, k80, k82_73, k82_84, k82_78, k82_72, k82_66, a1, a10]
    subst a10
    by_cases a11 : x10 = []
    rotate_left
    · simp -implicitDefEqProofs [edOk, h81, h54, cn0, rbt, rbf, cbf, cbt, k80, k82_73, k82_84, k82_78, k82_72, k82_66, a1, a11]
    subst a11
    by_cases a12 : x11 = []
    rotate_left
    · simp -implicitDefEqProofs [edOk, h81, h54, cn0, rbt, rbf, cbf, cbt, k80, k82_73, k82_84, k82_78, k82_72, k82_66, a1, a12]
    subst a12
    simp -implicitDefEqProofs [edOk, h81, h54, cn0, rbt, rbf, cbf, cbt, k80, k82_73, k82_84, k82_78, k82_72, k82_66, a1]
  rcases Bool.eq_false_or_eq_true (cnt x1) with a4 | a4
  rotate_left
  · simp -implicitDefEqProofs [edOk, h81, h54, cn0, rbt, rbf, cbf, cbt, k80, k82_73, k82_84, k82_78, k82_72, k82_66, a1, a3, a4]
  by_cases a13 : x4 = 0
  rotate_left
  · simp -implicitDefEqProofs [edOk, h81, h54, cn0, rbt, rbf, cbf, cbt, k80, k82_73, k82_84, k82_78, k82_72, k82_66, a1, a3, a4, a13]
  subst a13
  by_cases a14 : x5 = 0
  rotate_left
  · simp -implicitDefEqProofs [edOk, h81, h54, cn0, rbt, rbf, cbf, cbt, k80, k82_73, k82_84, k82_78, k82_72, k82_66, a1, a3, a4, a14]
  subst a14
  by_cases a15 : x6 = 0
  rotate_left
  · simp -implicitDefEqProofs [edOk, h81, h54, cn0, rbt, rbf, cbf, cbt, k80, k82_73, k82_84, k82_78, k82_72, k82_66, a1, a3, a4, a15]
  subst a15
  by_cases a16 : x7 = 0
  rotate_left
  · simp -implicitDefEqProofs [edOk, h81, h54, cn0, rbt, rbf, cbf, cbt, k80, k82_73, k82_84, k82_78, k82_72, k82_66, a1, a3, a4, a16]
  subst a16
  by_cases a17 : x8 = 0
  rotate_left
  · simp -implicitDefEqProofs [edOk, h81, h54, cn0, rbt, rbf, cbf, cbt, k80, k82_73, k82_84, k82_78, k82_72, k82_66, a1, a3, a4, a17]
  subst a17
  by_cases a18 : x9 = 0
  rotate_left
  · simp -implicitDefEqProofs [edOk, h81, h54, cn0, rbt, rbf, cbf, cbt, k80, k82_73, k82_84, k82_78, k82_72, k82_66, a1, a3, a4, a18]
  subst a18
  by_cases a19 : x10 = []
  rotate_left
  · simp -implicitDefEqProofs [edOk, h81, h54, cn0, rbt, rbf, cbf, cbt, k80, k82_73, k82_84, k82_78, k82_72, k82_66, a1, a3, a4, a19]
  subst a19
  by_cases a20 : x11 = []
  rotate_left
  · simp -implicitDefEqProofs [edOk, h81, h54, cn0, rbt, rbf, cbf, cbt, k80, k82_73, k82_84, k82_78, k82_72, k82_66, a1, a3, a4, a20]
  subst a20
  simp -implicitDefEqProofs [edOk, h81, h54, cn0, rbt, rbf, cbf, cbt, k80, k82_73, k82_84, k82_78, k82_72, k82_66, a1, a3, a4]
theorem f38_3 (x1 x2 x3 x4 x5 x6 x7 x8 x9 : Int) (x10 x11 : List Int) : F38 [⟨.int .i64, 3⟩, ⟨.int .i64, x1⟩, ⟨.int .i64, x2⟩, ⟨.int .i64, x3⟩, ⟨.int .i64, x4⟩, ⟨.int .i64, x5⟩, ⟨.int .i64, x6⟩, ⟨.int .i64, x7⟩, ⟨.int .i64, x8⟩, ⟨.int .i64, x9⟩, ⟨.str, x10⟩, ⟨.str, x11⟩] = some [⟨.bool, edOk 3 x1 x2 x3 x4 x5 x6 x7 x8 x9 x10 x11⟩] := by
  have h80 := s80 (lc := [c80, c82, c81, c54]) rfl
  have h82 := s82 (lc := [c80, c82, c81, c54]) rfl
  have h81 := s81 (lc := [c80, c82, c81, c54]) rfl
  have h54 := s54 (lc := [c80, c82, c81, c54]) rfl
  simp only [F38, Fof, ir38]
  generalize Phi [c80, c82, c81, c54] = Φ at *
  have k80 := h80 3
  rw [show partsL 3 = [73] from rfl] at k80
  have k82_73 := h82 [73] 73 (by decide)
  rw [show decide ((73 : Int) ∈ ([73] : List Int)) = true from by decide] at k82_73
  have k82_84 := h82 [73] 84 (by decide)
  rw [show decide ((84 : Int) ∈ ([73] : List Int)) = false from by decide] at k82_84
  have k82_78 := h82 [73] 78 (by decide)
  rw [show decide ((78 : Int) ∈ ([73] : List Int)) = false from by decide] at k82_78
  have k82_72 := h82 [73] 72 (by decide)
  rw [show decide ((72 : Int) ∈ ([73] : List Int)) = false from by decide] at k82_72
  have k82_66 := h82 [73] 66 (by decide)
  rw [show decide ((66 : Int) ∈ ([73] : List Int)) = false from by decide] at k82_66
  rcases Bool.eq_false_or_eq_true (cnt x2) with a1 | a1
  rotate_left
  · simp -implicitDefEqProofs [edOk, h81, h54, cn0, rbt, rbf, cbf, cbt, k80, k82_73, k82_84, k82_78, k82_72, k82_66, a1]
  by_cases a2 : x3 = 0
  rotate_left
  · simp -implicitDefEqProofs [edOk, h81, h54, cn0, rbt, rbf, cbf, cbt, k80, k82_73, k82_84, k82_78, k82_72, k82_66, a1, a2]
  subst a2
  by_cases a3 : x1 = 0
  rotate_left
  · simp -implicitDefEqProofs [edOk, h81, h54, cn0, rbt, rbf, cbf, cbt, k80, k82_73, k82_84, k82_78, k82_72, k82_66, a1, a3]
  subst a3
  by_cases a4 : x4 = 0
  rotate_left
  · simp -implicitDefEqProofs [edOk, h81, h54, cn0, rbt, rbf, cbf, cbt, k80, k82_73, k82_84, k82_78, k82_72, k82_66, a1, a4]
  subst a4
  by_cases a5 : x5 = 0
  rotate_left
  · simp -implicitDefEqProofs [edOk, h81, h54, cn0, rbt, rbf, cbf, cbt, k80, k82_73, k82_84, k82_78, k82_72, k82_66, a1, a5]
  subst a5
  by_cases a6 : x6 = 0
  rotate_left
  · simp -implicitDefEqProofs [edOk, h81, h54, cn0, rbt, rbf, cbf, cbt, k80, k82_73, k82_84, k82_78, k82_72, k82_66, a1, a6]
  subst a6
  by_cases a7 : x7 = 0
  rotate_left
  · simp -implicitDefEqProofs [edOk, h81, h54, cn0, rbt, rbf, cbf, cbt, k80, k82_73, k82_84, k82_78, k82_72, k82_66, a1, a7]
  subst a7
  by_cases a8 : x8 = 0
  rotate_left
  · simp -implicitDefEqProofs [edOk, h81, h54, cn0, rbt, rbf, cbf, cbt, k80, k82_73, k82_84, k82_78, k82_72, k82_66, a1, a8]
  subst a8
  by_cases a9 : x9 = 0
  rotate_left
  · simp -implicitDefEqProofs [edOk, h81, h54, cn0, rbt, rbf, cbf, cbt, k80, k82_73, k82_84, k82_78, k82_72, k82_66, a1, a9]
  subst a9
  by_cases a10 : x10 = []
  rotate_left
  · simp -implicitDefEqProofs [edOk, h81, h54, cn0, rbt, rbf, cbf, cbt, k80, k82_73, k82_84, k82_78, k82_72, k82_66, a1, a10]
  subst a10
  by_cases a11 : x11 = []
  rotate_left
  · simp -implicitDefEqProofs [edOk, h81, h54, cn0, rbt, rbf, cbf, cbt, k80, k82_73, k82_84, k82_78, k82_72, k82_66, a1, a11]
  subst a11
  simp -implicitDefEqProofs [edOk, h81, h54, cn0, rbt, rbf, cbf, cbt, k80, k82_73, k82_84, k82_78, k82_72, k82_66, a1]
theorem f38_4 (x1 x2 x3 x4 x5 x6 x7 x8 x9 : Int) (x10 x11 : List Int) : F38 [⟨.int .i64, 4⟩, ⟨.int .i64, x1⟩, ⟨.int .i64, x2⟩, ⟨.int .i64, x3⟩, ⟨.int .i64, x4⟩, ⟨.int .i64, x5⟩, ⟨.int .i64, x6⟩, ⟨.int .i64, x7⟩, ⟨.int .i64, x8⟩, ⟨.int .i64, x9⟩, ⟨.str, x10⟩, ⟨.str, x11⟩] = some [⟨.bool, edOk 4 x1 x2 x3 x4 x5 x6 x7 x8 x9 x10 x11⟩] := by
  have h80 := s80 (lc := [c80, c82, c81, c54]) rfl
  have h82 := s82 (lc := [c80, c82, c81, c54]) rfl
  have h81 := s81 (lc := [c80, c82, c81, c54]) rfl
  have h54 := s54 (lc := [c80, c82, c81, c54]) rfl
  simp only [F38, Fof, ir38]
  generalize Phi [c80, c82, c81, c54] = Φ at *
  have k80 := h80 4
  rw [show partsL 4 = [66] from rfl] at k80
  have k82_73 := h82 [66] 73 (by decide)
  rw [show decide ((73 : Int) ∈ ([66] : List Int)) = false from by decide] at k82_73
  have k82_84 := h82 [66] 84 (by decide)
  rw [show decide ((84 : Int) ∈ ([66] : List Int)) = false from by decide] at k82_84
  have k82_78 := h82 [66] 78 (by decide)
  rw [show decide ((78 : Int) ∈ ([66] : List Int)) = false from by decide] at k82_78
  have k82_72 := h82 [66] 72 (by decide)
  rw [show decide ((72 : Int) ∈ ([66] : List Int)) = false from by decide] at k82_72
  have k82_66 := h82 [66] 66 (by decide)
  rw [show decide ((66 : Int) ∈ ([66] : List Int)) = true from by decide] at k82_66
  have hmk : mkD TbT 1 [⟨.int .i64, x7⟩, ⟨.int .i64, x8⟩, ⟨.int .i64, x9⟩, ⟨.str, x10⟩, ⟨.str, x11⟩] = some ⟨.sl TbT, [(x7, x8, x9, x10, x11)]⟩ := rfl
  by_cases a1 : x2 = 0
  rotate_left
  · simp -implicitDefEqProofs [edOk, h81, h54, cn0, rbt, rbf, cbf, cbt, k80, k82_73, k82_84, k82_78, k82_72, k82_66, hmk, a1]
  subst a1
  by_cases a2 : x3 = 0
  rotate_left
  · simp -implicitDefEqProofs [edOk, h81, h54, cn0, rbt, rbf, cbf, cbt, k80, k82_73, k82_84, k82_78, k82_72, k82_66, hmk, a2]
  subst a2
  by_cases a3 : x1 = 0
  rotate_left
  · simp -implicitDefEqProofs [edOk, h81, h54, cn0, rbt, rbf, cbf, cbt, k80, k82_73, k82_84, k82_78, k82_72, k82_66, hmk, a3]
  subst a3
  by_cases a4 : x4 = 0
  rotate_left
  · simp -implicitDefEqProofs [edOk, h81, h54, cn0, rbt, rbf, cbf, cbt, k80, k82_73, k82_84, k82_78, k82_72, k82_66, hmk, a4]
  subst a4
  by_cases a5 : x5 = 0
  rotate_left
  · simp -implicitDefEqProofs [edOk, h81, h54, cn0, rbt, rbf, cbf, cbt, k80, k82_73, k82_84, k82_78, k82_72, k82_66, hmk, a5]
  subst a5
  by_cases a6 : x6 = 0
  rotate_left
  · simp -implicitDefEqProofs [edOk, h81, h54, cn0, rbt, rbf, cbf, cbt, k80, k82_73, k82_84, k82_78, k82_72, k82_66, hmk, a6]
  subst a6
  rcases Bool.eq_false_or_eq_true (tabOk x7 x8 x9 x10 x11) with a7 | a7
  rotate_left
  · simp -implicitDefEqProofs [edOk, h81, h54, cn0, rbt, rbf, cbf, cbt, k80, k82_73, k82_84, k82_78, k82_72, k82_66, hmk, a7]
  simp -implicitDefEqProofs [edOk, h81, h54, cn0, rbt, rbf, cbf, cbt, k80, k82_73, k82_84, k82_78, k82_72, k82_66, hmk, a7]
theorem f38_5 (x1 x2 x3 x4 x5 x6 x7 x8 x9 : Int) (x10 x11 : List Int) : F38 [⟨.int .i64, 5⟩, ⟨.int .i64, x1⟩, ⟨.int .i64, x2⟩, ⟨.int .i64, x3⟩, ⟨.int .i64, x4⟩, ⟨.int .i64, x5⟩, ⟨.int .i64, x6⟩, ⟨.int .i64, x7⟩, ⟨.int .i64, x8⟩, ⟨.int .i64, x9⟩, ⟨.str, x10⟩, ⟨.str, x11⟩] = some [⟨.bool, edOk 5 x1 x2 x3 x4 x5 x6 x7 x8 x9 x10 x11⟩] := by
  have h80 := s80 (lc := [c80, c82, c81, c54]) rfl
  have h82 := s82 (lc := [c80, c82, c81, c54]) rfl
  have h81 := s81 (lc := [c80, c82, c81, c54]) rfl
  have h54 := s54 (lc := [c80, c82, c81, c54]) rfl
  simp only [F38, Fof, ir38]
  generalize Phi [c80, c82, c81, c54] = Φ at *
  have k80 := h80 5
  rw [show partsL 5 = [78] from rfl] at k80
  have k82_73 := h82 [78] 73 (by decide)
  rw [show decide ((73 : Int) ∈ ([78] : List Int)) = false from by decide] at k82_73
  have k82_84 := h82 [78] 84 (by decide)
  rw [show decide ((84 : Int) ∈ ([78] : List Int)) = false from by decide] at k82_84
  have k82_78 := h82 [78] 78 (by decide)
  rw [show decide ((78 : Int) ∈ ([78] : List Int)) = true from by decide] at k82_78
  have k82_72 := h82 [78] 72 (by decide)
  rw [show decide ((72 : Int) ∈ ([78] : List Int)) = false from by decide] at k82_72
  have k82_66 := h82 [78] 66 (by decide)
  rw [show decide ((66 : Int) ∈ ([78] : List Int)) = false from by decide] at k82_66
  by_cases a1 : x2 = 0
  rotate_left
  · simp -implicitDefEqProofs [edOk, h81, h54, cn0, rbt, rbf, cbf, cbt, k80, k82_73, k82_84, k82_78, k82_72, k82_66, a1]
  subst a1
  by_cases a2 : x3 = 0
  rotate_left
  · simp -implicitDefEqProofs [edOk, h81, h54, cn0, rbt, rbf, cbf, cbt, k80, k82_73, k82_84, k82_78, k82_72, k82_66, a2]
  subst a2
  rcases Bool.eq_false_or_eq_true (cnt x1) with a3 | a3
  rotate_left
  · simp -implicitDefEqProofs [edOk, h81, h54, cn0, rbt, rbf, cbf, cbt, k80, k82_73, k82_84, k82_78, k82_72, k82_66, a3]
  by_cases a4 : x4 = 0
  rotate_left
  · simp -implicitDefEqProofs [edOk, h81, h54, cn0, rbt, rbf, cbf, cbt, k80, k82_73, k82_84, k82_78, k82_72, k82_66, a3, a4]
  subst a4
  by_cases a5 : x5 = 0
  rotate_left
  · simp -implicitDefEqProofs [edOk, h81, h54, cn0, rbt, rbf, cbf, cbt, k80, k82_73, k82_84, k82_78, k82_72, k82_66, a3, a5]
  subst a5
  by_cases a6 : x6 = 0
  rotate_left
  · simp -implicitDefEqProofs [edOk, h81, h54, cn0, rbt, rbf, cbf, cbt, k80, k82_73, k82_84, k82_78, k82_72, k82_66, a3, a6]
  subst a6
  by_cases a7 : x7 = 0
  rotate_left
  · simp -implicitDefEqProofs [edOk, h81, h54, cn0, rbt, rbf, cbf, cbt, k80, k82_73, k82_84, k82_78, k82_72, k82_66, a3, a7]
  subst a7
  by_cases a8 : x8 = 0
  rotate_left
  · simp -implicitDefEqProofs [edOk, h81, h54, cn0, rbt, rbf, cbf, cbt, k80, k82_73, k82_84, k82_78, k82_72, k82_66, a3, a8]
  subst a8
  by_cases a9 : x9 = 0
  rotate_left
  · simp -implicitDefEqProofs [edOk, h81, h54, cn0, rbt, rbf, cbf, cbt, k80, k82_73, k82_84, k82_78, k82_72, k82_66, a3, a9]
  subst a9
  by_cases a10 : x10 = []
  rotate_left
  · simp -implicitDefEqProofs [edOk, h81, h54, cn0, rbt, rbf, cbf, cbt, k80, k82_73, k82_84, k82_78, k82_72, k82_66, a3, a10]
  subst a10
  by_cases a11 : x11 = []
  rotate_left
  · simp -implicitDefEqProofs [edOk, h81, h54, cn0, rbt, rbf, cbf, cbt, k80, k82_73, k82_84, k82_78, k82_72, k82_66, a3, a11]
  subst a11
  simp -implicitDefEqProofs [edOk, h81, h54, cn0, rbt, rbf, cbf, cbt, k80, k82_73, k82_84, k82_78, k82_72, k82_66, a3]
theorem f38_6 (x1 x2 x3 x4 x5 x6 x7 x8 x9 : Int) (x10 x11 : List Int) : F38 [⟨.int .i64, 6⟩, ⟨.int .i64, x1⟩, ⟨.int .i64, x2⟩, ⟨.int .i64, x3⟩, ⟨.int .i64, x4⟩, ⟨.int .i64, x5⟩, ⟨.int .i64, x6⟩, ⟨.int .i64, x7⟩, ⟨.int .i64, x8⟩, ⟨.int .i64, x9⟩, ⟨.str, x10⟩, ⟨.str, x11⟩] = some [⟨.bool, edOk 6 x1 x2 x3 x4 x5 x6 x7 x8 x9 x10 x11⟩] := by
  have h80 := s80 (lc := [c80, c82, c81, c54]) rfl
  have h82 := s82 (lc := [c80, c82, c81, c54]) rfl
  have h81 := s81 (lc := [c80, c82, c81, c54]) rfl
  have h54 := s54 (lc := [c80, c82, c81, c54]) rfl
  simp only [F38, Fof, ir38]
  generalize Phi [c80, c82, c81, c54] = Φ at *
  have k80 := h80 6
  rw [show partsL 6 = [78, 73, 84] from rfl] at k80
  have k82_73 := h82 [78, 73, 84] 73 (by decide)
  rw [show decide ((73 : Int) ∈ ([78, 73, 84] : List Int)) = true from by decide] at k82_73
  have k82_84 := h82 [78, 73, 84] 84 (by decide)
  rw [show decide ((84 : Int) ∈ ([78, 73, 84] : List Int)) = true from by decide] at k82_84
  have k82_78 := h82 [78, 73, 84] 78 (by decide)
  rw [show decide ((78 : Int) ∈ ([78, 73, 84] : List Int)) = true from by decide] at k82_78
  have k82_72 := h82 [78, 73, 84] 72 (by decide)
  rw [show decide ((72 : Int) ∈ ([78, 73, 84] : List Int)) = false from by decide] at k82_72
  have k82_66 := h82 [78, 73, 84] 66 (by decide)
  rw [show decide ((66 : Int) ∈ ([78, 73, 84] : List Int)) = false from by decide] at k82_66
  rcases Bool.eq_false_or_eq_true (cnt x2) with a1 | a1
  rotate_left
  · simp -implicitDefEqProofs [edOk, h81, h54, cn0, rbt, rbf, cbf, cbt, k80, k82_73, k82_84, k82_78, k82_72, k82_66, a1]
  rcases Bool.eq_false_or_eq_true (cnt x3) with a2 | a2
  rotate_left
  · simp -implicitDefEqProofs [edOk, h81, h54, cn0, rbt, rbf, cbf, cbt, k80, k82_73, k82_84, k82_78, k82_72, k82_66, a1, a2]
  rcases Bool.eq_false_or_eq_true (cnt x1) with a3 | a3
  rotate_left
  · simp -implicitDefEqProofs [edOk, h81, h54, cn0, rbt, rbf, cbf, cbt, k80, k82_73, k82_84, k82_78, k82_72, k82_66, a1, a2, a3]
  by_cases a4 : x4 = 0
  rotate_left
  · simp -implicitDefEqProofs [edOk, h81, h54, cn0, rbt, rbf, cbf, cbt, k80, k82_73, k82_84, k82_78, k82_72, k82_66, a1, a2, a3, a4]
  subst a4
  by_cases a5 : x5 = 0
  rotate_left
  · simp -implicitDefEqProofs [edOk, h81, h54, cn0, rbt, rbf, cbf, cbt, k80, k82_73, k82_84, k82_78, k82_72, k82_66, a1, a2, a3, a5]
  subst a5
  by_cases a6 : x6 = 0
  rotate_left
  · simp -implicitDefEqProofs [edOk, h81, h54, cn0, rbt, rbf, cbf, cbt, k80, k82_73, k82_84, k82_78, k82_72, k82_66, a1, a2, a3, a6]
  subst a6
  by_cases a7 : x7 = 0
  rotate_left
  · simp -implicitDefEqProofs [edOk, h81, h54, cn0, rbt, rbf, cbf, cbt, k80, k82_73, k82_84, k82_78, k82_72, k82_66, a1, a2, a3, a7]
  subst a7
  by_cases a8 : x8 = 0
  rotate_left
  · simp -implicitDefEqProofs [edOk, h81, h54, cn0, rbt, rbf, cbf, cbt, k80, k82_73, k82_84, k82_78, k82_72, k82_66, a1, a2, a3, a8]
  subst a8
  by_cases a9 : x9 = 0
  rotate_left
  · simp -implicitDefEqProofs [edOk, h81, h54, cn0, rbt, rbf, cbf, cbt, k80, k82_73, k82_84, k82_78, k82_72, k82_66, a1, a2, a3, a9]
  subst a9
  by_cases a10 : x10 = []
  rotate_left
  · simp -implicitDefEqProofs [edOk, h81, h54, cn0, rbt, rbf, cbf, cbt, k80, k82_73, k82_84, k82_78, k82_72, k82_66, a1, a2, a3, a10]
  subst a10
  by_cases a11 : x11 = []
  rotate_left
  · simp -implicitDefEqProofs [edOk, h81, h54, cn0, rbt, rbf, cbf, cbt, k80, k82_73, k82_84, k82_78, k82_72, k82_66, a1, a2, a3, a11]
  subst a11
  simp -implicitDefEqProofs [edOk, h81, h54, cn0, rbt, rbf, cbf, cbt, k80, k82_73, k82_84, k82_78, k82_72, k82_66, a1, a2, a3]
theorem f38_7 (x1 x2 x3 x4 x5 x6 x7 x8 x9 : Int) (x10 x11 : List Int) : F38 [⟨.int .i64, 7⟩, ⟨.int .i64, x1⟩, ⟨.int .i64, x2⟩, ⟨.int .i64, x3⟩, ⟨.int .i64, x4⟩, ⟨.int .i64, x5⟩, ⟨.int .i64, x6⟩, ⟨.int .i64, x7⟩, ⟨.int .i64, x8⟩, ⟨.int .i64, x9⟩, ⟨.str, x10⟩, ⟨.str, x11⟩] = some [⟨.bool, edOk 7 x1 x2 x3 x4 x5 x6 x7 x8 x9 x10 x11⟩] := by
  have h80 := s80 (lc := [c80, c82, c81, c54]) rfl
  have h82 := s82 (lc := [c80, c82, c81, c54]) rfl
  have h81 := s81 (lc := [c80, c82, c81, c54]) rfl
  have h54 := s54 (lc := [c80, c82, c81, c54]) rfl
  simp only [F38, Fof, ir38]
  generalize Phi [c80, c82, c81, c54] = Φ at *
  have k80 := h80 7
  rw [show partsL 7 = [73] from rfl] at k80
  have k82_73 := h82 [73] 73 (by decide)
  rw [show decide ((73 : Int) ∈ ([73] : List Int)) = true from by decide] at k82_73
  have k82_84 := h82 [73] 84 (by decide)
  rw [show decide ((84 : Int) ∈ ([73] : List Int)) = false from by decide] at k82_84
  have k82_78 := h82 [73] 78 (by decide)
  rw [show decide ((78 : Int) ∈ ([73] : List Int)) = false from by decide] at k82_78
  have k82_72 := h82 [73] 72 (by decide)
  rw [show decide ((72 : Int) ∈ ([73] : List Int)) = false from by decide] at k82_72
  have k82_66 := h82 [73] 66 (by decide)
  rw [show decide ((66 : Int) ∈ ([73] : List Int)) = false from by decide] at k82_66
  rcases Bool.eq_false_or_eq_true (cnt x2) with a1 | a1
  rotate_left
  · simp -implicitDefEqProofs [edOk, h81, h54, cn0, rbt, rbf, cbf, cbt, k80, k82_73, k82_84, k82_78, k82_72, k82_66, a1]
  by_cases a2 : x3 = 0
  rotate_left
  · simp -implicitDefEqProofs [edOk, h81, h54, cn0, rbt, rbf, cbf, cbt, k80, k82_73, k82_84, k82_78, k82_72, k82_66, a1, a2]
  subst a2
  by_cases a3 : x1 = 0
  rotate_left
  · simp -implicitDefEqProofs [edOk, h81, h54, cn0, rbt, rbf, cbf, cbt, k80, k82_73, k82_84, k82_78, k82_72, k82_66, a1, a3]
  subst a3
  by_cases a4 : x4 = 0
  rotate_left
  · simp -implicitDefEqProofs [edOk, h81, h54, cn0, rbt, rbf, cbf, cbt, k80, k82_73, k82_84, k82_78, k82_72, k82_66, a1, a4]
  subst a4
  by_cases a5 : x5 = 0
  rotate_left
  · simp -implicitDefEqProofs [edOk, h81, h54, cn0, rbt, rbf, cbf, cbt, k80, k82_73, k82_84, k82_78, k82_72, k82_66, a1, a5]
  subst a5
  by_cases a6 : x6 = 0
  rotate_left
  · simp -implicitDefEqProofs [edOk, h81, h54, cn0, rbt, rbf, cbf, cbt, k80, k82_73, k82_84, k82_78, k82_72, k82_66, a1, a6]
  subst a6
  by_cases a7 : x7 = 0
  rotate_left
  · simp -implicitDefEqProofs [edOk, h81, h54, cn0, rbt, rbf, cbf, cbt, k80, k82_73, k82_84, k82_78, k82_72, k82_66, a1, a7]
  subst a7
  by_cases a8 : x8 = 0
  rotate_left
  · simp -implicitDefEqProofs [edOk, h81, h54, cn0, rbt, rbf, cbf, cbt, k80, k82_73, k82_84, k82_78, k82_72, k82_66, a1, a8]
  subst a8
  by_cases a9 : x9 = 0
  rotate_left
  · simp -implicitDefEqProofs [edOk, h81, h54, cn0, rbt, rbf, cbf, cbt, k80, k82_73, k82_84, k82_78, k82_72, k82_66, a1, a9]
  subst a9
  by_cases a10 : x10 = []
  rotate_left
  · simp -implicitDefEqProofs [edOk, h81, h54, cn0, rbt, rbf, cbf, cbt, k80, k82_73, k82_84, k82_78, k82_72, k82_66, a1, a10]
  subst a10
  by_cases a11 : x11 = []
  rotate_left
  · simp -implicitDefEqProofs [edOk, h81, h54, cn0, rbt, rbf, cbf, cbt, k80, k82_73, k82_84, k82_78, k82_72, k82_66, a1, a11]
  subst a11
  simp -implicitDefEqProofs [edOk, h81, h54, cn0, rbt, rbf, cbf, cbt, k80, k82_73, k82_84, k82_78, k82_72, k82_66, a1]
theorem f38_8 (x1 x2 x3 x4 x5 x6 x7 x8 x9 : Int) (x10 x11 : List Int) : F38 [⟨.int .i64, 8⟩, ⟨.int .i64, x1⟩, ⟨.int .i64, x2⟩, ⟨.int .i64, x3⟩, ⟨.int .i64, x4⟩, ⟨.int .i64, x5⟩, ⟨.int .i64, x6⟩, ⟨.int .i64, x7⟩, ⟨.int .i64, x8⟩, ⟨.int .i64, x9⟩, ⟨.str, x10⟩, ⟨.str, x11⟩] = some [⟨.bool, edOk 8 x1 x2 x3 x4 x5 x6 x7 x8 x9 x10 x11⟩] := by
  have h80 := s80 (lc := [c80, c82, c81, c54]) rfl
  have h82 := s82 (lc := [c80, c82, c81, c54]) rfl
  have h81 := s81 (lc := [c80, c82, c81, c54]) rfl
  have h54 := s54 (lc := [c80, c82, c81, c54]) rfl
  simp only [F38, Fof, ir38]
  generalize Phi [c80, c82, c81, c54] = Φ at *
  have k80 := h80 8
  rw [show partsL 8 = [78, 73, 84, 72] from rfl] at k80
  have k82_73 := h82 [78, 73, 84, 72] 73 (by decide)
  rw [show decide ((73 : Int) ∈ ([78, 73, 84, 72] : List Int)) = true from by decide] at k82_73
  have k82_84 := h82 [78, 73, 84, 72] 84 (by decide)
  rw [show decide ((84 : Int) ∈ ([78, 73, 84, 72] : List Int)) = true from by decide] at k82_84
  have k82_78 := h82 [78, 73, 84, 72] 78 (by decide)
  rw [show decide ((78 : Int) ∈ ([78, 73, 84, 72] : List Int)) = true from by decide] at k82_78
  have k82_72 := h82 [78, 73, 84, 72] 72 (by decide)
  rw [show decide ((72 : Int) ∈ ([78, 73, 84, 72] : List Int)) = true from by decide] at k82_72
  have k82_66 := h82 [78, 73, 84, 72] 66 (by decide)
  rw [show decide ((66 : Int) ∈ ([78, 73, 84, 72] : List Int)) = false from by decide] at k82_66
  by_cases a1 : x2 = 0
  · subst a1
    by_cases a3 : x3 = 0
    · subst a3
      rcases Bool.eq_false_or_eq_true (cnt x1) with a5 | a5
      rotate_left
      · simp -implicitDefEqProofs [edOk, h81, h54, cn0, rbt, rbf, cbf, cbt, k80, k82_73, k82_84, k82_78, k82_72, k82_66, a5]
      rcases Bool.eq_false_or_eq_true (cnt x4 || decide (x4 = 0)) with a6 | a6
      rotate_left
      · rcases hr_out a6 with a7 | a7 <;> simp -implicitDefEqProofs [edOk, h81, h54, cn0, rbt, rbf, cbf, cbt, k80, k82_73, k82_84, k82_78, k82_72, k82_66, a5, a6, a7]
      obtain ⟨a7, a8⟩ := hr_in a6
      rcases Bool.eq_false_or_eq_true (cnt x5 || decide (x5 = 0)) with a9 | a9
      rotate_left
      · rcases hr_out a9 with a10 | a10 <;> simp -implicitDefEqProofs [edOk, h81, h54, cn0, rbt, rbf, cbf, cbt, k80, k82_73, k82_84, k82_78, k82_72, k82_66, a5, a6, a7, a8, a9, a10]
      obtain ⟨a10, a11⟩ := hr_in a9
      rcases Bool.eq_false_or_eq_true (cnt x6 || decide (x6 = 0)) with a12 | a12
      rotate_left
      · rcases hr_out a12 with a13 | a13 <;> simp -implicitDefEqProofs [edOk, h81, h54, cn0, rbt, rbf, cbf, cbt, k80, k82_73, k82_84, k82_78, k82_72, k82_66, a5, a6, a7, a8, a9, a10, a11, a12, a13]
      obtain ⟨a13, a14⟩ := hr_in a12
      by_cases a15 : x7 = 0
      rotate_left
      · simp -implicitDefEqProofs [edOk, h81, h54, cn0, rbt, rbf, cbf, cbt, k80, k82_73, k82_84, k82_78, k82_72, k82_66, a5, a6, a7, a8, a9, a10, a11, a12, a13, a14, a15]
      subst a15
      by_cases a16 : x8 = 0
      rotate_left
      · simp -implicitDefEqProofs [edOk, h81, h54, cn0, rbt, rbf, cbf, cbt, k80, k82_73, k82_84, k82_78, k82_72, k82_66, a5, a6, a7, a8, a9, a10, a11, a12, a13, a14, a16]
      subst a16
      by_cases a17 : x9 = 0
      rotate_left
      · simp -implicitDefEqProofs [edOk, h81, h54, cn0, rbt, rbf, cbf, cbt, k80, k82_73, k82_84, k82_78, k82_72, k82_66, a5, a6, a7, a8, a9, a10, a11, a12, a13, a14, a17]
      subst a17
      by_cases a18 : x10 = []
      rotate_left
      · simp -implicitDefEqProofs [edOk, h81, h54, cn0, rbt, rbf, cbf, cbt, k80, k82_73, k82_84, k82_78, k82_72, k82_66, a5, a6, a7, a8, a9, a10, a11, a12, a13, a14, a18]
      subst a18
      by_cases a19 : x11 = []
      rotate_left
      · simp -implicitDefEqProofs [edOk, h81, h54, cn0, rbt, rbf, cbf, cbt, k80, k82_73, k82_84, k82_78, k82_72, k82_66, a5, a6, a7, a8, a9, a10, a11, a12, a13, a14, a19]
      subst a19
      simp -implicitDefEqProofs [edOk, h81, h54, cn0, rbt, rbf, cbf, cbt, k80, k82_73, k82_84, k82_78, k82_72, k82_66, a5, a6, a7, a8, a9, a10, a11, a12, a13, a14]
    rcases Bool.eq_false_or_eq_true (cnt x3) with a4 | a4
    rotate_left
    · simp -implicitDefEqProofs [edOk, h81, h54, cn0, rbt, rbf, cbf, cbt, k80, k82_73, k82_84, k82_78, k82_72, k82_66, a3, a4]
    simp -implicitDefEqProofs [edOk, h81, h54, cn0, rbt, rbf, cbf, cbt, k80, k82_73, k82_84, k82_78, k82_72, k82_66, a3, a4]
  rcases Bool.eq_false_or_eq_true (cnt x2) with a2 | a2
  rotate_left
  · simp -implicitDefEqProofs [edOk, h81, h54, cn0, rbt, rbf, cbf, cbt, k80, k82_73, k82_84, k82_78, k82_72, k82_66, a1, a2]
  by_cases a20 : x3 = 0
  · subst a20
    simp -implicitDefEqProofs [edOk, h81, h54, cn0, rbt, rbf, cbf, cbt, k80, k82_73, k82_84, k82_78, k82_72, k82_66, a1, a2]
  rcases Bool.eq_false_or_eq_true (cnt x3) with a21 | a21
  rotate_left
  · simp -implicitDefEqProofs [edOk, h81, h54, cn0, rbt, rbf, cbf, cbt, k80, k82_73, k82_84, k82_78, k82_72, k82_66, a1, a2, a20, a21]
  rcases Bool.eq_false_or_eq_true (cnt x1) with a22 | a22
  rotate_left
  · simp -implicitDefEqProofs [edOk, h81, h54, cn0, rbt, rbf, cbf, cbt, k80, k82_73, k82_84, k82_78, k82_72, k82_66, a1, a2, a20, a21, a22]
  rcases Bool.eq_false_or_eq_true (cnt x4 || decide (x4 = 0)) with a23 | a23
  rotate_left
  · rcases hr_out a23 with a24 | a24 <;> simp -implicitDefEqProofs [edOk, h81, h54, cn0, rbt, rbf, cbf, cbt, k80, k82_73, k82_84, k82_78, k82_72, k82_66, a1, a2, a20, a21, a22, a23, a24]
  obtain ⟨a24, a25⟩ := hr_in a23
  rcases Bool.eq_false_or_eq_true (cnt x5 || decide (x5 = 0)) with a26 | a26
  rotate_left
  · rcases hr_out a26 with a27 | a27 <;> simp -implicitDefEqProofs [edOk, h81, h54, cn0, rbt, rbf, cbf, cbt, k80, k82_73, k82_84, k82_78, k82_72, k82_66, a1, a2, a20, a21, a22, a23, a24, a25, a26, a27]
  obtain ⟨a27, a28⟩ := hr_in a26
  rcases Bool.eq_false_or_eq_true (cnt x6 || decide (x6 = 0)) with a29 | a29
  rotate_left
  · rcases hr_out a29 with a30 | a30 <;> simp -implicitDefEqProofs [edOk, h81, h54, cn0, rbt, rbf, cbf, cbt, k80, k82_73, k82_84, k82_78, k82_72, k82_66, a1, a2, a20, a21, a22, a23, a24, a25, a26, a27, a28, a29, a30]
  obtain ⟨a30, a31⟩ := hr_in a29
  by_cases a32 : x7 = 0
  rotate_left
  · simp -implicitDefEqProofs [edOk, h81, h54, cn0, rbt, rbf, cbf, cbt, k80, k82_73, k82_84, k82_78, k82_72, k82_66, a1, a2, a20, a21, a22, a23, a24, a25, a26, a27, a28, a29, a30, a31, a32]
  subst a32
  by_cases a33 : x8 = 0
  rotate_left
  · simp -implicitDefEqProofs [edOk, h81, h54, cn0, rbt, rbf, cbf, cbt, k80, k82_73, k82_84, k82_78, k82_72, k82_66, a1, a2, a20, a21, a22, a23, a24, a25, a26, a27, a28, a29, a30, a31, a33]
  subst a33
  by_cases a34 : x9 = 0
  rotate_left
  · simp -implicitDefEqProofs [edOk, h81, h54, cn0, rbt, rbf, cbf, cbt, k80, k82_73, k82_84, k82_78, k82_72, k82_66, a1, a2, a20, a21, a22, a23, a24, a25, a26, a27, a28, a29, a30, a31, a34]
  subst a34
  by_cases a35 : x10 = []
  rotate_left
  · simp -implicitDefEqProofs [edOk, h81, h54, cn0, rbt, rbf, cbf, cbt, k80, k82_73, k82_84, k82_78, k82_72, k82_66, a1, a2, a20, a21, a22, a23, a24, a25, a26, a27, a28, a29, a30, a31, a35]
  subst a35
  by_cases a36 : x11 = []
  rotate_left
  · simp -implicitDefEqProofs [edOk, h81, h54, cn0, rbt, rbf, cbf, cbt, k80, k82_73, k82_84, k82_78, k82_72, k82_66, a1, a2, a20, a21, a22, a23, a24, a25, a26, a27, a28, a29, a30, a31, a36]
  subst a36
  simp -implicitDefEqProofs [edOk, h81, h54, cn0, rbt, rbf, cbf, cbt, k80, k82_73, k82_84, k82_78, k82_72, k82_66, a1, a2, a20, a21, a22, a23, a24, a25, a26, a27, a28, a29, a30, a31]
theorem f38_9 (x1 x2 x3 x4 x5 x6 x7 x8 x9 : Int) (x10 x11 : List Int) : F38 [⟨.int .i64, 9⟩, ⟨.int .i64, x1⟩, ⟨.int .i64, x2⟩, ⟨.int .i64, x3⟩, ⟨.int .i64, x4⟩, ⟨.int .i64, x5⟩, ⟨.int .i64, x6⟩, ⟨.int .i64, x7⟩, ⟨.int .i64, x8⟩, ⟨.int .i64, x9⟩, ⟨.str, x10⟩, ⟨.str, x11⟩] = some [⟨.bool, edOk 9 x1 x2 x3 x4 x5 x6 x7 x8 x9 x10 x11⟩] := by
  have h80 := s80 (lc := [c80, c82, c81, c54]) rfl
  have h82 := s82 (lc := [c80, c82, c81, c54]) rfl
  have h81 := s81 (lc := [c80, c82, c81, c54]) rfl
  have h54 := s54 (lc := [c80, c82, c81, c54]) rfl
  simp only [F38, Fof, ir38]
  generalize Phi [c80, c82, c81, c54] = Φ at *
  have k80 := h80 9
  rw [show partsL 9 = [73] from rfl] at k80
  have k82_73 := h82 [73] 73 (by decide)
  rw [show decide ((73 : Int) ∈ ([73] : List Int)) = true from by decide] at k82_73
  have k82_84 := h82 [73] 84 (by decide)
  rw [show decide ((84 : Int) ∈ ([73] : List Int)) = false from by decide] at k82_84
  have k82_78 := h82 [73] 78 (by decide)
  rw [show decide ((78 : Int) ∈ ([73] : List Int)) = false from by decide] at k82_78
  have k82_72 := h82 [73] 72 (by decide)
  rw [show decide ((72 : Int) ∈ ([73] : List Int)) = false from by decide] at k82_72
  have k82_66 := h82 [73] 66 (by decide)
  rw [show decide ((66 : Int) ∈ ([73] : List Int)) = false from by decide] at k82_66
  rcases Bool.eq_false_or_eq_true (cnt x2) with a1 | a1
  rotate_left
  · simp -implicitDefEqProofs [edOk, h81, h54, cn0, rbt, rbf, cbf, cbt, k80, k82_73, k82_84, k82_78, k82_72, k82_66, a1]
  by_cases a2 : x3 = 0
  rotate_left
  · simp -implicitDefEqProofs [edOk, h81, h54, cn0, rbt, rbf, cbf, cbt, k80, k82_73, k82_84, k82_78, k82_72, k82_66, a1, a2]
  subst a2
  by_cases a3 : x1 = 0
  rotate_left
  · simp -implicitDefEqProofs [edOk, h81, h54, cn0, rbt, rbf, cbf, cbt, k80, k82_73, k82_84, k82_78, k82_72, k82_66, a1, a3]
  subst a3
  by_cases a4 : x4 = 0
  rotate_left
  · simp -implicitDefEqProofs [edOk, h81, h54, cn0, rbt, rbf, cbf, cbt, k80, k82_73, k82_84, k82_78, k82_72, k82_66, a1, a4]
  subst a4
  by_cases a5 : x5 = 0
  rotate_left
  · simp -implicitDefEqProofs [edOk, h81, h54, cn0, rbt, rbf, cbf, cbt, k80, k82_73, k82_84, k82_78, k82_72, k82_66, a1, a5]
  subst a5
  by_cases a6 : x6 = 0
  rotate_left
  · simp -implicitDefEqProofs [edOk, h81, h54, cn0, rbt, rbf, cbf, cbt, k80, k82_73, k82_84, k82_78, k82_72, k82_66, a1, a6]
  subst a6
  by_cases a7 : x7 = 0
  rotate_left
  · simp -implicitDefEqProofs [edOk, h81, h54, cn0, rbt, rbf, cbf, cbt, k80, k82_73, k82_84, k82_78, k82_72, k82_66, a1, a7]
  subst a7
  by_cases a8 : x8 = 0
  rotate_left
  · simp -implicitDefEqProofs [edOk, h81, h54, cn0, rbt, rbf, cbf, cbt, k80, k82_73, k82_84, k82_78, k82_72, k82_66, a1, a8]
  subst a8
  by_cases a9 : x9 = 0
  rotate_left
  · simp -implicitDefEqProofs [edOk, h81, h54, cn0, rbt, rbf, cbf, cbt, k80, k82_73, k82_84, k82_78, k82_72, k82_66, a1, a9]
  subst a9
  by_cases a10 : x10 = []
  rotate_left
  · simp -implicitDefEqProofs [edOk, h81, h54, cn0, rbt, rbf, cbf, cbt, k80, k82_73, k82_84, k82_78, k82_72, k82_66, a1, a10]
  subst a10
  by_cases a11 : x11 = []
  rotate_left
  · simp -implicitDefEqProofs [edOk, h81, h54, cn0, rbt, rbf, cbf, cbt, k80, k82_73, k82_84, k82_78, k82_72, k82_66, a1, a11]
  subst a11
  simp -implicitDefEqProofs [edOk, h81, h54, cn0, rbt, rbf, cbf, cbt, k80, k82_73, k82_84, k82_78, k82_72, k82_66, a1]
theorem f38_no (k : Int) (x1 x2 x3 x4 x5 x6 x7 x8 x9 : Int) (x10 x11 : List Int) (hk : ¬ (1 ≤ k ∧ k ≤ 9)) : F38 [⟨.int .i64, k⟩, ⟨.int .i64, x1⟩, ⟨.int .i64, x2⟩, ⟨.int .i64, x3⟩, ⟨.int .i64, x4⟩, ⟨.int .i64, x5⟩, ⟨.int .i64, x6⟩, ⟨.int .i64, x7⟩, ⟨.int .i64, x8⟩, ⟨.int .i64, x9⟩, ⟨.str, x10⟩, ⟨.str, x11⟩] = some [⟨.bool, false⟩] := by
  have h80 := s80 (lc := [c80, c82, c81, c54]) rfl
  simp only [F38, Fof, ir38]
  generalize Phi [c80, c82, c81, c54] = Φ at *
  have k80 := h80 k
  have e : partsL k = [] := by
    unfold partsL
    by_cases h1 : k < 1
    · rw [if_pos h1]
    · rw [if_neg h1, if_pos (by omega)]
  rw [e] at k80
  simp -implicitDefEqProofs [k80]
theorem f38 (k : Int) (x1 x2 x3 x4 x5 x6 x7 x8 x9 : Int) (x10 x11 : List Int) : F38 [⟨.int .i64, k⟩, ⟨.int .i64, x1⟩, ⟨.int .i64, x2⟩, ⟨.int .i64, x3⟩, ⟨.int .i64, x4⟩, ⟨.int .i64, x5⟩, ⟨.int .i64, x6⟩, ⟨.int .i64, x7⟩, ⟨.int .i64, x8⟩, ⟨.int .i64, x9⟩, ⟨.str, x10⟩, ⟨.str, x11⟩] = some [⟨.bool, edOk k x1 x2 x3 x4 x5 x6 x7 x8 x9 x10 x11⟩] := by
  by_cases hk : 1 ≤ k ∧ k ≤ 9
  · have : k = 1 ∨ k = 2 ∨ k = 3 ∨ k = 4 ∨ k = 5 ∨ k = 6 ∨ k = 7 ∨ k = 8 ∨ k = 9 := by omega
    rcases this with rfl | rfl | rfl | rfl | rfl | rfl | rfl | rfl | rfl
    · exact f38_1 x1 x2 x3 x4 x5 x6 x7 x8 x9 x10 x11
    · exact f38_2 x1 x2 x3 x4 x5 x6 x7 x8 x9 x10 x11
    · exact f38_3 x1 x2 x3 x4 x5 x6 x7 x8 x9 x10 x11
    · exact f38_4 x1 x2 x3 x4 x5 x6 x7 x8 x9 x10 x11
    · exact f38_5 x1 x2 x3 x4 x5 x6 x7 x8 x9 x10 x11
    · exact f38_6 x1 x2 x3 x4 x5 x6 x7 x8 x9 x10 x11
    · exact f38_7 x1 x2 x3 x4 x5 x6 x7 x8 x9 x10 x11
    · exact f38_8 x1 x2 x3 x4 x5 x6 x7 x8 x9 x10 x11
    · exact f38_9 x1 x2 x3 x4 x5 x6 x7 x8 x9 x10 x11
  · rw [edOk_no k x1 x2 x3 x4 x5 x6 x7 x8 x9 x10 x11 hk]
    exact f38_no k x1 x2 x3 x4 x5 x6 x7 x8 x9 x10 x11 hk
theorem s38 {lc : List Ct} (hl0 : look (lc.map fun c => (c.sig.id, c)) 38 = some c38) : ∀ (k : Int) (x1 x2 x3 x4 x5 x6 x7 x8 x9 : Int) (x10 x11 : List Int), Does1 (Phi lc) 38 [⟨.int .i64, k⟩, ⟨.int .i64, x1⟩, ⟨.int .i64, x2⟩, ⟨.int .i64, x3⟩, ⟨.int .i64, x4⟩, ⟨.int .i64, x5⟩, ⟨.int .i64, x6⟩, ⟨.int .i64, x7⟩, ⟨.int .i64, x8⟩, ⟨.int .i64, x9⟩, ⟨.str, x10⟩, ⟨.str, x11⟩] [⟨.bool, edOk k x1 x2 x3 x4 x5 x6 x7 x8 x9 x10 x11⟩] :=
  fun k x1 x2 x3 x4 x5 x6 x7 x8 x9 x10 x11 => Does1.of hl0 (f38 k x1 x2 x3 x4 x5 x6 x7 x8 x9 x10 x11) rfl
end Go.Proofs.Ytdjknicjnaiomaa.Sx
