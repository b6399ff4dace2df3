/-
  Edits read back from bytes: the texts, and what the program's reader answers.
-/
import Derived.Test.YtdjknicjnaiomaaE2
set_option linter.unusedVariables false
set_option linter.unusedSimpArgs false
/- The texts of the functions that EditGets and EditReads reach. -/
namespace Go.Proofs.Ytdjknicjnaiomaa.Sx
def sig95 : Sig := { id := 95, ins := [(false, (Ty.int .u8).sl)], outs := [(false, [(Ty.int .i64, none)]), (false, [(Ty.int .i64, none)])] }
def ir95 : IR := .op (.call 92) [.v 0] (.op (.icmp .eql) [.v 2, .l (.int .i64 0)] (.ite (.v 3) (.ret [.l (.int .i64 0), .l (.int .i64 0)]) (.op (.icmp .gtr) [.v 1, .l (.int .u64 2147483647)] (.ite (.v 4) (.ret [.l (.int .i64 0), .l (.int .i64 0)]) (.op (.conv .i64) [.v 1] (.ret [.v 5, .v 2]))))))
def sig96 : Sig := { id := 96, ins := [(false, (Ty.int .u8).sl)], outs := [(true, [(Ty.int .i64, none), (Ty.int .i64, none), (Ty.int .i64, none), (Ty.int .i64, none), (Ty.int .i64, none), (Ty.int .i64, none), (Ty.int .i64, none), (Ty.int .i64, none), (Ty.int .i64, none), (Ty.int .i64, none), (Ty.str, none), (Ty.str, none)]), (false, [(Ty.int .i64, none)])] }
def ir96 : IR := .op .len [.v 0] (.op (.icmp .eql) [.v 1, .l (.int .i64 0)] (.ite (.v 2) (.ret [.l (.int .i64 0), .l (.int .i64 0), .l (.int .i64 0), .l (.int .i64 0), .l (.int .i64 0), .l (.int .i64 0), .l (.int .i64 0), .l (.int .i64 0), .l (.int .i64 0), .l (.int .i64 0), .l (.str []), .l (.str []), .l (.int .i64 0)]) (.op .inb [.v 0, .l (.int .i64 0)] (.op (.idx (Ty.int .u8)) [.v 0, .l (.int .i64 0)] (.op (.conv .i64) [.v 3] (.op (.call 80) [.v 4] (.op (.scmp .eql) [.v 5, .l (.str [])] (.ite (.v 6) (.ret [.l (.int .i64 0), .l (.int .i64 0), .l (.int .i64 0), .l (.int .i64 0), .l (.int .i64 0), .l (.int .i64 0), .l (.int .i64 0), .l (.int .i64 0), .l (.int .i64 0), .l (.int .i64 0), .l (.str []), .l (.str []), .l (.int .i64 0)]) (.op .inb [.v 0, .l (.int .i64 0)] (.op (.idx (Ty.int .u8)) [.v 0, .l (.int .i64 0)] (.op (.conv .i64) [.v 7] (.op (.call 80) [.v 8] (.op (.mk (Ty.int .i64) 0) [] (.loop [.v 10, .l (.int .i64 1), .l (.int .i64 0)] [(Ty.int .i64).sl, Ty.int .i64, Ty.int .i64] (.op (.call 127) [.v 8, .l (.int .i64 0), .l (.int .i64 0), .l (.int .i64 0), .l (.int .i64 0), .l (.int .i64 0), .l (.int .i64 0), .l (.int .i64 0), .l (.int .i64 0), .l (.int .i64 0), .l (.str []), .l (.str [])] (.op .len [.v 14] (.op (.icmp .lss) [.v 13, .v 15] (.ite (.v 16) (.op .sub [.v 0, .v 12] (.op (.call 95) [.v 17] (.op (.icmp .eql) [.v 19, .l (.int .i64 0)] (.ite (.v 20) (.ret [.l (.int .i64 0), .l (.int .i64 0), .l (.int .i64 0), .l (.int .i64 0), .l (.int .i64 0), .l (.int .i64 0), .l (.int .i64 0), .l (.int .i64 0), .l (.int .i64 0), .l (.int .i64 0), .l (.str []), .l (.str []), .l (.int .i64 0)]) (.op (.mk (Ty.int .i64) 1) [.v 18] (.op .app [.v 11, .v 21] (.op (.ibin .add .i64) [.v 12, .v 19] (.op (.ibin .add .i64) [.v 13, .l (.int .i64 1)] (.jump 0 [.v 22, .v 23, .v 24]))))))))) (.loop [.l (.int .i64 0), .l (.int .i64 0), .l (.int .i64 0), .l (.int .i64 0), .l (.int .i64 0), .l (.int .i64 0), .l (.int .i64 0), .l (.int .i64 0), .l (.int .i64 0), .l (.int .i64 0), .l (.str []), .l (.str [])] [Ty.int .i64, Ty.int .i64, Ty.int .i64, Ty.int .i64, Ty.int .i64, Ty.int .i64, Ty.int .i64, Ty.int .i64, Ty.int .i64, Ty.int .i64, Ty.str, Ty.str] (.op .len [.v 9] (.op (.icmp .lss) [.v 17, .v 29] (.ite (.v 30) (.op .sidx [.v 9, .v 17] (.op (.icmp .eql) [.v 31, .l (.int .u8 78)] (.ite (.v 32) (.op .inb [.v 11, .v 17] (.op (.idx (Ty.int .i64)) [.v 11, .v 17] (.op (.ibin .add .i64) [.v 17, .l (.int .i64 1)] (.jump 1 [.v 34, .v 33, .v 19, .v 20, .v 21, .v 22, .v 23, .v 24, .v 25, .v 26, .v 27, .v 28])))) (.op (.icmp .eql) [.v 31, .l (.int .u8 73)] (.ite (.v 33) (.op .inb [.v 11, .v 17] (.op (.idx (Ty.int .i64)) [.v 11, .v 17] (.op (.ibin .add .i64) [.v 17, .l (.int .i64 1)] (.jump 1 [.v 35, .v 18, .v 34, .v 20, .v 21, .v 22, .v 23, .v 24, .v 25, .v 26, .v 27, .v 28])))) (.op (.icmp .eql) [.v 31, .l (.int .u8 84)] (.ite (.v 34) (.op .inb [.v 11, .v 17] (.op (.idx (Ty.int .i64)) [.v 11, .v 17] (.op (.ibin .add .i64) [.v 17, .l (.int .i64 1)] (.jump 1 [.v 36, .v 18, .v 19, .v 35, .v 21, .v 22, .v 23, .v 24, .v 25, .v 26, .v 27, .v 28])))) (.op (.icmp .eql) [.v 31, .l (.int .u8 72)] (.ite (.v 35) (.op .inb [.v 11, .v 17] (.op (.idx (Ty.int .i64)) [.v 11, .v 17] (.op (.ibin .add .i64) [.v 17, .l (.int .i64 1)] (.op .inb [.v 11, .v 37] (.op (.idx (Ty.int .i64)) [.v 11, .v 37] (.op (.ibin .add .i64) [.v 17, .l (.int .i64 2)] (.op .inb [.v 11, .v 39] (.op (.idx (Ty.int .i64)) [.v 11, .v 39] (.op (.ibin .add .i64) [.v 17, .l (.int .i64 1)] (.jump 1 [.v 41, .v 18, .v 19, .v 20, .v 36, .v 38, .v 40, .v 24, .v 25, .v 26, .v 27, .v 28])))))))))) (.op (.icmp .eql) [.v 31, .l (.int .u8 66)] (.ite (.v 36) (.op .inb [.v 11, .l (.int .i64 0)] (.op (.idx (Ty.int .i64)) [.v 11, .l (.int .i64 0)] (.op .inb [.v 11, .l (.int .i64 1)] (.op (.idx (Ty.int .i64)) [.v 11, .l (.int .i64 1)] (.op .inb [.v 11, .l (.int .i64 2)] (.op (.idx (Ty.int .i64)) [.v 11, .l (.int .i64 2)] (.op (.ibin .add .i64) [.v 17, .l (.int .i64 1)] (.jump 1 [.v 40, .v 18, .v 19, .v 20, .v 21, .v 22, .v 23, .v 37, .v 38, .v 39, .l (.str []), .l (.str [])])))))))) (.op (.ibin .add .i64) [.v 17, .l (.int .i64 1)] (.jump 1 [.v 37, .v 18, .v 19, .v 20, .v 21, .v 22, .v 23, .v 24, .v 25, .v 26, .v 27, .v 28]))))))))))))) (.loop [.v 12, .l (.int .i64 0), .v 27, .v 28] [Ty.int .i64, Ty.int .i64, Ty.str, Ty.str] (.op (.icmp .lss) [.v 32, .l (.int .i64 2)] (.ite (.v 35) (.op (.icmp .eql) [.v 8, .l (.int .i64 4)] (.ite (.v 36) (.op .sub [.v 0, .v 31] (.op (.call 95) [.v 37] (.op (.icmp .eql) [.v 39, .l (.int .i64 0)] (.ite (.v 40) (.ret [.l (.int .i64 0), .l (.int .i64 0), .l (.int .i64 0), .l (.int .i64 0), .l (.int .i64 0), .l (.int .i64 0), .l (.int .i64 0), .l (.int .i64 0), .l (.int .i64 0), .l (.int .i64 0), .l (.str []), .l (.str []), .l (.int .i64 0)]) (.op .len [.v 0] (.op (.ibin .sub .i64) [.v 41, .v 31] (.op (.ibin .sub .i64) [.v 42, .v 39] (.op (.icmp .gtr) [.v 38, .v 43] (.ite (.v 44) (.ret [.l (.int .i64 0), .l (.int .i64 0), .l (.int .i64 0), .l (.int .i64 0), .l (.int .i64 0), .l (.int .i64 0), .l (.int .i64 0), .l (.int .i64 0), .l (.int .i64 0), .l (.int .i64 0), .l (.str []), .l (.str []), .l (.int .i64 0)]) (.op (.ibin .add .i64) [.v 31, .v 39] (.op (.ibin .add .i64) [.v 31, .v 39] (.op (.ibin .add .i64) [.v 46, .v 38] (.op .sub [.v 0, .v 45, .v 47] (.op .b2s [.v 48] (.op (.ibin .add .i64) [.v 31, .v 39] (.op (.ibin .add .i64) [.v 50, .v 38] (.op (.icmp .eql) [.v 32, .l (.int .i64 0)] (.ite (.v 52) (.op (.ibin .add .i64) [.v 32, .l (.int .i64 1)] (.jump 2 [.v 51, .v 53, .v 49, .v 34])) (.op (.ibin .add .i64) [.v 32, .l (.int .i64 1)] (.jump 2 [.v 51, .v 53, .v 33, .v 49])))))))))))))))))))) (.ret [.v 8, .v 18, .v 19, .v 20, .v 21, .v 22, .v 23, .v 24, .v 25, .v 26, .v 33, .v 34, .v 31]))) (.ret [.v 8, .v 18, .v 19, .v 20, .v 21, .v 22, .v 23, .v 24, .v 25, .v 26, .v 33, .v 34, .v 31]))))))))))))))))))))))))))
def sig46 : Sig := { id := 46, ins := [(false, (Ty.int .u8).sl)], outs := [(false, [(EdT.sl, some 58)])] }
def ir46 : IR := .op (.call 95) [.v 0] (.op (.icmp .eql) [.v 2, .l (.int .i64 0)] (.ite (.v 3) (.ret [.l (.nil EdT)]) (.op (.icmp .gtr) [.v 1, .l (.int .i64 200)] (.ite (.v 4) (.ret [.l (.nil EdT)]) (.op (.mk EdT 0) [] (.loop [.v 2, .v 5, .l (.int .i64 0)] [Ty.int .i64, EdT.sl, Ty.int .i64] (.op (.icmp .lss) [.v 8, .v 1] (.ite (.v 9) (.op .sub [.v 0, .v 6] (.op (.call 96) [.v 10] (.op (.icmp .eql) [.v 23, .l (.int .i64 0)] (.ite (.v 24) (.ret [.l (.nil EdT)]) (.op (.call 38) [.v 11, .v 12, .v 13, .v 14, .v 15, .v 16, .v 17, .v 18, .v 19, .v 20, .v 21, .v 22] (.op .not [.v 25] (.ite (.v 26) (.ret [.l (.nil EdT)]) (.op (.mk EdT 1) [.v 11, .v 12, .v 13, .v 14, .v 15, .v 16, .v 17, .v 18, .v 19, .v 20, .v 21, .v 22] (.op .app [.v 7, .v 27] (.op (.ibin .add .i64) [.v 6, .v 23] (.op (.ibin .add .i64) [.v 8, .l (.int .i64 1)] (.jump 0 [.v 29, .v 28, .v 30])))))))))))) (.op .len [.v 0] (.op (.icmp .neq) [.v 6, .v 10] (.ite (.v 11) (.ret [.l (.nil EdT)]) (.ret [.v 7]))))))))))))
def sig45 : Sig := { id := 45, ins := [(false, (Ty.int .u8).sl)], outs := [(false, [(EdT.sl, some 58)]), (false, [(Ty.int .i64, none)])] }
def ir45 : IR := .op (.call 90) [.v 0] (.op (.icmp .neq) [.v 3, .l (.int .i64 0)] (.ite (.v 4) (.ret [.l (.nil EdT), .l (.int .i64 2)]) (.op (.icmp .gtr) [.v 1, .l (.int .u64 2147483647)] (.ite (.v 5) (.ret [.l (.nil EdT), .l (.int .i64 2)]) (.op .sub [.v 0, .v 2] (.op (.conv .i64) [.v 1] (.loop [.l (.nil EdT), .l (.int .i64 0), .v 6, .l (.bool false)] [EdT.sl, Ty.int .i64, (Ty.int .u8).sl, Ty.bool] (.op (.icmp .lss) [.v 9, .v 7] (.ite (.v 12) (.op .not [.v 11] (.ite (.v 13) (.op .len [.v 10] (.op (.icmp .eql) [.v 14, .l (.int .i64 0)] (.ite (.v 15) (.op (.mk EdT 1) [.l (.int .i64 0), .l (.int .i64 0), .l (.int .i64 0), .l (.int .i64 0), .l (.int .i64 0), .l (.int .i64 0), .l (.int .i64 0), .l (.int .i64 0), .l (.int .i64 0), .l (.int .i64 0), .l (.str []), .l (.str [])] (.op .app [.v 8, .v 16] (.op (.ibin .add .i64) [.v 9, .l (.int .i64 1)] (.jump 0 [.v 17, .v 18, .v 10, .l (.bool true)])))) (.op .inb [.v 10, .l (.int .i64 0)] (.op (.idx (Ty.int .u8)) [.v 10, .l (.int .i64 0)] (.op (.conv .i64) [.v 16] (.op .sub [.v 10, .l (.int .i64 1)] (.op (.icmp .eql) [.v 17, .l (.int .i64 1)] (.ite (.v 19) (.op (.call 90) [.v 18] (.ite (.v 11) (.op (.mk EdT 1) [.v 17, .l (.int .i64 0), .l (.int .i64 0), .l (.int .i64 0), .l (.int .i64 0), .l (.int .i64 0), .l (.int .i64 0), .l (.int .i64 0), .l (.int .i64 0), .l (.int .i64 0), .l (.str []), .l (.str [])] (.op .app [.v 8, .v 23] (.op (.ibin .add .i64) [.v 9, .l (.int .i64 1)] (.jump 0 [.v 24, .v 25, .v 18, .l (.bool true)])))) (.op (.icmp .neq) [.v 22, .l (.int .i64 0)] (.ite (.v 23) (.op (.mk EdT 1) [.v 17, .l (.int .i64 0), .l (.int .i64 0), .l (.int .i64 0), .l (.int .i64 0), .l (.int .i64 0), .l (.int .i64 0), .l (.int .i64 0), .l (.int .i64 0), .l (.int .i64 0), .l (.str []), .l (.str [])] (.op .app [.v 8, .v 24] (.op (.ibin .add .i64) [.v 9, .l (.int .i64 1)] (.jump 0 [.v 25, .v 26, .v 18, .l (.bool true)])))) (.op (.icmp .gtr) [.v 20, .l (.int .u64 2147483647)] (.ite (.v 24) (.op (.mk EdT 1) [.v 17, .l (.int .i64 0), .l (.int .i64 0), .l (.int .i64 0), .l (.int .i64 0), .l (.int .i64 0), .l (.int .i64 0), .l (.int .i64 0), .l (.int .i64 0), .l (.int .i64 0), .l (.str []), .l (.str [])] (.op .app [.v 8, .v 25] (.op (.ibin .add .i64) [.v 9, .l (.int .i64 1)] (.jump 0 [.v 26, .v 27, .v 18, .l (.bool true)])))) (.op .sub [.v 18, .v 21] (.op (.conv .i64) [.v 20] (.op (.call 37) [.v 17, .v 26, .l (.int .i64 0), .l (.int .i64 0), .l (.int .i64 0), .l (.int .i64 0), .l (.int .i64 0), .l (.int .i64 0), .l (.int .i64 0), .l (.int .i64 0), .l (.str []), .l (.str [])] (.op (.icmp .neq) [.v 27, .l (.int .i64 0)] (.op (.mk EdT 1) [.v 17, .v 26, .l (.int .i64 0), .l (.int .i64 0), .l (.int .i64 0), .l (.int .i64 0), .l (.int .i64 0), .l (.int .i64 0), .l (.int .i64 0), .l (.int .i64 0), .l (.str []), .l (.str [])] (.op .app [.v 8, .v 29] (.op (.ibin .add .i64) [.v 9, .l (.int .i64 1)] (.jump 0 [.v 30, .v 31, .v 25, .v 28])))))))))))))) (.op (.icmp .eql) [.v 17, .l (.int .i64 5)] (.ite (.v 20) (.op (.call 90) [.v 18] (.ite (.v 11) (.op (.mk EdT 1) [.v 17, .l (.int .i64 0), .l (.int .i64 0), .l (.int .i64 0), .l (.int .i64 0), .l (.int .i64 0), .l (.int .i64 0), .l (.int .i64 0), .l (.int .i64 0), .l (.int .i64 0), .l (.str []), .l (.str [])] (.op .app [.v 8, .v 24] (.op (.ibin .add .i64) [.v 9, .l (.int .i64 1)] (.jump 0 [.v 25, .v 26, .v 18, .l (.bool true)])))) (.op (.icmp .neq) [.v 23, .l (.int .i64 0)] (.ite (.v 24) (.op (.mk EdT 1) [.v 17, .l (.int .i64 0), .l (.int .i64 0), .l (.int .i64 0), .l (.int .i64 0), .l (.int .i64 0), .l (.int .i64 0), .l (.int .i64 0), .l (.int .i64 0), .l (.int .i64 0), .l (.str []), .l (.str [])] (.op .app [.v 8, .v 25] (.op (.ibin .add .i64) [.v 9, .l (.int .i64 1)] (.jump 0 [.v 26, .v 27, .v 18, .l (.bool true)])))) (.op (.icmp .gtr) [.v 21, .l (.int .u64 2147483647)] (.ite (.v 25) (.op (.mk EdT 1) [.v 17, .l (.int .i64 0), .l (.int .i64 0), .l (.int .i64 0), .l (.int .i64 0), .l (.int .i64 0), .l (.int .i64 0), .l (.int .i64 0), .l (.int .i64 0), .l (.int .i64 0), .l (.str []), .l (.str [])] (.op .app [.v 8, .v 26] (.op (.ibin .add .i64) [.v 9, .l (.int .i64 1)] (.jump 0 [.v 27, .v 28, .v 18, .l (.bool true)])))) (.op .sub [.v 18, .v 22] (.op (.conv .i64) [.v 21] (.op (.call 37) [.v 17, .v 27, .l (.int .i64 0), .l (.int .i64 0), .l (.int .i64 0), .l (.int .i64 0), .l (.int .i64 0), .l (.int .i64 0), .l (.int .i64 0), .l (.int .i64 0), .l (.str []), .l (.str [])] (.op (.icmp .neq) [.v 28, .l (.int .i64 0)] (.op (.mk EdT 1) [.v 17, .v 27, .l (.int .i64 0), .l (.int .i64 0), .l (.int .i64 0), .l (.int .i64 0), .l (.int .i64 0), .l (.int .i64 0), .l (.int .i64 0), .l (.int .i64 0), .l (.str []), .l (.str [])] (.op .app [.v 8, .v 30] (.op (.ibin .add .i64) [.v 9, .l (.int .i64 1)] (.jump 0 [.v 31, .v 32, .v 26, .v 29])))))))))))))) (.op (.icmp .eql) [.v 17, .l (.int .i64 2)] (.ite (.v 21) (.op (.call 90) [.v 18] (.ite (.v 11) (.op (.call 90) [.v 18] (.op (.mk EdT 1) [.v 17, .l (.int .i64 0), .l (.int .i64 0), .l (.int .i64 0), .l (.int .i64 0), .l (.int .i64 0), .l (.int .i64 0), .l (.int .i64 0), .l (.int .i64 0), .l (.int .i64 0), .l (.str []), .l (.str [])] (.op .app [.v 8, .v 28] (.op (.ibin .add .i64) [.v 9, .l (.int .i64 1)] (.jump 0 [.v 29, .v 30, .v 18, .l (.bool true)]))))) (.op (.icmp .neq) [.v 24, .l (.int .i64 0)] (.ite (.v 25) (.op (.call 90) [.v 18] (.op (.mk EdT 1) [.v 17, .l (.int .i64 0), .l (.int .i64 0), .l (.int .i64 0), .l (.int .i64 0), .l (.int .i64 0), .l (.int .i64 0), .l (.int .i64 0), .l (.int .i64 0), .l (.int .i64 0), .l (.str []), .l (.str [])] (.op .app [.v 8, .v 29] (.op (.ibin .add .i64) [.v 9, .l (.int .i64 1)] (.jump 0 [.v 30, .v 31, .v 18, .l (.bool true)]))))) (.op (.icmp .gtr) [.v 22, .l (.int .u64 2147483647)] (.ite (.v 26) (.op (.call 90) [.v 18] (.op (.mk EdT 1) [.v 17, .l (.int .i64 0), .l (.int .i64 0), .l (.int .i64 0), .l (.int .i64 0), .l (.int .i64 0), .l (.int .i64 0), .l (.int .i64 0), .l (.int .i64 0), .l (.int .i64 0), .l (.str []), .l (.str [])] (.op .app [.v 8, .v 30] (.op (.ibin .add .i64) [.v 9, .l (.int .i64 1)] (.jump 0 [.v 31, .v 32, .v 18, .l (.bool true)]))))) (.op .sub [.v 18, .v 23] (.op (.conv .i64) [.v 22] (.op (.call 90) [.v 27] (.op (.icmp .neq) [.v 31, .l (.int .i64 0)] (.ite (.v 32) (.op (.mk EdT 1) [.v 17, .v 28, .l (.int .i64 0), .l (.int .i64 0), .l (.int .i64 0), .l (.int .i64 0), .l (.int .i64 0), .l (.int .i64 0), .l (.int .i64 0), .l (.int .i64 0), .l (.str []), .l (.str [])] (.op .app [.v 8, .v 33] (.op (.ibin .add .i64) [.v 9, .l (.int .i64 1)] (.jump 0 [.v 34, .v 35, .v 27, .l (.bool true)])))) (.op (.icmp .gtr) [.v 29, .l (.int .u64 2147483647)] (.ite (.v 33) (.op (.mk EdT 1) [.v 17, .v 28, .l (.int .i64 0), .l (.int .i64 0), .l (.int .i64 0), .l (.int .i64 0), .l (.int .i64 0), .l (.int .i64 0), .l (.int .i64 0), .l (.int .i64 0), .l (.str []), .l (.str [])] (.op .app [.v 8, .v 34] (.op (.ibin .add .i64) [.v 9, .l (.int .i64 1)] (.jump 0 [.v 35, .v 36, .v 27, .l (.bool true)])))) (.op .sub [.v 27, .v 30] (.op (.conv .i64) [.v 29] (.op (.call 37) [.v 17, .v 28, .v 35, .l (.int .i64 0), .l (.int .i64 0), .l (.int .i64 0), .l (.int .i64 0), .l (.int .i64 0), .l (.int .i64 0), .l (.int .i64 0), .l (.str []), .l (.str [])] (.op (.icmp .neq) [.v 36, .l (.int .i64 0)] (.op (.mk EdT 1) [.v 17, .v 28, .v 35, .l (.int .i64 0), .l (.int .i64 0), .l (.int .i64 0), .l (.int .i64 0), .l (.int .i64 0), .l (.int .i64 0), .l (.int .i64 0), .l (.str []), .l (.str [])] (.op .app [.v 8, .v 38] (.op (.ibin .add .i64) [.v 9, .l (.int .i64 1)] (.jump 0 [.v 39, .v 40, .v 34, .v 37]))))))))))))))))))))) (.op (.icmp .eql) [.v 17, .l (.int .i64 3)] (.ite (.v 22) (.op (.call 90) [.v 18] (.ite (.v 11) (.op (.mk EdT 1) [.v 17, .l (.int .i64 0), .l (.int .i64 0), .l (.int .i64 0), .l (.int .i64 0), .l (.int .i64 0), .l (.int .i64 0), .l (.int .i64 0), .l (.int .i64 0), .l (.int .i64 0), .l (.str []), .l (.str [])] (.op .app [.v 8, .v 26] (.op (.ibin .add .i64) [.v 9, .l (.int .i64 1)] (.jump 0 [.v 27, .v 28, .v 18, .l (.bool true)])))) (.op (.icmp .neq) [.v 25, .l (.int .i64 0)] (.ite (.v 26) (.op (.mk EdT 1) [.v 17, .l (.int .i64 0), .l (.int .i64 0), .l (.int .i64 0), .l (.int .i64 0), .l (.int .i64 0), .l (.int .i64 0), .l (.int .i64 0), .l (.int .i64 0), .l (.int .i64 0), .l (.str []), .l (.str [])] (.op .app [.v 8, .v 27] (.op (.ibin .add .i64) [.v 9, .l (.int .i64 1)] (.jump 0 [.v 28, .v 29, .v 18, .l (.bool true)])))) (.op (.icmp .gtr) [.v 23, .l (.int .u64 2147483647)] (.ite (.v 27) (.op (.mk EdT 1) [.v 17, .l (.int .i64 0), .l (.int .i64 0), .l (.int .i64 0), .l (.int .i64 0), .l (.int .i64 0), .l (.int .i64 0), .l (.int .i64 0), .l (.int .i64 0), .l (.int .i64 0), .l (.str []), .l (.str [])] (.op .app [.v 8, .v 28] (.op (.ibin .add .i64) [.v 9, .l (.int .i64 1)] (.jump 0 [.v 29, .v 30, .v 18, .l (.bool true)])))) (.op .sub [.v 18, .v 24] (.op (.conv .i64) [.v 23] (.op (.call 37) [.v 17, .l (.int .i64 0), .v 29, .l (.int .i64 0), .l (.int .i64 0), .l (.int .i64 0), .l (.int .i64 0), .l (.int .i64 0), .l (.int .i64 0), .l (.int .i64 0), .l (.str []), .l (.str [])] (.op (.icmp .neq) [.v 30, .l (.int .i64 0)] (.op (.mk EdT 1) [.v 17, .l (.int .i64 0), .v 29, .l (.int .i64 0), .l (.int .i64 0), .l (.int .i64 0), .l (.int .i64 0), .l (.int .i64 0), .l (.int .i64 0), .l (.int .i64 0), .l (.str []), .l (.str [])] (.op .app [.v 8, .v 32] (.op (.ibin .add .i64) [.v 9, .l (.int .i64 1)] (.jump 0 [.v 33, .v 34, .v 28, .v 31])))))))))))))) (.op (.icmp .eql) [.v 17, .l (.int .i64 7)] (.ite (.v 23) (.op (.call 90) [.v 18] (.ite (.v 11) (.op (.mk EdT 1) [.v 17, .l (.int .i64 0), .l (.int .i64 0), .l (.int .i64 0), .l (.int .i64 0), .l (.int .i64 0), .l (.int .i64 0), .l (.int .i64 0), .l (.int .i64 0), .l (.int .i64 0), .l (.str []), .l (.str [])] (.op .app [.v 8, .v 27] (.op (.ibin .add .i64) [.v 9, .l (.int .i64 1)] (.jump 0 [.v 28, .v 29, .v 18, .l (.bool true)])))) (.op (.icmp .neq) [.v 26, .l (.int .i64 0)] (.ite (.v 27) (.op (.mk EdT 1) [.v 17, .l (.int .i64 0), .l (.int .i64 0), .l (.int .i64 0), .l (.int .i64 0), .l (.int .i64 0), .l (.int .i64 0), .l (.int .i64 0), .l (.int .i64 0), .l (.int .i64 0), .l (.str []), .l (.str [])] (.op .app [.v 8, .v 28] (.op (.ibin .add .i64) [.v 9, .l (.int .i64 1)] (.jump 0 [.v 29, .v 30, .v 18, .l (.bool true)])))) (.op (.icmp .gtr) [.v 24, .l (.int .u64 2147483647)] (.ite (.v 28) (.op (.mk EdT 1) [.v 17, .l (.int .i64 0), .l (.int .i64 0), .l (.int .i64 0), .l (.int .i64 0), .l (.int .i64 0), .l (.int .i64 0), .l (.int .i64 0), .l (.int .i64 0), .l (.int .i64 0), .l (.str []), .l (.str [])] (.op .app [.v 8, .v 29] (.op (.ibin .add .i64) [.v 9, .l (.int .i64 1)] (.jump 0 [.v 30, .v 31, .v 18, .l (.bool true)])))) (.op .sub [.v 18, .v 25] (.op (.conv .i64) [.v 24] (.op (.call 37) [.v 17, .l (.int .i64 0), .v 30, .l (.int .i64 0), .l (.int .i64 0), .l (.int .i64 0), .l (.int .i64 0), .l (.int .i64 0), .l (.int .i64 0), .l (.int .i64 0), .l (.str []), .l (.str [])] (.op (.icmp .neq) [.v 31, .l (.int .i64 0)] (.op (.mk EdT 1) [.v 17, .l (.int .i64 0), .v 30, .l (.int .i64 0), .l (.int .i64 0), .l (.int .i64 0), .l (.int .i64 0), .l (.int .i64 0), .l (.int .i64 0), .l (.int .i64 0), .l (.str []), .l (.str [])] (.op .app [.v 8, .v 33] (.op (.ibin .add .i64) [.v 9, .l (.int .i64 1)] (.jump 0 [.v 34, .v 35, .v 29, .v 32])))))))))))))) (.op (.icmp .eql) [.v 17, .l (.int .i64 9)] (.ite (.v 24) (.op (.call 90) [.v 18] (.ite (.v 11) (.op (.mk EdT 1) [.v 17, .l (.int .i64 0), .l (.int .i64 0), .l (.int .i64 0), .l (.int .i64 0), .l (.int .i64 0), .l (.int .i64 0), .l (.int .i64 0), .l (.int .i64 0), .l (.int .i64 0), .l (.str []), .l (.str [])] (.op .app [.v 8, .v 28] (.op (.ibin .add .i64) [.v 9, .l (.int .i64 1)] (.jump 0 [.v 29, .v 30, .v 18, .l (.bool true)])))) (.op (.icmp .neq) [.v 27, .l (.int .i64 0)] (.ite (.v 28) (.op (.mk EdT 1) [.v 17, .l (.int .i64 0), .l (.int .i64 0), .l (.int .i64 0), .l (.int .i64 0), .l (.int .i64 0), .l (.int .i64 0), .l (.int .i64 0), .l (.int .i64 0), .l (.int .i64 0), .l (.str []), .l (.str [])] (.op .app [.v 8, .v 29] (.op (.ibin .add .i64) [.v 9, .l (.int .i64 1)] (.jump 0 [.v 30, .v 31, .v 18, .l (.bool true)])))) (.op (.icmp .gtr) [.v 25, .l (.int .u64 2147483647)] (.ite (.v 29) (.op (.mk EdT 1) [.v 17, .l (.int .i64 0), .l (.int .i64 0), .l (.int .i64 0), .l (.int .i64 0), .l (.int .i64 0), .l (.int .i64 0), .l (.int .i64 0), .l (.int .i64 0), .l (.int .i64 0), .l (.str []), .l (.str [])] (.op .app [.v 8, .v 30] (.op (.ibin .add .i64) [.v 9, .l (.int .i64 1)] (.jump 0 [.v 31, .v 32, .v 18, .l (.bool true)])))) (.op .sub [.v 18, .v 26] (.op (.conv .i64) [.v 25] (.op (.call 37) [.v 17, .l (.int .i64 0), .v 31, .l (.int .i64 0), .l (.int .i64 0), .l (.int .i64 0), .l (.int .i64 0), .l (.int .i64 0), .l (.int .i64 0), .l (.int .i64 0), .l (.str []), .l (.str [])] (.op (.icmp .neq) [.v 32, .l (.int .i64 0)] (.op (.mk EdT 1) [.v 17, .l (.int .i64 0), .v 31, .l (.int .i64 0), .l (.int .i64 0), .l (.int .i64 0), .l (.int .i64 0), .l (.int .i64 0), .l (.int .i64 0), .l (.int .i64 0), .l (.str []), .l (.str [])] (.op .app [.v 8, .v 34] (.op (.ibin .add .i64) [.v 9, .l (.int .i64 1)] (.jump 0 [.v 35, .v 36, .v 30, .v 33])))))))))))))) (.op (.icmp .eql) [.v 17, .l (.int .i64 4)] (.ite (.v 25) (.op (.call 90) [.v 18] (.ite (.v 11) (.op (.call 90) [.v 18] (.op (.call 90) [.v 18] (.op (.call 90) [.v 18] (.op (.call 90) [.v 18] (.op (.mk EdT 1) [.v 17, .l (.int .i64 0), .l (.int .i64 0), .l (.int .i64 0), .l (.int .i64 0), .l (.int .i64 0), .l (.int .i64 0), .l (.int .i64 0), .l (.int .i64 0), .l (.int .i64 0), .l (.str []), .l (.str [])] (.op .app [.v 8, .v 41] (.op (.ibin .add .i64) [.v 9, .l (.int .i64 1)] (.jump 0 [.v 42, .v 43, .v 18, .l (.bool true)])))))))) (.op (.icmp .neq) [.v 28, .l (.int .i64 0)] (.ite (.v 29) (.op (.call 90) [.v 18] (.op (.call 90) [.v 18] (.op (.call 90) [.v 18] (.op (.call 90) [.v 18] (.op (.mk EdT 1) [.v 17, .l (.int .i64 0), .l (.int .i64 0), .l (.int .i64 0), .l (.int .i64 0), .l (.int .i64 0), .l (.int .i64 0), .l (.int .i64 0), .l (.int .i64 0), .l (.int .i64 0), .l (.str []), .l (.str [])] (.op .app [.v 8, .v 42] (.op (.ibin .add .i64) [.v 9, .l (.int .i64 1)] (.jump 0 [.v 43, .v 44, .v 18, .l (.bool true)])))))))) (.op (.icmp .gtr) [.v 26, .l (.int .u64 2147483647)] (.ite (.v 30) (.op (.call 90) [.v 18] (.op (.call 90) [.v 18] (.op (.call 90) [.v 18] (.op (.call 90) [.v 18] (.op (.mk EdT 1) [.v 17, .l (.int .i64 0), .l (.int .i64 0), .l (.int .i64 0), .l (.int .i64 0), .l (.int .i64 0), .l (.int .i64 0), .l (.int .i64 0), .l (.int .i64 0), .l (.int .i64 0), .l (.str []), .l (.str [])] (.op .app [.v 8, .v 43] (.op (.ibin .add .i64) [.v 9, .l (.int .i64 1)] (.jump 0 [.v 44, .v 45, .v 18, .l (.bool true)])))))))) (.op .sub [.v 18, .v 27] (.op (.conv .i64) [.v 26] (.op (.call 90) [.v 31] (.op (.icmp .neq) [.v 35, .l (.int .i64 0)] (.ite (.v 36) (.op (.call 90) [.v 31] (.op (.call 90) [.v 31] (.op (.call 90) [.v 31] (.op (.mk EdT 1) [.v 17, .l (.int .i64 0), .l (.int .i64 0), .l (.int .i64 0), .l (.int .i64 0), .l (.int .i64 0), .l (.int .i64 0), .v 32, .l (.int .i64 0), .l (.int .i64 0), .l (.str []), .l (.str [])] (.op .app [.v 8, .v 46] (.op (.ibin .add .i64) [.v 9, .l (.int .i64 1)] (.jump 0 [.v 47, .v 48, .v 31, .l (.bool true)]))))))) (.op (.icmp .gtr) [.v 33, .l (.int .u64 2147483647)] (.ite (.v 37) (.op (.call 90) [.v 31] (.op (.call 90) [.v 31] (.op (.call 90) [.v 31] (.op (.mk EdT 1) [.v 17, .l (.int .i64 0), .l (.int .i64 0), .l (.int .i64 0), .l (.int .i64 0), .l (.int .i64 0), .l (.int .i64 0), .v 32, .l (.int .i64 0), .l (.int .i64 0), .l (.str []), .l (.str [])] (.op .app [.v 8, .v 47] (.op (.ibin .add .i64) [.v 9, .l (.int .i64 1)] (.jump 0 [.v 48, .v 49, .v 31, .l (.bool true)]))))))) (.op .sub [.v 31, .v 34] (.op (.conv .i64) [.v 33] (.op (.call 90) [.v 38] (.op (.icmp .neq) [.v 42, .l (.int .i64 0)] (.ite (.v 43) (.op (.call 90) [.v 38] (.op (.call 90) [.v 38] (.op (.mk EdT 1) [.v 17, .l (.int .i64 0), .l (.int .i64 0), .l (.int .i64 0), .l (.int .i64 0), .l (.int .i64 0), .l (.int .i64 0), .v 32, .v 39, .l (.int .i64 0), .l (.str []), .l (.str [])] (.op .app [.v 8, .v 50] (.op (.ibin .add .i64) [.v 9, .l (.int .i64 1)] (.jump 0 [.v 51, .v 52, .v 38, .l (.bool true)])))))) (.op (.icmp .gtr) [.v 40, .l (.int .u64 2147483647)] (.ite (.v 44) (.op (.call 90) [.v 38] (.op (.call 90) [.v 38] (.op (.mk EdT 1) [.v 17, .l (.int .i64 0), .l (.int .i64 0), .l (.int .i64 0), .l (.int .i64 0), .l (.int .i64 0), .l (.int .i64 0), .v 32, .v 39, .l (.int .i64 0), .l (.str []), .l (.str [])] (.op .app [.v 8, .v 51] (.op (.ibin .add .i64) [.v 9, .l (.int .i64 1)] (.jump 0 [.v 52, .v 53, .v 38, .l (.bool true)])))))) (.op .sub [.v 38, .v 41] (.op (.conv .i64) [.v 40] (.op (.call 90) [.v 45] (.op (.icmp .neq) [.v 49, .l (.int .i64 0)] (.ite (.v 50) (.op (.call 90) [.v 45] (.op (.mk EdT 1) [.v 17, .l (.int .i64 0), .l (.int .i64 0), .l (.int .i64 0), .l (.int .i64 0), .l (.int .i64 0), .l (.int .i64 0), .v 32, .v 39, .v 46, .l (.str []), .l (.str [])] (.op .app [.v 8, .v 54] (.op (.ibin .add .i64) [.v 9, .l (.int .i64 1)] (.jump 0 [.v 55, .v 56, .v 45, .l (.bool true)]))))) (.op (.icmp .gtr) [.v 47, .l (.int .u64 2147483647)] (.ite (.v 51) (.op (.call 90) [.v 45] (.op (.mk EdT 1) [.v 17, .l (.int .i64 0), .l (.int .i64 0), .l (.int .i64 0), .l (.int .i64 0), .l (.int .i64 0), .l (.int .i64 0), .v 32, .v 39, .v 46, .l (.str []), .l (.str [])] (.op .app [.v 8, .v 55] (.op (.ibin .add .i64) [.v 9, .l (.int .i64 1)] (.jump 0 [.v 56, .v 57, .v 45, .l (.bool true)]))))) (.op .sub [.v 45, .v 48] (.op (.conv .i64) [.v 47] (.op .len [.v 52] (.op (.icmp .gtr) [.v 53, .v 54] (.ite (.v 55) (.op (.call 90) [.v 52] (.op (.mk EdT 1) [.v 17, .l (.int .i64 0), .l (.int .i64 0), .l (.int .i64 0), .l (.int .i64 0), .l (.int .i64 0), .l (.int .i64 0), .v 32, .v 39, .v 46, .l (.str []), .l (.str [])] (.op .app [.v 8, .v 59] (.op (.ibin .add .i64) [.v 9, .l (.int .i64 1)] (.jump 0 [.v 60, .v 61, .v 52, .l (.bool true)]))))) (.op .sub [.v 52, .l (.int .i64 0), .v 53] (.op .b2s [.v 56] (.op .sub [.v 52, .v 53] (.op (.call 90) [.v 58] (.op (.icmp .neq) [.v 61, .l (.int .i64 0)] (.ite (.v 62) (.op (.mk EdT 1) [.v 17, .l (.int .i64 0), .l (.int .i64 0), .l (.int .i64 0), .l (.int .i64 0), .l (.int .i64 0), .l (.int .i64 0), .v 32, .v 39, .v 46, .v 57, .l (.str [])] (.op .app [.v 8, .v 63] (.op (.ibin .add .i64) [.v 9, .l (.int .i64 1)] (.jump 0 [.v 64, .v 65, .v 58, .l (.bool true)])))) (.op (.icmp .gtr) [.v 59, .l (.int .u64 2147483647)] (.ite (.v 63) (.op (.mk EdT 1) [.v 17, .l (.int .i64 0), .l (.int .i64 0), .l (.int .i64 0), .l (.int .i64 0), .l (.int .i64 0), .l (.int .i64 0), .v 32, .v 39, .v 46, .v 57, .l (.str [])] (.op .app [.v 8, .v 64] (.op (.ibin .add .i64) [.v 9, .l (.int .i64 1)] (.jump 0 [.v 65, .v 66, .v 58, .l (.bool true)])))) (.op .sub [.v 58, .v 60] (.op (.conv .i64) [.v 59] (.op .len [.v 64] (.op (.icmp .gtr) [.v 65, .v 66] (.ite (.v 67) (.op (.mk EdT 1) [.v 17, .l (.int .i64 0), .l (.int .i64 0), .l (.int .i64 0), .l (.int .i64 0), .l (.int .i64 0), .l (.int .i64 0), .v 32, .v 39, .v 46, .v 57, .l (.str [])] (.op .app [.v 8, .v 68] (.op (.ibin .add .i64) [.v 9, .l (.int .i64 1)] (.jump 0 [.v 69, .v 70, .v 64, .l (.bool true)])))) (.op .sub [.v 64, .l (.int .i64 0), .v 65] (.op .b2s [.v 68] (.op .sub [.v 64, .v 65] (.op (.call 37) [.v 17, .l (.int .i64 0), .l (.int .i64 0), .l (.int .i64 0), .l (.int .i64 0), .l (.int .i64 0), .l (.int .i64 0), .v 32, .v 39, .v 46, .v 57, .v 69] (.op (.icmp .neq) [.v 71, .l (.int .i64 0)] (.op (.mk EdT 1) [.v 17, .l (.int .i64 0), .l (.int .i64 0), .l (.int .i64 0), .l (.int .i64 0), .l (.int .i64 0), .l (.int .i64 0), .v 32, .v 39, .v 46, .v 57, .v 69] (.op .app [.v 8, .v 73] (.op (.ibin .add .i64) [.v 9, .l (.int .i64 1)] (.jump 0 [.v 74, .v 75, .v 70, .v 72])))))))))))))))))))))))))))))))))))))))))))))))))))))) (.op (.icmp .eql) [.v 17, .l (.int .i64 6)] (.ite (.v 26) (.op (.call 90) [.v 18] (.ite (.v 11) (.op (.call 90) [.v 18] (.op (.call 90) [.v 18] (.op (.mk EdT 1) [.v 17, .l (.int .i64 0), .l (.int .i64 0), .l (.int .i64 0), .l (.int .i64 0), .l (.int .i64 0), .l (.int .i64 0), .l (.int .i64 0), .l (.int .i64 0), .l (.int .i64 0), .l (.str []), .l (.str [])] (.op .app [.v 8, .v 36] (.op (.ibin .add .i64) [.v 9, .l (.int .i64 1)] (.jump 0 [.v 37, .v 38, .v 18, .l (.bool true)])))))) (.op (.icmp .neq) [.v 29, .l (.int .i64 0)] (.ite (.v 30) (.op (.call 90) [.v 18] (.op (.call 90) [.v 18] (.op (.mk EdT 1) [.v 17, .l (.int .i64 0), .l (.int .i64 0), .l (.int .i64 0), .l (.int .i64 0), .l (.int .i64 0), .l (.int .i64 0), .l (.int .i64 0), .l (.int .i64 0), .l (.int .i64 0), .l (.str []), .l (.str [])] (.op .app [.v 8, .v 37] (.op (.ibin .add .i64) [.v 9, .l (.int .i64 1)] (.jump 0 [.v 38, .v 39, .v 18, .l (.bool true)])))))) (.op (.icmp .gtr) [.v 27, .l (.int .u64 2147483647)] (.ite (.v 31) (.op (.call 90) [.v 18] (.op (.call 90) [.v 18] (.op (.mk EdT 1) [.v 17, .l (.int .i64 0), .l (.int .i64 0), .l (.int .i64 0), .l (.int .i64 0), .l (.int .i64 0), .l (.int .i64 0), .l (.int .i64 0), .l (.int .i64 0), .l (.int .i64 0), .l (.str []), .l (.str [])] (.op .app [.v 8, .v 38] (.op (.ibin .add .i64) [.v 9, .l (.int .i64 1)] (.jump 0 [.v 39, .v 40, .v 18, .l (.bool true)])))))) (.op .sub [.v 18, .v 28] (.op (.conv .i64) [.v 27] (.op (.call 90) [.v 32] (.op (.icmp .neq) [.v 36, .l (.int .i64 0)] (.ite (.v 37) (.op (.call 90) [.v 32] (.op (.mk EdT 1) [.v 17, .v 33, .l (.int .i64 0), .l (.int .i64 0), .l (.int .i64 0), .l (.int .i64 0), .l (.int .i64 0), .l (.int .i64 0), .l (.int .i64 0), .l (.int .i64 0), .l (.str []), .l (.str [])] (.op .app [.v 8, .v 41] (.op (.ibin .add .i64) [.v 9, .l (.int .i64 1)] (.jump 0 [.v 42, .v 43, .v 32, .l (.bool true)]))))) (.op (.icmp .gtr) [.v 34, .l (.int .u64 2147483647)] (.ite (.v 38) (.op (.call 90) [.v 32] (.op (.mk EdT 1) [.v 17, .v 33, .l (.int .i64 0), .l (.int .i64 0), .l (.int .i64 0), .l (.int .i64 0), .l (.int .i64 0), .l (.int .i64 0), .l (.int .i64 0), .l (.int .i64 0), .l (.str []), .l (.str [])] (.op .app [.v 8, .v 42] (.op (.ibin .add .i64) [.v 9, .l (.int .i64 1)] (.jump 0 [.v 43, .v 44, .v 32, .l (.bool true)]))))) (.op .sub [.v 32, .v 35] (.op (.conv .i64) [.v 34] (.op (.call 90) [.v 39] (.op (.icmp .neq) [.v 43, .l (.int .i64 0)] (.ite (.v 44) (.op (.mk EdT 1) [.v 17, .v 33, .v 40, .l (.int .i64 0), .l (.int .i64 0), .l (.int .i64 0), .l (.int .i64 0), .l (.int .i64 0), .l (.int .i64 0), .l (.int .i64 0), .l (.str []), .l (.str [])] (.op .app [.v 8, .v 45] (.op (.ibin .add .i64) [.v 9, .l (.int .i64 1)] (.jump 0 [.v 46, .v 47, .v 39, .l (.bool true)])))) (.op (.icmp .gtr) [.v 41, .l (.int .u64 2147483647)] (.ite (.v 45) (.op (.mk EdT 1) [.v 17, .v 33, .v 40, .l (.int .i64 0), .l (.int .i64 0), .l (.int .i64 0), .l (.int .i64 0), .l (.int .i64 0), .l (.int .i64 0), .l (.int .i64 0), .l (.str []), .l (.str [])] (.op .app [.v 8, .v 46] (.op (.ibin .add .i64) [.v 9, .l (.int .i64 1)] (.jump 0 [.v 47, .v 48, .v 39, .l (.bool true)])))) (.op .sub [.v 39, .v 42] (.op (.conv .i64) [.v 41] (.op (.call 37) [.v 17, .v 33, .v 40, .v 47, .l (.int .i64 0), .l (.int .i64 0), .l (.int .i64 0), .l (.int .i64 0), .l (.int .i64 0), .l (.int .i64 0), .l (.str []), .l (.str [])] (.op (.icmp .neq) [.v 48, .l (.int .i64 0)] (.op (.mk EdT 1) [.v 17, .v 33, .v 40, .v 47, .l (.int .i64 0), .l (.int .i64 0), .l (.int .i64 0), .l (.int .i64 0), .l (.int .i64 0), .l (.int .i64 0), .l (.str []), .l (.str [])] (.op .app [.v 8, .v 50] (.op (.ibin .add .i64) [.v 9, .l (.int .i64 1)] (.jump 0 [.v 51, .v 52, .v 46, .v 49])))))))))))))))))))))))))))) (.op (.icmp .eql) [.v 17, .l (.int .i64 8)] (.ite (.v 27) (.op (.call 90) [.v 18] (.ite (.v 11) (.op (.call 90) [.v 18] (.op (.call 90) [.v 18] (.op (.call 90) [.v 18] (.op (.call 90) [.v 18] (.op (.call 90) [.v 18] (.op (.mk EdT 1) [.v 17, .l (.int .i64 0), .l (.int .i64 0), .l (.int .i64 0), .l (.int .i64 0), .l (.int .i64 0), .l (.int .i64 0), .l (.int .i64 0), .l (.int .i64 0), .l (.int .i64 0), .l (.str []), .l (.str [])] (.op .app [.v 8, .v 46] (.op (.ibin .add .i64) [.v 9, .l (.int .i64 1)] (.jump 0 [.v 47, .v 48, .v 18, .l (.bool true)]))))))))) (.op (.icmp .neq) [.v 30, .l (.int .i64 0)] (.ite (.v 31) (.op (.call 90) [.v 18] (.op (.call 90) [.v 18] (.op (.call 90) [.v 18] (.op (.call 90) [.v 18] (.op (.call 90) [.v 18] (.op (.mk EdT 1) [.v 17, .l (.int .i64 0), .l (.int .i64 0), .l (.int .i64 0), .l (.int .i64 0), .l (.int .i64 0), .l (.int .i64 0), .l (.int .i64 0), .l (.int .i64 0), .l (.int .i64 0), .l (.str []), .l (.str [])] (.op .app [.v 8, .v 47] (.op (.ibin .add .i64) [.v 9, .l (.int .i64 1)] (.jump 0 [.v 48, .v 49, .v 18, .l (.bool true)]))))))))) (.op (.icmp .gtr) [.v 28, .l (.int .u64 2147483647)] (.ite (.v 32) (.op (.call 90) [.v 18] (.op (.call 90) [.v 18] (.op (.call 90) [.v 18] (.op (.call 90) [.v 18] (.op (.call 90) [.v 18] (.op (.mk EdT 1) [.v 17, .l (.int .i64 0), .l (.int .i64 0), .l (.int .i64 0), .l (.int .i64 0), .l (.int .i64 0), .l (.int .i64 0), .l (.int .i64 0), .l (.int .i64 0), .l (.int .i64 0), .l (.str []), .l (.str [])] (.op .app [.v 8, .v 48] (.op (.ibin .add .i64) [.v 9, .l (.int .i64 1)] (.jump 0 [.v 49, .v 50, .v 18, .l (.bool true)]))))))))) (.op .sub [.v 18, .v 29] (.op (.conv .i64) [.v 28] (.op (.call 90) [.v 33] (.op (.icmp .neq) [.v 37, .l (.int .i64 0)] (.ite (.v 38) (.op (.call 90) [.v 33] (.op (.call 90) [.v 33] (.op (.call 90) [.v 33] (.op (.call 90) [.v 33] (.op (.mk EdT 1) [.v 17, .v 34, .l (.int .i64 0), .l (.int .i64 0), .l (.int .i64 0), .l (.int .i64 0), .l (.int .i64 0), .l (.int .i64 0), .l (.int .i64 0), .l (.int .i64 0), .l (.str []), .l (.str [])] (.op .app [.v 8, .v 51] (.op (.ibin .add .i64) [.v 9, .l (.int .i64 1)] (.jump 0 [.v 52, .v 53, .v 33, .l (.bool true)])))))))) (.op (.icmp .gtr) [.v 35, .l (.int .u64 2147483647)] (.ite (.v 39) (.op (.call 90) [.v 33] (.op (.call 90) [.v 33] (.op (.call 90) [.v 33] (.op (.call 90) [.v 33] (.op (.mk EdT 1) [.v 17, .v 34, .l (.int .i64 0), .l (.int .i64 0), .l (.int .i64 0), .l (.int .i64 0), .l (.int .i64 0), .l (.int .i64 0), .l (.int .i64 0), .l (.int .i64 0), .l (.str []), .l (.str [])] (.op .app [.v 8, .v 52] (.op (.ibin .add .i64) [.v 9, .l (.int .i64 1)] (.jump 0 [.v 53, .v 54, .v 33, .l (.bool true)])))))))) (.op .sub [.v 33, .v 36] (.op (.conv .i64) [.v 35] (.op (.call 90) [.v 40] (.op (.icmp .neq) [.v 44, .l (.int .i64 0)] (.ite (.v 45) (.op (.call 90) [.v 40] (.op (.call 90) [.v 40] (.op (.call 90) [.v 40] (.op (.mk EdT 1) [.v 17, .v 34, .v 41, .l (.int .i64 0), .l (.int .i64 0), .l (.int .i64 0), .l (.int .i64 0), .l (.int .i64 0), .l (.int .i64 0), .l (.int .i64 0), .l (.str []), .l (.str [])] (.op .app [.v 8, .v 55] (.op (.ibin .add .i64) [.v 9, .l (.int .i64 1)] (.jump 0 [.v 56, .v 57, .v 40, .l (.bool true)]))))))) (.op (.icmp .gtr) [.v 42, .l (.int .u64 2147483647)] (.ite (.v 46) (.op (.call 90) [.v 40] (.op (.call 90) [.v 40] (.op (.call 90) [.v 40] (.op (.mk EdT 1) [.v 17, .v 34, .v 41, .l (.int .i64 0), .l (.int .i64 0), .l (.int .i64 0), .l (.int .i64 0), .l (.int .i64 0), .l (.int .i64 0), .l (.int .i64 0), .l (.str []), .l (.str [])] (.op .app [.v 8, .v 56] (.op (.ibin .add .i64) [.v 9, .l (.int .i64 1)] (.jump 0 [.v 57, .v 58, .v 40, .l (.bool true)]))))))) (.op .sub [.v 40, .v 43] (.op (.conv .i64) [.v 42] (.op (.call 90) [.v 47] (.op (.icmp .neq) [.v 51, .l (.int .i64 0)] (.ite (.v 52) (.op (.call 90) [.v 47] (.op (.call 90) [.v 47] (.op (.mk EdT 1) [.v 17, .v 34, .v 41, .v 48, .l (.int .i64 0), .l (.int .i64 0), .l (.int .i64 0), .l (.int .i64 0), .l (.int .i64 0), .l (.int .i64 0), .l (.str []), .l (.str [])] (.op .app [.v 8, .v 59] (.op (.ibin .add .i64) [.v 9, .l (.int .i64 1)] (.jump 0 [.v 60, .v 61, .v 47, .l (.bool true)])))))) (.op (.icmp .gtr) [.v 49, .l (.int .u64 2147483647)] (.ite (.v 53) (.op (.call 90) [.v 47] (.op (.call 90) [.v 47] (.op (.mk EdT 1) [.v 17, .v 34, .v 41, .v 48, .l (.int .i64 0), .l (.int .i64 0), .l (.int .i64 0), .l (.int .i64 0), .l (.int .i64 0), .l (.int .i64 0), .l (.str []), .l (.str [])] (.op .app [.v 8, .v 60] (.op (.ibin .add .i64) [.v 9, .l (.int .i64 1)] (.jump 0 [.v 61, .v 62, .v 47, .l (.bool true)])))))) (.op .sub [.v 47, .v 50] (.op (.conv .i64) [.v 49] (.op (.call 90) [.v 54] (.op (.icmp .neq) [.v 58, .l (.int .i64 0)] (.ite (.v 59) (.op (.call 90) [.v 54] (.op (.mk EdT 1) [.v 17, .v 34, .v 41, .v 48, .v 55, .l (.int .i64 0), .l (.int .i64 0), .l (.int .i64 0), .l (.int .i64 0), .l (.int .i64 0), .l (.str []), .l (.str [])] (.op .app [.v 8, .v 63] (.op (.ibin .add .i64) [.v 9, .l (.int .i64 1)] (.jump 0 [.v 64, .v 65, .v 54, .l (.bool true)]))))) (.op (.icmp .gtr) [.v 56, .l (.int .u64 2147483647)] (.ite (.v 60) (.op (.call 90) [.v 54] (.op (.mk EdT 1) [.v 17, .v 34, .v 41, .v 48, .v 55, .l (.int .i64 0), .l (.int .i64 0), .l (.int .i64 0), .l (.int .i64 0), .l (.int .i64 0), .l (.str []), .l (.str [])] (.op .app [.v 8, .v 64] (.op (.ibin .add .i64) [.v 9, .l (.int .i64 1)] (.jump 0 [.v 65, .v 66, .v 54, .l (.bool true)]))))) (.op .sub [.v 54, .v 57] (.op (.conv .i64) [.v 56] (.op (.call 90) [.v 61] (.op (.icmp .neq) [.v 65, .l (.int .i64 0)] (.ite (.v 66) (.op (.mk EdT 1) [.v 17, .v 34, .v 41, .v 48, .v 55, .v 62, .l (.int .i64 0), .l (.int .i64 0), .l (.int .i64 0), .l (.int .i64 0), .l (.str []), .l (.str [])] (.op .app [.v 8, .v 67] (.op (.ibin .add .i64) [.v 9, .l (.int .i64 1)] (.jump 0 [.v 68, .v 69, .v 61, .l (.bool true)])))) (.op (.icmp .gtr) [.v 63, .l (.int .u64 2147483647)] (.ite (.v 67) (.op (.mk EdT 1) [.v 17, .v 34, .v 41, .v 48, .v 55, .v 62, .l (.int .i64 0), .l (.int .i64 0), .l (.int .i64 0), .l (.int .i64 0), .l (.str []), .l (.str [])] (.op .app [.v 8, .v 68] (.op (.ibin .add .i64) [.v 9, .l (.int .i64 1)] (.jump 0 [.v 69, .v 70, .v 61, .l (.bool true)])))) (.op .sub [.v 61, .v 64] (.op (.conv .i64) [.v 63] (.op (.call 37) [.v 17, .v 34, .v 41, .v 48, .v 55, .v 62, .v 69, .l (.int .i64 0), .l (.int .i64 0), .l (.int .i64 0), .l (.str []), .l (.str [])] (.op (.icmp .neq) [.v 70, .l (.int .i64 0)] (.op (.mk EdT 1) [.v 17, .v 34, .v 41, .v 48, .v 55, .v 62, .v 69, .l (.int .i64 0), .l (.int .i64 0), .l (.int .i64 0), .l (.str []), .l (.str [])] (.op .app [.v 8, .v 72] (.op (.ibin .add .i64) [.v 9, .l (.int .i64 1)] (.jump 0 [.v 73, .v 74, .v 68, .v 71]))))))))))))))))))))))))))))))))))))))))))))))))) (.ite (.v 11) (.op (.mk EdT 1) [.v 17, .l (.int .i64 0), .l (.int .i64 0), .l (.int .i64 0), .l (.int .i64 0), .l (.int .i64 0), .l (.int .i64 0), .l (.int .i64 0), .l (.int .i64 0), .l (.int .i64 0), .l (.str []), .l (.str [])] (.op .app [.v 8, .v 28] (.op (.ibin .add .i64) [.v 9, .l (.int .i64 1)] (.jump 0 [.v 29, .v 30, .v 18, .l (.bool true)])))) (.op (.call 37) [.v 17, .l (.int .i64 0), .l (.int .i64 0), .l (.int .i64 0), .l (.int .i64 0), .l (.int .i64 0), .l (.int .i64 0), .l (.int .i64 0), .l (.int .i64 0), .l (.int .i64 0), .l (.str []), .l (.str [])] (.op (.icmp .neq) [.v 28, .l (.int .i64 0)] (.op (.mk EdT 1) [.v 17, .l (.int .i64 0), .l (.int .i64 0), .l (.int .i64 0), .l (.int .i64 0), .l (.int .i64 0), .l (.int .i64 0), .l (.int .i64 0), .l (.int .i64 0), .l (.int .i64 0), .l (.str []), .l (.str [])] (.op .app [.v 8, .v 30] (.op (.ibin .add .i64) [.v 9, .l (.int .i64 1)] (.jump 0 [.v 31, .v 32, .v 18, .v 29])))))))))))))))))))))))))))))))) (.ite (.v 11) (.ret [.l (.nil EdT), .l (.int .i64 2)]) (.op .len [.v 10] (.op (.icmp .gtr) [.v 14, .l (.int .i64 0)] (.ite (.v 15) (.ret [.l (.nil EdT), .l (.int .i64 2)]) (.op (.icmp .lss) [.v 7, .l (.int .i64 1)] (.ite (.v 16) (.ret [.l (.nil EdT), .l (.int .i64 2)]) (.op (.icmp .gtr) [.v 7, .l (.int .i64 200)] (.ite (.v 17) (.ret [.l (.nil EdT), .l (.int .i64 2)]) (.ret [.v 8, .l (.int .i64 0)]))))))))))) (.ite (.v 11) (.ret [.l (.nil EdT), .l (.int .i64 2)]) (.op .len [.v 10] (.op (.icmp .gtr) [.v 13, .l (.int .i64 0)] (.ite (.v 14) (.ret [.l (.nil EdT), .l (.int .i64 2)]) (.op (.icmp .lss) [.v 7, .l (.int .i64 1)] (.ite (.v 15) (.ret [.l (.nil EdT), .l (.int .i64 2)]) (.op (.icmp .gtr) [.v 7, .l (.int .i64 200)] (.ite (.v 16) (.ret [.l (.nil EdT), .l (.int .i64 2)]) (.ret [.v 8, .l (.int .i64 0)]))))))))))))))))))
def sig9 : Sig := { id := 9, ins := [(false, (Ty.int .u8).sl)], outs := [(false, [(Ty.bool, none)])] }
def ir9 : IR := .op .len [.v 0] (.op (.icmp .gtr) [.v 1, .l (.int .i64 3000)] (.ite (.v 2) (.op (.call 36) [] (.ret [.v 3])) (.op (.mk (Ty.int .u8) 0) [] (.op .app [.v 3, .v 0] (.op (.call 45) [.v 4] (.op (.call 46) [.v 0] (.op (.call 41) [.v 5, .v 7] (.ite (.v 8) (.op (.icmp .eql) [.v 6, .l (.int .i64 0)] (.op .len [.v 7] (.op (.icmp .gtr) [.v 10, .l (.int .i64 0)] (.op (.bcmp .eql) [.v 9, .v 11] (.ite (.v 12) (.op (.icmp .eql) [.v 6, .l (.int .i64 2)] (.op .len [.v 7] (.op (.icmp .eql) [.v 14, .l (.int .i64 0)] (.op (.bcmp .eql) [.v 13, .v 15] (.ite (.v 16) (.op (.call 36) [] (.ret [.v 17])) (.ret [.l (.bool false)])))))) (.ret [.l (.bool false)])))))) (.ret [.l (.bool false)])))))))))
def sig10 : Sig := { id := 10, ins := [(false, EdT.sl), (false, (Ty.int .u8).sl)], outs := [(false, [(Ty.bool, none)])] }
def ir10 : IR := .op (.call 35) [.v 0] (.op .not [.v 2] (.ite (.v 3) (.op (.call 36) [] (.ret [.v 4])) (.op .len [.v 1] (.op (.icmp .gtr) [.v 4, .l (.int .i64 3000)] (.ite (.v 5) (.op (.call 36) [] (.ret [.v 6])) (.op (.call 39) [.v 0] (.op (.icmp .neq) [.v 7, .l (.int .i64 0)] (.ite (.v 8) (.op (.call 36) [] (.ret [.v 9])) (.op (.call 45) [.v 6] (.op (.call 45) [.v 1] (.op (.icmp .eql) [.v 10, .l (.int .i64 0)] (.ite (.v 13) (.op (.call 40) [.v 9, .v 0] (.ite (.v 14) (.op (.call 41) [.v 9, .v 0] (.ite (.v 15) (.op (.icmp .neq) [.v 12, .l (.int .i64 0)] (.ite (.v 16) (.op (.call 36) [] (.ret [.v 17])) (.op (.call 41) [.v 11, .v 0] (.op .not [.v 17] (.ite (.v 18) (.op (.call 36) [] (.ret [.v 19])) (.op (.call 21) [.v 1, .v 6] (.ite (.v 19) (.op (.call 36) [] (.ret [.v 20])) (.ret [.l (.bool false)])))))))) (.ret [.l (.bool false)]))) (.ret [.l (.bool false)]))) (.ret [.l (.bool false)])))))))))))))
noncomputable def F95 : List D → Option (List D) := Fof [c92] ir95
noncomputable def c95 : Ct := ⟨sig95, F95⟩
noncomputable def F96 : List D → Option (List D) := Fof [c80, c127, c95] ir96
noncomputable def c96 : Ct := ⟨sig96, F96⟩
noncomputable def F46 : List D → Option (List D) := Fof [c95, c96, c38] ir46
noncomputable def c46 : Ct := ⟨sig46, F46⟩
noncomputable def F45 : List D → Option (List D) := Fof [c90, c37] ir45
noncomputable def c45 : Ct := ⟨sig45, F45⟩
noncomputable def F9 : List D → Option (List D) := Fof [c36, c45, c46, c41] ir9
noncomputable def c9 : Ct := ⟨sig9, F9⟩
noncomputable def F10 : List D → Option (List D) := Fof [c35, c36, c39, c45, c40, c41, c21] ir10
noncomputable def c10 : Ct := ⟨sig10, F10⟩
end Go.Proofs.Ytdjknicjnaiomaa.Sx

set_option maxHeartbeats 8000000
/- Edits read back from bytes. -/
namespace Go.Proofs.Ytdjknicjnaiomaa.Sx
attribute [local simp ↓] den_start deb_op deb_ret deb_jump deb_itev deb_itel deb_loop deb_fail deb_nilcv
attribute [local simp] nilE_some opE_some debP_nil debP_cons pushL_nil pushL_cons retE_some iteE_some evB_nil evB_v evB_l lkE_cons consE_some d_int d_bool d_str d_nil o_add o_sub o_mul o_and o_or o_xor o_andNot o_quo o_rem o_shl o_shr o_eql o_neq o_lss o_leq o_gtr o_geq o_seql o_sneq o_slss o_sleq o_sgtr o_sgeq o_beql o_bneq o_scat o_not o_neg o_com o_conv o_s2b o_b2s o_len o_slen o_inb o_idx o_sidx o_sub3 o_sub2 o_ssub3 o_ssub2 o_app o_apps o_mk mkE_some consD_some mkD_zero mkD_int mkD_str mkD_sl o_imin o_imax o_smin o_smax o_eqs eqsE_some eqC_nil andE_some eqC_int eqC_bool eqC_str j1 outE_some outE_none outE_ite agE_1 loopE_1 agE_2 loopE_2 agE_3 loopE_3 agE_4 loopE_4 agE_5 loopE_5 agE_6 loopE_6 agE_7 loopE_7 agE_8 loopE_8 agE_9 loopE_9 List.cons_append List.nil_append List.append_nil split List.take_succ_cons List.take_zero List.drop_succ_cons List.drop_zero

def numT (b : List Int) : Option (Int × List Int) := if gvN b = 0 ∨ 2147483647 < gvV b then none else some (gvV b, b.drop (gvN b))
def numTs : Nat → List Int → Option (List Int × List Int)
  | 0, b => some ([], b)
  | n + 1, b => match numT b with
    | some (v, r) => (match numTs n r with
      | some (vs, r') => some (v :: vs, r')
      | none => none)
    | none => none
def textT (b : List Int) : Option (List Int × List Int) := match numT b with
  | some (n, r) => if (r.length : Int) < n then none else some (r.take n.toNat, r.drop n.toNat)
  | none => none
def cntN (k : Int) : Nat := [0, 1, 2, 1, 3, 1, 3, 1, 6, 1].getD k.toNat 0
def edOf (k : Int) (ns f l : List Int) : Ed :=
  (k, if k = 1 ∨ k = 2 ∨ k = 5 ∨ k = 6 ∨ k = 8 then ns.getD 0 0 else 0, if k = 2 ∨ k = 6 ∨ k = 8 then ns.getD 1 0 else if k = 3 ∨ k = 7 ∨ k = 9 then ns.getD 0 0 else 0,
    if k = 6 ∨ k = 8 then ns.getD 2 0 else 0, (if k = 8 then ns.getD 3 0 else 0, if k = 8 then ns.getD 4 0 else 0, if k = 8 then ns.getD 5 0 else 0),
    if k = 4 then ns.getD 0 0 else 0, if k = 4 then ns.getD 1 0 else 0, if k = 4 then ns.getD 2 0 else 0, f, l)
def rawK (k : Int) (r : List Int) : Option (Ed × List Int) := match numTs (cntN k) r with
  | none => none
  | some (ns, r1) => if k = 4 then (match textT r1 with
      | none => none
      | some (f, r2) => match textT r2 with
        | none => none
        | some (l, r3) => some (edOf k ns f l, r3))
    else some (edOf k ns [] [], r1)
def rawT : List Int → Option (Ed × List Int)
  | [] => none
  | k :: r => if 1 ≤ k ∧ k ≤ 9 then rawK k r else none
def editT (b : List Int) : Option (Ed × List Int) := match rawT b with
  | some (e, r) => if okE e = true then some (e, r) else none
  | none => none
def editsT : Nat → List Int → Option (List Ed × List Int)
  | 0, b => some ([], b)
  | n + 1, b => match editT b with
    | some (e, r) => (match editsT n r with
      | some (es, r') => some (e :: es, r')
      | none => none)
    | none => none
def getT (b : List Int) : Option (List Ed) := match numT b with
  | none => none
  | some (n, r) => match editsT n.toNat r with
    | some (l, []) => if 1 ≤ n ∧ n ≤ 200 then some l else none
    | _ => none
def resG : Option (List Ed) → List D
  | some l => [⟨.sl EdT, l⟩, ⟨.int .i64, 0⟩]
  | none => [⟨.sl EdT, ([] : List Ed)⟩, ⟨.int .i64, 2⟩]
def finG (n : Int) (o : Option (List Ed × List Int)) (l : List Ed) : List D := match o with
  | some (xs, []) => if 1 ≤ n ∧ n ≤ 200 then resG (some (l ++ xs)) else resG none
  | _ => resG none

theorem numT_cases {R : List Int} (hb : ∀ c ∈ R, 0 ≤ c ∧ c < 256) : (numT R = none ∧ gvN R = 0) ∨ (numT R = none ∧ ¬ gvN R = 0 ∧ 2147483647 < gvV R) ∨
    (∃ v g, numT R = some (v, R.drop g) ∧ gvV R = v ∧ gvN R = g ∧ 0 ≤ v ∧ v ≤ 2147483647 ∧ ¬ g = 0 ∧ g ≤ R.length) := by
  have hr := gv_range hb
  unfold numT
  by_cases h1 : gvN R = 0
  · exact .inl ⟨if_pos (.inl h1), h1⟩
  by_cases h2 : 2147483647 < gvV R
  · exact .inr (.inl ⟨if_pos (.inr h2), h1, h2⟩)
  · exact .inr (.inr ⟨_, _, if_neg (by omega), rfl, rfl, hr.1, by omega, h1, hr.2.2.2⟩)

theorem iter_meas3 {σ R : Type} {step : σ → Option (LS σ R)} (μ : σ → Nat) (f : σ → R) (Inv Bad : σ → Prop) (r : R) {s : σ} (h0 : Inv s) (hbad : ∀ s, Bad s → step s = some (.out r))
    (h : ∀ s, Inv s → (∃ s', step s = some (.again s') ∧ Inv s' ∧ μ s' < μ s ∧ f s = f s') ∨ step s = some (.out (f s)) ∨ (f s = r ∧ ∃ s', step s = some (.again s') ∧ Bad s')) : iter step s = some (f s) := by
  have key : ∀ (n : Nat) (s : σ), μ s ≤ n → Inv s → iter step s = some (f s) := by
    intro n
    induction n with
    | zero =>
      intro s hn hi
      rcases h s hi with ⟨s', h1, h2, h3, h4⟩ | h1 | ⟨h1, s', h2, h3⟩
      · omega
      · exact iter_out h1
      · rw [h1]; exact (iter_again h2).trans (iter_out (hbad s' h3))
    | succ n ih =>
      intro s hn hi
      rcases h s hi with ⟨s', h1, h2, h3, h4⟩ | h1 | ⟨h1, s', h2, h3⟩
      · rw [h4]; exact (iter_again h1).trans (ih s' (by omega) h2)
      · exact iter_out h1
      · rw [h1]; exact (iter_again h2).trans (iter_out (hbad s' h3))
  exact key _ s (Nat.le_refl _) h0

theorem f45 (b : List Int) (hb : ∀ c ∈ b, 0 ≤ c ∧ c < 256) (hl : b.length < 10000000000) : F45 [⟨.sl (.int .u8), b⟩] = some (resG (getT b)) := by
  have h90 := s90 (lc := [c90, c37]) rfl
  have h37 := s37 (lc := [c90, c37]) rfl
  simp only [F45, Fof, ir45]
  generalize Phi [c90, c37] = Φ at *
  have k0 := h90 b hb
  have hmk : ∀ (a0 a1 a2 a3 a4 a5 a6 a7 a8 a9 : Int) (a10 a11 : List Int), mkD EdT 1 [⟨.int .i64, a0⟩, ⟨.int .i64, a1⟩, ⟨.int .i64, a2⟩, ⟨.int .i64, a3⟩, ⟨.int .i64, a4⟩, ⟨.int .i64, a5⟩, ⟨.int .i64, a6⟩, ⟨.int .i64, a7⟩, ⟨.int .i64, a8⟩, ⟨.int .i64, a9⟩, ⟨.str, a10⟩, ⟨.str, a11⟩] = some ⟨.sl EdT, [(a0, a1, a2, a3, (a4, a5, a6), a7, a8, a9, a10, a11)]⟩ := fun _ _ _ _ _ _ _ _ _ _ _ _ => rfl
  unfold getT
  rcases numT_cases hb with ⟨t, hz⟩ | ⟨t, hz, hv⟩ | ⟨n, g, t, ev, eg, v0, v1, g0, g1⟩
  · rw [t]
    rw [if_pos hz] at k0
    simp -implicitDefEqProofs [k0, resG]
  · rw [t]
    rw [if_neg hz] at k0
    simp -implicitDefEqProofs [k0, hv, resG]
  rw [t]
  rw [ev, eg, if_neg g0] at k0
  have wn : IntKind.i64.wrap n = n := wi64 _ (by omega) (by omega)
  have hnv : ¬ 2147483647 < n := by omega
  have hfin : resG (match editsT n.toNat (b.drop g) with | some (l, []) => if 1 ≤ n ∧ n ≤ 200 then some l else none | _ => none) = finG n (editsT n.toNat (b.drop g)) [] := by
    unfold finG
    split <;> rename_i h <;> simp [h]
    split <;> rfl
  simp only
  rw [hfin]
  have hb1 : ∀ c ∈ b.drop g, 0 ≤ c ∧ c < 256 := fun c hc => hb c (List.mem_of_mem_drop hc)
  have hl1 : (b.drop g).length < 10000000000 := by rw [List.length_drop]; omega
  simp -implicitDefEqProofs [k0, hnv, g1, wn]
  generalize b.drop g = b0 at *
  refine (iter_meas3 (fun s : List Ed × Int × List Int × Bool => (n - s.2.1).toNat) (fun s => if s.2.2.2 = true then resG none else finG n (editsT (n - s.2.1).toNat s.2.2.1) s.1)
    (fun s => (∀ c ∈ s.2.2.1, 0 ≤ c ∧ c < 256) ∧ s.2.2.1.length < 10000000000 ∧ 0 ≤ s.2.1 ∧ s.2.1 ≤ n ∧ (s.1.length : Int) ≤ s.2.1 ∧ s.2.2.2 = false) (fun s => s.2.2.2 = true) (resG none) ?_ ?_ ?_).trans (by simp)
  · exact ⟨hb1, hl1, by exact (by omega : (0 : Int) ≤ 0), by exact (by omega : (0 : Int) ≤ n), by simp, rfl⟩
  · rintro ⟨l, i, b, bad⟩ hbad
    simp only at hbad
    subst hbad
    simp -implicitDefEqProofs [resG]
  rintro ⟨l, i, b, bad⟩ ⟨i1, i2, i3, i4, i5, i6⟩
  simp only at i1 i2 i3 i4 i5 i6
  subst i6
  simp only [Bool.false_eq_true, if_false]
  by_cases hi : i < n
  rotate_left
  · refine .inr (.inl ?_)
    rw [show (n - i).toNat = 0 by omega]
    cases b with
    | nil =>
      by_cases n1 : n < 1
      · have e : ¬ (1 ≤ n ∧ n ≤ 200) := by omega
        simp -implicitDefEqProofs [hi, n1, editsT, finG, resG, e]
      by_cases n2 : 200 < n
      · have e : ¬ (1 ≤ n ∧ n ≤ 200) := by omega
        simp -implicitDefEqProofs [hi, n1, n2, editsT, finG, resG, e]
      have e : 1 ≤ n ∧ n ≤ 200 := by omega
      simp -implicitDefEqProofs [hi, n1, n2, editsT, finG, resG, e]
    | cons c r =>
      have e0 : (0 : Int) < (r.length : Int) + 1 := by omega
      simp -implicitDefEqProofs [hi, editsT, finG, resG, e0]
  rw [show (n - i).toNat = (n - (i + 1)).toNat + 1 by omega]
  have wi : IntKind.i64.wrap (i + 1) = i + 1 := wi64 _ (by omega) (by omega)
  have hbig : l.length + 1 ≤ BIG := by simp only [BIG]; omega
  cases b with
  | nil =>
    refine .inr (.inr ⟨by simp [editsT, editT, rawT, finG], ?wA, ?pA, ?qA⟩)
    case pA =>
      simp -implicitDefEqProofs [hi, wi, hbig, hmk]
      exact rfl
    case qA => rfl
  | cons c R1 =>
  have hc := i1 c (by simp)
  have hb1 : ∀ d ∈ R1, 0 ≤ d ∧ d < 256 := fun d hd => i1 d (by simp [hd])
  have hl1 : R1.length < 10000000000 := by simp only [List.length_cons] at i2; omega
  have L0 : ¬ ((R1.length : Int) + 1 = 0) := by omega
  have L1 : (0 : Int) < (R1.length : Int) + 1 := by omega
  have L2 : (1 : Int) ≤ (R1.length : Int) + 1 := by omega
  have wc : IntKind.i64.wrap c = c := wi64 _ (by omega) (by omega)
  clear i1 i2
  by_cases e1 : c = 1
  · subst e1
    have wk : IntKind.i64.wrap 1 = 1 := rfl
    have k1 := h90 R1 hb1
    rcases numT_cases hb1 with ⟨t1, z1⟩ | ⟨t1, z1, y1⟩ | ⟨v1, g1, t1, ev1, eg1, p1, q1, z1, y1⟩
    · rw [if_pos z1] at k1
      refine .inr (.inr ⟨by simp [editsT, editT, rawT, rawK, cntN, numTs, textT, finG, t1], ?w1, ?p1, ?q1⟩)
      case p1 =>
        simp -implicitDefEqProofs [hi, wi, hbig, hmk, L0, L1, L2, wk, k1]
        exact rfl
      case q1 => rfl
    · rw [if_neg z1] at k1
      refine .inr (.inr ⟨by simp [editsT, editT, rawT, rawK, cntN, numTs, textT, finG, t1], ?w2, ?p2, ?q2⟩)
      case p2 =>
        simp -implicitDefEqProofs [hi, wi, hbig, hmk, L0, L1, L2, wk, k1, y1]
        exact rfl
      case q2 => rfl
    rw [ev1, eg1, if_neg z1] at k1
    have n1 : ¬ 2147483647 < v1 := by omega
    have w1 : IntKind.i64.wrap v1 = v1 := wi64 _ (by omega) (by omega)
    have hb2 : ∀ d ∈ R1.drop g1, 0 ≤ d ∧ d < 256 := fun d hd => hb1 d (List.mem_of_mem_drop hd)
    have hl2 : (R1.drop g1).length < 10000000000 := by rw [List.length_drop]; omega
    clear ev1 eg1
    generalize hR2 : R1.drop g1 = R2 at *
    have k37 : Does1 Φ 37 [⟨.int .i64, 1⟩, ⟨.int .i64, v1⟩, ⟨.int .i64, 0⟩, ⟨.int .i64, 0⟩, ⟨.int .i64, 0⟩, ⟨.int .i64, 0⟩, ⟨.int .i64, 0⟩, ⟨.int .i64, 0⟩, ⟨.int .i64, 0⟩, ⟨.int .i64, 0⟩, ⟨.str, []⟩, ⟨.str, []⟩] [⟨.int .i64, if okE (1, v1, 0, 0, (0, 0, 0), 0, 0, 0, [], []) = true then 0 else 1⟩] := h37 _ _ _ _ _ _ _ _ _ _ _ _
    cases ho : okE (1, v1, 0, 0, (0, 0, 0), 0, 0, 0, [], [])
    · rw [ho] at k37
      refine .inr (.inr ⟨by simp [editsT, editT, rawT, rawK, cntN, numTs, textT, finG, t1, edOf, ho], ?w3, ?p3, ?q3⟩)
      case p3 =>
        simp -implicitDefEqProofs [hi, wi, hbig, hmk, L0, L1, L2, wk, k1, n1, w1, y1, hR2, k37]
        exact rfl
      case q3 => rfl
    · rw [ho] at k37
      refine .inl ⟨(l ++ [(1, v1, 0, 0, (0, 0, 0), 0, 0, 0, [], [])], i + 1, R2, false), ?_, ⟨hb2, hl2, by (try simp only); omega, by (try simp only); omega, by simp; omega, rfl⟩, by (try simp only); omega, ?_⟩
      · simp -implicitDefEqProofs [hi, wi, hbig, hmk, L0, L1, L2, wk, k1, n1, w1, y1, hR2, k37]
      · simp [editsT, editT, rawT, rawK, cntN, numTs, textT, t1, edOf, ho]
        generalize editsT (n - (i + 1)).toNat R2 = o
        cases o with
        | none => rfl
        | some z =>
          obtain ⟨xs, r⟩ := z
          cases r <;> simp [finG]
  by_cases e5 : c = 5
  · subst e5
    have wk : IntKind.i64.wrap 5 = 5 := rfl
    have k1 := h90 R1 hb1
    rcases numT_cases hb1 with ⟨t1, z1⟩ | ⟨t1, z1, y1⟩ | ⟨v1, g1, t1, ev1, eg1, p1, q1, z1, y1⟩
    · rw [if_pos z1] at k1
      refine .inr (.inr ⟨by simp [editsT, editT, rawT, rawK, cntN, numTs, textT, finG, t1], ?w4, ?p4, ?q4⟩)
      case p4 =>
        simp -implicitDefEqProofs [hi, wi, hbig, hmk, L0, L1, L2, wk, k1]
        exact rfl
      case q4 => rfl
    · rw [if_neg z1] at k1
      refine .inr (.inr ⟨by simp [editsT, editT, rawT, rawK, cntN, numTs, textT, finG, t1], ?w5, ?p5, ?q5⟩)
      case p5 =>
        simp -implicitDefEqProofs [hi, wi, hbig, hmk, L0, L1, L2, wk, k1, y1]
        exact rfl
      case q5 => rfl
    rw [ev1, eg1, if_neg z1] at k1
    have n1 : ¬ 2147483647 < v1 := by omega
    have w1 : IntKind.i64.wrap v1 = v1 := wi64 _ (by omega) (by omega)
    have hb2 : ∀ d ∈ R1.drop g1, 0 ≤ d ∧ d < 256 := fun d hd => hb1 d (List.mem_of_mem_drop hd)
    have hl2 : (R1.drop g1).length < 10000000000 := by rw [List.length_drop]; omega
    clear ev1 eg1
    generalize hR2 : R1.drop g1 = R2 at *
    have k37 : Does1 Φ 37 [⟨.int .i64, 5⟩, ⟨.int .i64, v1⟩, ⟨.int .i64, 0⟩, ⟨.int .i64, 0⟩, ⟨.int .i64, 0⟩, ⟨.int .i64, 0⟩, ⟨.int .i64, 0⟩, ⟨.int .i64, 0⟩, ⟨.int .i64, 0⟩, ⟨.int .i64, 0⟩, ⟨.str, []⟩, ⟨.str, []⟩] [⟨.int .i64, if okE (5, v1, 0, 0, (0, 0, 0), 0, 0, 0, [], []) = true then 0 else 1⟩] := h37 _ _ _ _ _ _ _ _ _ _ _ _
    cases ho : okE (5, v1, 0, 0, (0, 0, 0), 0, 0, 0, [], [])
    · rw [ho] at k37
      refine .inr (.inr ⟨by simp [editsT, editT, rawT, rawK, cntN, numTs, textT, finG, t1, edOf, ho], ?w6, ?p6, ?q6⟩)
      case p6 =>
        simp -implicitDefEqProofs [hi, wi, hbig, hmk, L0, L1, L2, wk, k1, n1, w1, y1, hR2, k37]
        exact rfl
      case q6 => rfl
    · rw [ho] at k37
      refine .inl ⟨(l ++ [(5, v1, 0, 0, (0, 0, 0), 0, 0, 0, [], [])], i + 1, R2, false), ?_, ⟨hb2, hl2, by (try simp only); omega, by (try simp only); omega, by simp; omega, rfl⟩, by (try simp only); omega, ?_⟩
      · simp -implicitDefEqProofs [hi, wi, hbig, hmk, L0, L1, L2, wk, k1, n1, w1, y1, hR2, k37]
      · simp [editsT, editT, rawT, rawK, cntN, numTs, textT, t1, edOf, ho]
        generalize editsT (n - (i + 1)).toNat R2 = o
        cases o with
        | none => rfl
        | some z =>
          obtain ⟨xs, r⟩ := z
          cases r <;> simp [finG]
  by_cases e2 : c = 2
  · subst e2
    have wk : IntKind.i64.wrap 2 = 2 := rfl
    have k1 := h90 R1 hb1
    rcases numT_cases hb1 with ⟨t1, z1⟩ | ⟨t1, z1, y1⟩ | ⟨v1, g1, t1, ev1, eg1, p1, q1, z1, y1⟩
    · rw [if_pos z1] at k1
      refine .inr (.inr ⟨by simp [editsT, editT, rawT, rawK, cntN, numTs, textT, finG, t1], ?w7, ?p7, ?q7⟩)
      case p7 =>
        simp -implicitDefEqProofs [hi, wi, hbig, hmk, L0, L1, L2, wk, k1]
        exact rfl
      case q7 => rfl
    · rw [if_neg z1] at k1
      refine .inr (.inr ⟨by simp [editsT, editT, rawT, rawK, cntN, numTs, textT, finG, t1], ?w8, ?p8, ?q8⟩)
      case p8 =>
        simp -implicitDefEqProofs [hi, wi, hbig, hmk, L0, L1, L2, wk, k1, y1]
        exact rfl
      case q8 => rfl
    rw [ev1, eg1, if_neg z1] at k1
    have n1 : ¬ 2147483647 < v1 := by omega
    have w1 : IntKind.i64.wrap v1 = v1 := wi64 _ (by omega) (by omega)
    have hb2 : ∀ d ∈ R1.drop g1, 0 ≤ d ∧ d < 256 := fun d hd => hb1 d (List.mem_of_mem_drop hd)
    have hl2 : (R1.drop g1).length < 10000000000 := by rw [List.length_drop]; omega
    clear ev1 eg1
    generalize hR2 : R1.drop g1 = R2 at *
    have k2 := h90 R2 hb2
    rcases numT_cases hb2 with ⟨t2, z2⟩ | ⟨t2, z2, y2⟩ | ⟨v2, g2, t2, ev2, eg2, p2, q2, z2, y2⟩
    · rw [if_pos z2] at k2
      refine .inr (.inr ⟨by simp [editsT, editT, rawT, rawK, cntN, numTs, textT, finG, t1, t2], ?w9, ?p9, ?q9⟩)
      case p9 =>
        simp -implicitDefEqProofs [hi, wi, hbig, hmk, L0, L1, L2, wk, k1, n1, w1, y1, hR2, k2]
        exact rfl
      case q9 => rfl
    · rw [if_neg z2] at k2
      refine .inr (.inr ⟨by simp [editsT, editT, rawT, rawK, cntN, numTs, textT, finG, t1, t2], ?w10, ?p10, ?q10⟩)
      case p10 =>
        simp -implicitDefEqProofs [hi, wi, hbig, hmk, L0, L1, L2, wk, k1, n1, w1, y1, hR2, k2, y2]
        exact rfl
      case q10 => rfl
    rw [ev2, eg2, if_neg z2] at k2
    have n2 : ¬ 2147483647 < v2 := by omega
    have w2 : IntKind.i64.wrap v2 = v2 := wi64 _ (by omega) (by omega)
    have hb3 : ∀ d ∈ R2.drop g2, 0 ≤ d ∧ d < 256 := fun d hd => hb2 d (List.mem_of_mem_drop hd)
    have hl3 : (R2.drop g2).length < 10000000000 := by rw [List.length_drop]; omega
    clear ev2 eg2
    generalize hR3 : R2.drop g2 = R3 at *
    have k37 : Does1 Φ 37 [⟨.int .i64, 2⟩, ⟨.int .i64, v1⟩, ⟨.int .i64, v2⟩, ⟨.int .i64, 0⟩, ⟨.int .i64, 0⟩, ⟨.int .i64, 0⟩, ⟨.int .i64, 0⟩, ⟨.int .i64, 0⟩, ⟨.int .i64, 0⟩, ⟨.int .i64, 0⟩, ⟨.str, []⟩, ⟨.str, []⟩] [⟨.int .i64, if okE (2, v1, v2, 0, (0, 0, 0), 0, 0, 0, [], []) = true then 0 else 1⟩] := h37 _ _ _ _ _ _ _ _ _ _ _ _
    cases ho : okE (2, v1, v2, 0, (0, 0, 0), 0, 0, 0, [], [])
    · rw [ho] at k37
      refine .inr (.inr ⟨by simp [editsT, editT, rawT, rawK, cntN, numTs, textT, finG, t1, t2, edOf, ho], ?w11, ?p11, ?q11⟩)
      case p11 =>
        simp -implicitDefEqProofs [hi, wi, hbig, hmk, L0, L1, L2, wk, k1, n1, w1, y1, hR2, k2, n2, w2, y2, hR3, k37]
        exact rfl
      case q11 => rfl
    · rw [ho] at k37
      refine .inl ⟨(l ++ [(2, v1, v2, 0, (0, 0, 0), 0, 0, 0, [], [])], i + 1, R3, false), ?_, ⟨hb3, hl3, by (try simp only); omega, by (try simp only); omega, by simp; omega, rfl⟩, by (try simp only); omega, ?_⟩
      · simp -implicitDefEqProofs [hi, wi, hbig, hmk, L0, L1, L2, wk, k1, n1, w1, y1, hR2, k2, n2, w2, y2, hR3, k37]
      · simp [editsT, editT, rawT, rawK, cntN, numTs, textT, t1, t2, edOf, ho]
        generalize editsT (n - (i + 1)).toNat R3 = o
        cases o with
        | none => rfl
        | some z =>
          obtain ⟨xs, r⟩ := z
          cases r <;> simp [finG]
  by_cases e3 : c = 3
  · subst e3
    have wk : IntKind.i64.wrap 3 = 3 := rfl
    have k1 := h90 R1 hb1
    rcases numT_cases hb1 with ⟨t1, z1⟩ | ⟨t1, z1, y1⟩ | ⟨v1, g1, t1, ev1, eg1, p1, q1, z1, y1⟩
    · rw [if_pos z1] at k1
      refine .inr (.inr ⟨by simp [editsT, editT, rawT, rawK, cntN, numTs, textT, finG, t1], ?w12, ?p12, ?q12⟩)
      case p12 =>
        simp -implicitDefEqProofs [hi, wi, hbig, hmk, L0, L1, L2, wk, k1]
        exact rfl
      case q12 => rfl
    · rw [if_neg z1] at k1
      refine .inr (.inr ⟨by simp [editsT, editT, rawT, rawK, cntN, numTs, textT, finG, t1], ?w13, ?p13, ?q13⟩)
      case p13 =>
        simp -implicitDefEqProofs [hi, wi, hbig, hmk, L0, L1, L2, wk, k1, y1]
        exact rfl
      case q13 => rfl
    rw [ev1, eg1, if_neg z1] at k1
    have n1 : ¬ 2147483647 < v1 := by omega
    have w1 : IntKind.i64.wrap v1 = v1 := wi64 _ (by omega) (by omega)
    have hb2 : ∀ d ∈ R1.drop g1, 0 ≤ d ∧ d < 256 := fun d hd => hb1 d (List.mem_of_mem_drop hd)
    have hl2 : (R1.drop g1).length < 10000000000 := by rw [List.length_drop]; omega
    clear ev1 eg1
    generalize hR2 : R1.drop g1 = R2 at *
    have k37 : Does1 Φ 37 [⟨.int .i64, 3⟩, ⟨.int .i64, 0⟩, ⟨.int .i64, v1⟩, ⟨.int .i64, 0⟩, ⟨.int .i64, 0⟩, ⟨.int .i64, 0⟩, ⟨.int .i64, 0⟩, ⟨.int .i64, 0⟩, ⟨.int .i64, 0⟩, ⟨.int .i64, 0⟩, ⟨.str, []⟩, ⟨.str, []⟩] [⟨.int .i64, if okE (3, 0, v1, 0, (0, 0, 0), 0, 0, 0, [], []) = true then 0 else 1⟩] := h37 _ _ _ _ _ _ _ _ _ _ _ _
    cases ho : okE (3, 0, v1, 0, (0, 0, 0), 0, 0, 0, [], [])
    · rw [ho] at k37
      refine .inr (.inr ⟨by simp [editsT, editT, rawT, rawK, cntN, numTs, textT, finG, t1, edOf, ho], ?w14, ?p14, ?q14⟩)
      case p14 =>
        simp -implicitDefEqProofs [hi, wi, hbig, hmk, L0, L1, L2, wk, k1, n1, w1, y1, hR2, k37]
        exact rfl
      case q14 => rfl
    · rw [ho] at k37
      refine .inl ⟨(l ++ [(3, 0, v1, 0, (0, 0, 0), 0, 0, 0, [], [])], i + 1, R2, false), ?_, ⟨hb2, hl2, by (try simp only); omega, by (try simp only); omega, by simp; omega, rfl⟩, by (try simp only); omega, ?_⟩
      · simp -implicitDefEqProofs [hi, wi, hbig, hmk, L0, L1, L2, wk, k1, n1, w1, y1, hR2, k37]
      · simp [editsT, editT, rawT, rawK, cntN, numTs, textT, t1, edOf, ho]
        generalize editsT (n - (i + 1)).toNat R2 = o
        cases o with
        | none => rfl
        | some z =>
          obtain ⟨xs, r⟩ := z
          cases r <;> simp [finG]
  by_cases e7 : c = 7
  · subst e7
    have wk : IntKind.i64.wrap 7 = 7 := rfl
    have k1 := h90 R1 hb1
    rcases numT_cases hb1 with ⟨t1, z1⟩ | ⟨t1, z1, y1⟩ | ⟨v1, g1, t1, ev1, eg1, p1, q1, z1, y1⟩
    · rw [if_pos z1] at k1
      refine .inr (.inr ⟨by simp [editsT, editT, rawT, rawK, cntN, numTs, textT, finG, t1], ?w15, ?p15, ?q15⟩)
      case p15 =>
        simp -implicitDefEqProofs [hi, wi, hbig, hmk, L0, L1, L2, wk, k1]
        exact rfl
      case q15 => rfl
    · rw [if_neg z1] at k1
      refine .inr (.inr ⟨by simp [editsT, editT, rawT, rawK, cntN, numTs, textT, finG, t1], ?w16, ?p16, ?q16⟩)
      case p16 =>
        simp -implicitDefEqProofs [hi, wi, hbig, hmk, L0, L1, L2, wk, k1, y1]
        exact rfl
      case q16 => rfl
    rw [ev1, eg1, if_neg z1] at k1
    have n1 : ¬ 2147483647 < v1 := by omega
    have w1 : IntKind.i64.wrap v1 = v1 := wi64 _ (by omega) (by omega)
    have hb2 : ∀ d ∈ R1.drop g1, 0 ≤ d ∧ d < 256 := fun d hd => hb1 d (List.mem_of_mem_drop hd)
    have hl2 : (R1.drop g1).length < 10000000000 := by rw [List.length_drop]; omega
    clear ev1 eg1
    generalize hR2 : R1.drop g1 = R2 at *
    have k37 : Does1 Φ 37 [⟨.int .i64, 7⟩, ⟨.int .i64, 0⟩, ⟨.int .i64, v1⟩, ⟨.int .i64, 0⟩, ⟨.int .i64, 0⟩, ⟨.int .i64, 0⟩, ⟨.int .i64, 0⟩, ⟨.int .i64, 0⟩, ⟨.int .i64, 0⟩, ⟨.int .i64, 0⟩, ⟨.str, []⟩, ⟨.str, []⟩] [⟨.int .i64, if okE (7, 0, v1, 0, (0, 0, 0), 0, 0, 0, [], []) = true then 0 else 1⟩] := h37 _ _ _ _ _ _ _ _ _ _ _ _
    cases ho : okE (7, 0, v1, 0, (0, 0, 0), 0, 0, 0, [], [])
    · rw [ho] at k37
      refine .inr (.inr ⟨by simp [editsT, editT, rawT, rawK, cntN, numTs, textT, finG, t1, edOf, ho], ?w17, ?p17, ?q17⟩)
      case p17 =>
        simp -implicitDefEqProofs [hi, wi, hbig, hmk, L0, L1, L2, wk, k1, n1, w1, y1, hR2, k37]
        exact rfl
      case q17 => rfl
    · rw [ho] at k37
      refine .inl ⟨(l ++ [(7, 0, v1, 0, (0, 0, 0), 0, 0, 0, [], [])], i + 1, R2, false), ?_, ⟨hb2, hl2, by (try simp only); omega, by (try simp only); omega, by simp; omega, rfl⟩, by (try simp only); omega, ?_⟩
      · simp -implicitDefEqProofs [hi, wi, hbig, hmk, L0, L1, L2, wk, k1, n1, w1, y1, hR2, k37]
      · simp [editsT, editT, rawT, rawK, cntN, numTs, textT, t1, edOf, ho]
        generalize editsT (n - (i + 1)).toNat R2 = o
        cases o with
        | none => rfl
        | some z =>
          obtain ⟨xs, r⟩ := z
          cases r <;> simp [finG]
  by_cases e9 : c = 9
  · subst e9
    have wk : IntKind.i64.wrap 9 = 9 := rfl
    have k1 := h90 R1 hb1
    rcases numT_cases hb1 with ⟨t1, z1⟩ | ⟨t1, z1, y1⟩ | ⟨v1, g1, t1, ev1, eg1, p1, q1, z1, y1⟩
    · rw [if_pos z1] at k1
      refine .inr (.inr ⟨by simp [editsT, editT, rawT, rawK, cntN, numTs, textT, finG, t1], ?w18, ?p18, ?q18⟩)
      case p18 =>
        simp -implicitDefEqProofs [hi, wi, hbig, hmk, L0, L1, L2, wk, k1]
        exact rfl
      case q18 => rfl
    · rw [if_neg z1] at k1
      refine .inr (.inr ⟨by simp [editsT, editT, rawT, rawK, cntN, numTs, textT, finG, t1], ?w19, ?p19, ?q19⟩)
      case p19 =>
        simp -implicitDefEqProofs [hi, wi, hbig, hmk, L0, L1, L2, wk, k1, y1]
        exact rfl
      case q19 => rfl
    rw [ev1, eg1, if_neg z1] at k1
    have n1 : ¬ 2147483647 < v1 := by omega
    have w1 : IntKind.i64.wrap v1 = v1 := wi64 _ (by omega) (by omega)
    have hb2 : ∀ d ∈ R1.drop g1, 0 ≤ d ∧ d < 256 := fun d hd => hb1 d (List.mem_of_mem_drop hd)
    have hl2 : (R1.drop g1).length < 10000000000 := by rw [List.length_drop]; omega
    clear ev1 eg1
    generalize hR2 : R1.drop g1 = R2 at *
    have k37 : Does1 Φ 37 [⟨.int .i64, 9⟩, ⟨.int .i64, 0⟩, ⟨.int .i64, v1⟩, ⟨.int .i64, 0⟩, ⟨.int .i64, 0⟩, ⟨.int .i64, 0⟩, ⟨.int .i64, 0⟩, ⟨.int .i64, 0⟩, ⟨.int .i64, 0⟩, ⟨.int .i64, 0⟩, ⟨.str, []⟩, ⟨.str, []⟩] [⟨.int .i64, if okE (9, 0, v1, 0, (0, 0, 0), 0, 0, 0, [], []) = true then 0 else 1⟩] := h37 _ _ _ _ _ _ _ _ _ _ _ _
    cases ho : okE (9, 0, v1, 0, (0, 0, 0), 0, 0, 0, [], [])
    · rw [ho] at k37
      refine .inr (.inr ⟨by simp [editsT, editT, rawT, rawK, cntN, numTs, textT, finG, t1, edOf, ho], ?w20, ?p20, ?q20⟩)
      case p20 =>
        simp -implicitDefEqProofs [hi, wi, hbig, hmk, L0, L1, L2, wk, k1, n1, w1, y1, hR2, k37]
        exact rfl
      case q20 => rfl
    · rw [ho] at k37
      refine .inl ⟨(l ++ [(9, 0, v1, 0, (0, 0, 0), 0, 0, 0, [], [])], i + 1, R2, false), ?_, ⟨hb2, hl2, by (try simp only); omega, by (try simp only); omega, by simp; omega, rfl⟩, by (try simp only); omega, ?_⟩
      · simp -implicitDefEqProofs [hi, wi, hbig, hmk, L0, L1, L2, wk, k1, n1, w1, y1, hR2, k37]
      · simp [editsT, editT, rawT, rawK, cntN, numTs, textT, t1, edOf, ho]
        generalize editsT (n - (i + 1)).toNat R2 = o
        cases o with
        | none => rfl
        | some z =>
          obtain ⟨xs, r⟩ := z
          cases r <;> simp [finG]
  by_cases e4 : c = 4
  · subst e4
    have wk : IntKind.i64.wrap 4 = 4 := rfl
    have k1 := h90 R1 hb1
    rcases numT_cases hb1 with ⟨t1, z1⟩ | ⟨t1, z1, y1⟩ | ⟨v1, g1, t1, ev1, eg1, p1, q1, z1, y1⟩
    · rw [if_pos z1] at k1
      refine .inr (.inr ⟨by simp [editsT, editT, rawT, rawK, cntN, numTs, textT, finG, t1], ?w21, ?p21, ?q21⟩)
      case p21 =>
        simp -implicitDefEqProofs [hi, wi, hbig, hmk, L0, L1, L2, wk, k1]
        exact rfl
      case q21 => rfl
    · rw [if_neg z1] at k1
      refine .inr (.inr ⟨by simp [editsT, editT, rawT, rawK, cntN, numTs, textT, finG, t1], ?w22, ?p22, ?q22⟩)
      case p22 =>
        simp -implicitDefEqProofs [hi, wi, hbig, hmk, L0, L1, L2, wk, k1, y1]
        exact rfl
      case q22 => rfl
    rw [ev1, eg1, if_neg z1] at k1
    have n1 : ¬ 2147483647 < v1 := by omega
    have w1 : IntKind.i64.wrap v1 = v1 := wi64 _ (by omega) (by omega)
    have hb2 : ∀ d ∈ R1.drop g1, 0 ≤ d ∧ d < 256 := fun d hd => hb1 d (List.mem_of_mem_drop hd)
    have hl2 : (R1.drop g1).length < 10000000000 := by rw [List.length_drop]; omega
    clear ev1 eg1
    generalize hR2 : R1.drop g1 = R2 at *
    have k2 := h90 R2 hb2
    rcases numT_cases hb2 with ⟨t2, z2⟩ | ⟨t2, z2, y2⟩ | ⟨v2, g2, t2, ev2, eg2, p2, q2, z2, y2⟩
    · rw [if_pos z2] at k2
      refine .inr (.inr ⟨by simp [editsT, editT, rawT, rawK, cntN, numTs, textT, finG, t1, t2], ?w23, ?p23, ?q23⟩)
      case p23 =>
        simp -implicitDefEqProofs [hi, wi, hbig, hmk, L0, L1, L2, wk, k1, n1, w1, y1, hR2, k2]
        exact rfl
      case q23 => rfl
    · rw [if_neg z2] at k2
      refine .inr (.inr ⟨by simp [editsT, editT, rawT, rawK, cntN, numTs, textT, finG, t1, t2], ?w24, ?p24, ?q24⟩)
      case p24 =>
        simp -implicitDefEqProofs [hi, wi, hbig, hmk, L0, L1, L2, wk, k1, n1, w1, y1, hR2, k2, y2]
        exact rfl
      case q24 => rfl
    rw [ev2, eg2, if_neg z2] at k2
    have n2 : ¬ 2147483647 < v2 := by omega
    have w2 : IntKind.i64.wrap v2 = v2 := wi64 _ (by omega) (by omega)
    have hb3 : ∀ d ∈ R2.drop g2, 0 ≤ d ∧ d < 256 := fun d hd => hb2 d (List.mem_of_mem_drop hd)
    have hl3 : (R2.drop g2).length < 10000000000 := by rw [List.length_drop]; omega
    clear ev2 eg2
    generalize hR3 : R2.drop g2 = R3 at *
    have k3 := h90 R3 hb3
    rcases numT_cases hb3 with ⟨t3, z3⟩ | ⟨t3, z3, y3⟩ | ⟨v3, g3, t3, ev3, eg3, p3, q3, z3, y3⟩
    · rw [if_pos z3] at k3
      refine .inr (.inr ⟨by simp [editsT, editT, rawT, rawK, cntN, numTs, textT, finG, t1, t2, t3], ?w25, ?p25, ?q25⟩)
      case p25 =>
        simp -implicitDefEqProofs [hi, wi, hbig, hmk, L0, L1, L2, wk, k1, n1, w1, y1, hR2, k2, n2, w2, y2, hR3, k3]
        exact rfl
      case q25 => rfl
    · rw [if_neg z3] at k3
      refine .inr (.inr ⟨by simp [editsT, editT, rawT, rawK, cntN, numTs, textT, finG, t1, t2, t3], ?w26, ?p26, ?q26⟩)
      case p26 =>
        simp -implicitDefEqProofs [hi, wi, hbig, hmk, L0, L1, L2, wk, k1, n1, w1, y1, hR2, k2, n2, w2, y2, hR3, k3, y3]
        exact rfl
      case q26 => rfl
    rw [ev3, eg3, if_neg z3] at k3
    have n3 : ¬ 2147483647 < v3 := by omega
    have w3 : IntKind.i64.wrap v3 = v3 := wi64 _ (by omega) (by omega)
    have hb4 : ∀ d ∈ R3.drop g3, 0 ≤ d ∧ d < 256 := fun d hd => hb3 d (List.mem_of_mem_drop hd)
    have hl4 : (R3.drop g3).length < 10000000000 := by rw [List.length_drop]; omega
    clear ev3 eg3
    generalize hR4 : R3.drop g3 = R4 at *
    have k4 := h90 R4 hb4
    rcases numT_cases hb4 with ⟨t4, z4⟩ | ⟨t4, z4, y4⟩ | ⟨v4, g4, t4, ev4, eg4, p4, q4, z4, y4⟩
    · rw [if_pos z4] at k4
      refine .inr (.inr ⟨by simp [editsT, editT, rawT, rawK, cntN, numTs, textT, finG, t1, t2, t3, t4], ?w27, ?p27, ?q27⟩)
      case p27 =>
        simp -implicitDefEqProofs [hi, wi, hbig, hmk, L0, L1, L2, wk, k1, n1, w1, y1, hR2, k2, n2, w2, y2, hR3, k3, n3, w3, y3, hR4, k4]
        exact rfl
      case q27 => rfl
    · rw [if_neg z4] at k4
      refine .inr (.inr ⟨by simp [editsT, editT, rawT, rawK, cntN, numTs, textT, finG, t1, t2, t3, t4], ?w28, ?p28, ?q28⟩)
      case p28 =>
        simp -implicitDefEqProofs [hi, wi, hbig, hmk, L0, L1, L2, wk, k1, n1, w1, y1, hR2, k2, n2, w2, y2, hR3, k3, n3, w3, y3, hR4, k4, y4]
        exact rfl
      case q28 => rfl
    rw [ev4, eg4, if_neg z4] at k4
    have n4 : ¬ 2147483647 < v4 := by omega
    have w4 : IntKind.i64.wrap v4 = v4 := wi64 _ (by omega) (by omega)
    have hb5 : ∀ d ∈ R4.drop g4, 0 ≤ d ∧ d < 256 := fun d hd => hb4 d (List.mem_of_mem_drop hd)
    have hl5 : (R4.drop g4).length < 10000000000 := by rw [List.length_drop]; omega
    clear ev4 eg4
    generalize hR5 : R4.drop g4 = R5 at *
    by_cases s4 : (R5.length : Int) < v4
    · have kx4 := h90 R5 hb5
      refine .inr (.inr ⟨by simp [editsT, editT, rawT, rawK, cntN, numTs, textT, finG, t1, t2, t3, t4, s4], ?w29, ?p29, ?q29⟩)
      case p29 =>
        simp -implicitDefEqProofs [hi, wi, hbig, hmk, L0, L1, L2, wk, k1, n1, w1, y1, hR2, k2, n2, w2, y2, hR3, k3, n3, w3, y3, hR4, k4, n4, w4, y4, hR5, s4, kx4]
        exact rfl
      case q29 => rfl
    have u4 : (0 : Int) ≤ v4 ∧ v4 ≤ R5.length := by omega
    have hb6 : ∀ d ∈ R5.drop v4.toNat, 0 ≤ d ∧ d < 256 := fun d hd => hb5 d (List.mem_of_mem_drop hd)
    have hl6 : (R5.drop v4.toNat).length < 10000000000 := by rw [List.length_drop]; omega
    generalize hR6 : R5.drop v4.toNat = R6 at *
    generalize hT4 : R5.take v4.toNat = T4 at *
    have k6 := h90 R6 hb6
    rcases numT_cases hb6 with ⟨t6, z6⟩ | ⟨t6, z6, y6⟩ | ⟨v6, g6, t6, ev6, eg6, p6, q6, z6, y6⟩
    · rw [if_pos z6] at k6
      refine .inr (.inr ⟨by simp [editsT, editT, rawT, rawK, cntN, numTs, textT, finG, t1, t2, t3, t4, s4, hR6, hT4, t6], ?w30, ?p30, ?q30⟩)
      case p30 =>
        simp -implicitDefEqProofs [hi, wi, hbig, hmk, L0, L1, L2, wk, k1, n1, w1, y1, hR2, k2, n2, w2, y2, hR3, k3, n3, w3, y3, hR4, k4, n4, w4, y4, hR5, s4, u4, hR6, hT4, k6]
        exact rfl
      case q30 => rfl
    · rw [if_neg z6] at k6
      refine .inr (.inr ⟨by simp [editsT, editT, rawT, rawK, cntN, numTs, textT, finG, t1, t2, t3, t4, s4, hR6, hT4, t6], ?w31, ?p31, ?q31⟩)
      case p31 =>
        simp -implicitDefEqProofs [hi, wi, hbig, hmk, L0, L1, L2, wk, k1, n1, w1, y1, hR2, k2, n2, w2, y2, hR3, k3, n3, w3, y3, hR4, k4, n4, w4, y4, hR5, s4, u4, hR6, hT4, k6, y6]
        exact rfl
      case q31 => rfl
    rw [ev6, eg6, if_neg z6] at k6
    have n6 : ¬ 2147483647 < v6 := by omega
    have w6 : IntKind.i64.wrap v6 = v6 := wi64 _ (by omega) (by omega)
    have hb7 : ∀ d ∈ R6.drop g6, 0 ≤ d ∧ d < 256 := fun d hd => hb6 d (List.mem_of_mem_drop hd)
    have hl7 : (R6.drop g6).length < 10000000000 := by rw [List.length_drop]; omega
    clear ev6 eg6
    generalize hR7 : R6.drop g6 = R7 at *
    by_cases s6 : (R7.length : Int) < v6
    · have kx6 := h90 R7 hb7
      refine .inr (.inr ⟨by simp [editsT, editT, rawT, rawK, cntN, numTs, textT, finG, t1, t2, t3, t4, s4, hR6, hT4, t6, s6], ?w32, ?p32, ?q32⟩)
      case p32 =>
        simp -implicitDefEqProofs [hi, wi, hbig, hmk, L0, L1, L2, wk, k1, n1, w1, y1, hR2, k2, n2, w2, y2, hR3, k3, n3, w3, y3, hR4, k4, n4, w4, y4, hR5, s4, u4, hR6, hT4, k6, n6, w6, y6, hR7, s6, kx6]
        exact rfl
      case q32 => rfl
    have u6 : (0 : Int) ≤ v6 ∧ v6 ≤ R7.length := by omega
    have hb8 : ∀ d ∈ R7.drop v6.toNat, 0 ≤ d ∧ d < 256 := fun d hd => hb7 d (List.mem_of_mem_drop hd)
    have hl8 : (R7.drop v6.toNat).length < 10000000000 := by rw [List.length_drop]; omega
    generalize hR8 : R7.drop v6.toNat = R8 at *
    generalize hT6 : R7.take v6.toNat = T6 at *
    have k37 : Does1 Φ 37 [⟨.int .i64, 4⟩, ⟨.int .i64, 0⟩, ⟨.int .i64, 0⟩, ⟨.int .i64, 0⟩, ⟨.int .i64, 0⟩, ⟨.int .i64, 0⟩, ⟨.int .i64, 0⟩, ⟨.int .i64, v1⟩, ⟨.int .i64, v2⟩, ⟨.int .i64, v3⟩, ⟨.str, T4⟩, ⟨.str, T6⟩] [⟨.int .i64, if okE (4, 0, 0, 0, (0, 0, 0), v1, v2, v3, T4, T6) = true then 0 else 1⟩] := h37 _ _ _ _ _ _ _ _ _ _ _ _
    cases ho : okE (4, 0, 0, 0, (0, 0, 0), v1, v2, v3, T4, T6)
    · rw [ho] at k37
      refine .inr (.inr ⟨by simp [editsT, editT, rawT, rawK, cntN, numTs, textT, finG, t1, t2, t3, t4, s4, hR6, hT4, t6, s6, hR8, hT6, edOf, ho], ?w33, ?p33, ?q33⟩)
      case p33 =>
        simp -implicitDefEqProofs [hi, wi, hbig, hmk, L0, L1, L2, wk, k1, n1, w1, y1, hR2, k2, n2, w2, y2, hR3, k3, n3, w3, y3, hR4, k4, n4, w4, y4, hR5, s4, u4, hR6, hT4, k6, n6, w6, y6, hR7, s6, u6, hR8, hT6, k37]
        exact rfl
      case q33 => rfl
    · rw [ho] at k37
      refine .inl ⟨(l ++ [(4, 0, 0, 0, (0, 0, 0), v1, v2, v3, T4, T6)], i + 1, R8, false), ?_, ⟨hb8, hl8, by (try simp only); omega, by (try simp only); omega, by simp; omega, rfl⟩, by (try simp only); omega, ?_⟩
      · simp -implicitDefEqProofs [hi, wi, hbig, hmk, L0, L1, L2, wk, k1, n1, w1, y1, hR2, k2, n2, w2, y2, hR3, k3, n3, w3, y3, hR4, k4, n4, w4, y4, hR5, s4, u4, hR6, hT4, k6, n6, w6, y6, hR7, s6, u6, hR8, hT6, k37]
      · simp [editsT, editT, rawT, rawK, cntN, numTs, textT, t1, t2, t3, t4, s4, hR6, hT4, t6, s6, hR8, hT6, edOf, ho]
        generalize editsT (n - (i + 1)).toNat R8 = o
        cases o with
        | none => rfl
        | some z =>
          obtain ⟨xs, r⟩ := z
          cases r <;> simp [finG]
  by_cases e6 : c = 6
  · subst e6
    have wk : IntKind.i64.wrap 6 = 6 := rfl
    have k1 := h90 R1 hb1
    rcases numT_cases hb1 with ⟨t1, z1⟩ | ⟨t1, z1, y1⟩ | ⟨v1, g1, t1, ev1, eg1, p1, q1, z1, y1⟩
    · rw [if_pos z1] at k1
      refine .inr (.inr ⟨by simp [editsT, editT, rawT, rawK, cntN, numTs, textT, finG, t1], ?w34, ?p34, ?q34⟩)
      case p34 =>
        simp -implicitDefEqProofs [hi, wi, hbig, hmk, L0, L1, L2, wk, k1]
        exact rfl
      case q34 => rfl
    · rw [if_neg z1] at k1
      refine .inr (.inr ⟨by simp [editsT, editT, rawT, rawK, cntN, numTs, textT, finG, t1], ?w35, ?p35, ?q35⟩)
      case p35 =>
        simp -implicitDefEqProofs [hi, wi, hbig, hmk, L0, L1, L2, wk, k1, y1]
        exact rfl
      case q35 => rfl
    rw [ev1, eg1, if_neg z1] at k1
    have n1 : ¬ 2147483647 < v1 := by omega
    have w1 : IntKind.i64.wrap v1 = v1 := wi64 _ (by omega) (by omega)
    have hb2 : ∀ d ∈ R1.drop g1, 0 ≤ d ∧ d < 256 := fun d hd => hb1 d (List.mem_of_mem_drop hd)
    have hl2 : (R1.drop g1).length < 10000000000 := by rw [List.length_drop]; omega
    clear ev1 eg1
    generalize hR2 : R1.drop g1 = R2 at *
    have k2 := h90 R2 hb2
    rcases numT_cases hb2 with ⟨t2, z2⟩ | ⟨t2, z2, y2⟩ | ⟨v2, g2, t2, ev2, eg2, p2, q2, z2, y2⟩
    · rw [if_pos z2] at k2
      refine .inr (.inr ⟨by simp [editsT, editT, rawT, rawK, cntN, numTs, textT, finG, t1, t2], ?w36, ?p36, ?q36⟩)
      case p36 =>
        simp -implicitDefEqProofs [hi, wi, hbig, hmk, L0, L1, L2, wk, k1, n1, w1, y1, hR2, k2]
        exact rfl
      case q36 => rfl
    · rw [if_neg z2] at k2
      refine .inr (.inr ⟨by simp [editsT, editT, rawT, rawK, cntN, numTs, textT, finG, t1, t2], ?w37, ?p37, ?q37⟩)
      case p37 =>
        simp -implicitDefEqProofs [hi, wi, hbig, hmk, L0, L1, L2, wk, k1, n1, w1, y1, hR2, k2, y2]
        exact rfl
      case q37 => rfl
    rw [ev2, eg2, if_neg z2] at k2
    have n2 : ¬ 2147483647 < v2 := by omega
    have w2 : IntKind.i64.wrap v2 = v2 := wi64 _ (by omega) (by omega)
    have hb3 : ∀ d ∈ R2.drop g2, 0 ≤ d ∧ d < 256 := fun d hd => hb2 d (List.mem_of_mem_drop hd)
    have hl3 : (R2.drop g2).length < 10000000000 := by rw [List.length_drop]; omega
    clear ev2 eg2
    generalize hR3 : R2.drop g2 = R3 at *
    have k3 := h90 R3 hb3
    rcases numT_cases hb3 with ⟨t3, z3⟩ | ⟨t3, z3, y3⟩ | ⟨v3, g3, t3, ev3, eg3, p3, q3, z3, y3⟩
    · rw [if_pos z3] at k3
      refine .inr (.inr ⟨by simp [editsT, editT, rawT, rawK, cntN, numTs, textT, finG, t1, t2, t3], ?w38, ?p38, ?q38⟩)
      case p38 =>
        simp -implicitDefEqProofs [hi, wi, hbig, hmk, L0, L1, L2, wk, k1, n1, w1, y1, hR2, k2, n2, w2, y2, hR3, k3]
        exact rfl
      case q38 => rfl
    · rw [if_neg z3] at k3
      refine .inr (.inr ⟨by simp [editsT, editT, rawT, rawK, cntN, numTs, textT, finG, t1, t2, t3], ?w39, ?p39, ?q39⟩)
      case p39 =>
        simp -implicitDefEqProofs [hi, wi, hbig, hmk, L0, L1, L2, wk, k1, n1, w1, y1, hR2, k2, n2, w2, y2, hR3, k3, y3]
        exact rfl
      case q39 => rfl
    rw [ev3, eg3, if_neg z3] at k3
    have n3 : ¬ 2147483647 < v3 := by omega
    have w3 : IntKind.i64.wrap v3 = v3 := wi64 _ (by omega) (by omega)
    have hb4 : ∀ d ∈ R3.drop g3, 0 ≤ d ∧ d < 256 := fun d hd => hb3 d (List.mem_of_mem_drop hd)
    have hl4 : (R3.drop g3).length < 10000000000 := by rw [List.length_drop]; omega
    clear ev3 eg3
    generalize hR4 : R3.drop g3 = R4 at *
    have k37 : Does1 Φ 37 [⟨.int .i64, 6⟩, ⟨.int .i64, v1⟩, ⟨.int .i64, v2⟩, ⟨.int .i64, v3⟩, ⟨.int .i64, 0⟩, ⟨.int .i64, 0⟩, ⟨.int .i64, 0⟩, ⟨.int .i64, 0⟩, ⟨.int .i64, 0⟩, ⟨.int .i64, 0⟩, ⟨.str, []⟩, ⟨.str, []⟩] [⟨.int .i64, if okE (6, v1, v2, v3, (0, 0, 0), 0, 0, 0, [], []) = true then 0 else 1⟩] := h37 _ _ _ _ _ _ _ _ _ _ _ _
    cases ho : okE (6, v1, v2, v3, (0, 0, 0), 0, 0, 0, [], [])
    · rw [ho] at k37
      refine .inr (.inr ⟨by simp [editsT, editT, rawT, rawK, cntN, numTs, textT, finG, t1, t2, t3, edOf, ho], ?w40, ?p40, ?q40⟩)
      case p40 =>
        simp -implicitDefEqProofs [hi, wi, hbig, hmk, L0, L1, L2, wk, k1, n1, w1, y1, hR2, k2, n2, w2, y2, hR3, k3, n3, w3, y3, hR4, k37]
        exact rfl
      case q40 => rfl
    · rw [ho] at k37
      refine .inl ⟨(l ++ [(6, v1, v2, v3, (0, 0, 0), 0, 0, 0, [], [])], i + 1, R4, false), ?_, ⟨hb4, hl4, by (try simp only); omega, by (try simp only); omega, by simp; omega, rfl⟩, by (try simp only); omega, ?_⟩
      · simp -implicitDefEqProofs [hi, wi, hbig, hmk, L0, L1, L2, wk, k1, n1, w1, y1, hR2, k2, n2, w2, y2, hR3, k3, n3, w3, y3, hR4, k37]
      · simp [editsT, editT, rawT, rawK, cntN, numTs, textT, t1, t2, t3, edOf, ho]
        generalize editsT (n - (i + 1)).toNat R4 = o
        cases o with
        | none => rfl
        | some z =>
          obtain ⟨xs, r⟩ := z
          cases r <;> simp [finG]
  by_cases e8 : c = 8
  · subst e8
    have wk : IntKind.i64.wrap 8 = 8 := rfl
    have k1 := h90 R1 hb1
    rcases numT_cases hb1 with ⟨t1, z1⟩ | ⟨t1, z1, y1⟩ | ⟨v1, g1, t1, ev1, eg1, p1, q1, z1, y1⟩
    · rw [if_pos z1] at k1
      refine .inr (.inr ⟨by simp [editsT, editT, rawT, rawK, cntN, numTs, textT, finG, t1], ?w41, ?p41, ?q41⟩)
      case p41 =>
        simp -implicitDefEqProofs [hi, wi, hbig, hmk, L0, L1, L2, wk, k1]
        exact rfl
      case q41 => rfl
    · rw [if_neg z1] at k1
      refine .inr (.inr ⟨by simp [editsT, editT, rawT, rawK, cntN, numTs, textT, finG, t1], ?w42, ?p42, ?q42⟩)
      case p42 =>
        simp -implicitDefEqProofs [hi, wi, hbig, hmk, L0, L1, L2, wk, k1, y1]
        exact rfl
      case q42 => rfl
    rw [ev1, eg1, if_neg z1] at k1
    have n1 : ¬ 2147483647 < v1 := by omega
    have w1 : IntKind.i64.wrap v1 = v1 := wi64 _ (by omega) (by omega)
    have hb2 : ∀ d ∈ R1.drop g1, 0 ≤ d ∧ d < 256 := fun d hd => hb1 d (List.mem_of_mem_drop hd)
    have hl2 : (R1.drop g1).length < 10000000000 := by rw [List.length_drop]; omega
    clear ev1 eg1
    generalize hR2 : R1.drop g1 = R2 at *
    have k2 := h90 R2 hb2
    rcases numT_cases hb2 with ⟨t2, z2⟩ | ⟨t2, z2, y2⟩ | ⟨v2, g2, t2, ev2, eg2, p2, q2, z2, y2⟩
    · rw [if_pos z2] at k2
      refine .inr (.inr ⟨by simp [editsT, editT, rawT, rawK, cntN, numTs, textT, finG, t1, t2], ?w43, ?p43, ?q43⟩)
      case p43 =>
        simp -implicitDefEqProofs [hi, wi, hbig, hmk, L0, L1, L2, wk, k1, n1, w1, y1, hR2, k2]
        exact rfl
      case q43 => rfl
    · rw [if_neg z2] at k2
      refine .inr (.inr ⟨by simp [editsT, editT, rawT, rawK, cntN, numTs, textT, finG, t1, t2], ?w44, ?p44, ?q44⟩)
      case p44 =>
        simp -implicitDefEqProofs [hi, wi, hbig, hmk, L0, L1, L2, wk, k1, n1, w1, y1, hR2, k2, y2]
        exact rfl
      case q44 => rfl
    rw [ev2, eg2, if_neg z2] at k2
    have n2 : ¬ 2147483647 < v2 := by omega
    have w2 : IntKind.i64.wrap v2 = v2 := wi64 _ (by omega) (by omega)
    have hb3 : ∀ d ∈ R2.drop g2, 0 ≤ d ∧ d < 256 := fun d hd => hb2 d (List.mem_of_mem_drop hd)
    have hl3 : (R2.drop g2).length < 10000000000 := by rw [List.length_drop]; omega
    clear ev2 eg2
    generalize hR3 : R2.drop g2 = R3 at *
    have k3 := h90 R3 hb3
    rcases numT_cases hb3 with ⟨t3, z3⟩ | ⟨t3, z3, y3⟩ | ⟨v3, g3, t3, ev3, eg3, p3, q3, z3, y3⟩
    · rw [if_pos z3] at k3
      refine .inr (.inr ⟨by simp [editsT, editT, rawT, rawK, cntN, numTs, textT, finG, t1, t2, t3], ?w45, ?p45, ?q45⟩)
      case p45 =>
        simp -implicitDefEqProofs [hi, wi, hbig, hmk, L0, L1, L2, wk, k1, n1, w1, y1, hR2, k2, n2, w2, y2, hR3, k3]
        exact rfl
      case q45 => rfl
    · rw [if_neg z3] at k3
      refine .inr (.inr ⟨by simp [editsT, editT, rawT, rawK, cntN, numTs, textT, finG, t1, t2, t3], ?w46, ?p46, ?q46⟩)
      case p46 =>
        simp -implicitDefEqProofs [hi, wi, hbig, hmk, L0, L1, L2, wk, k1, n1, w1, y1, hR2, k2, n2, w2, y2, hR3, k3, y3]
        exact rfl
      case q46 => rfl
    rw [ev3, eg3, if_neg z3] at k3
    have n3 : ¬ 2147483647 < v3 := by omega
    have w3 : IntKind.i64.wrap v3 = v3 := wi64 _ (by omega) (by omega)
    have hb4 : ∀ d ∈ R3.drop g3, 0 ≤ d ∧ d < 256 := fun d hd => hb3 d (List.mem_of_mem_drop hd)
    have hl4 : (R3.drop g3).length < 10000000000 := by rw [List.length_drop]; omega
    clear ev3 eg3
    generalize hR4 : R3.drop g3 = R4 at *
    have k4 := h90 R4 hb4
    rcases numT_cases hb4 with ⟨t4, z4⟩ | ⟨t4, z4, y4⟩ | ⟨v4, g4, t4, ev4, eg4, p4, q4, z4, y4⟩
    · rw [if_pos z4] at k4
      refine .inr (.inr ⟨by simp [editsT, editT, rawT, rawK, cntN, numTs, textT, finG, t1, t2, t3, t4], ?w47, ?p47, ?q47⟩)
      case p47 =>
        simp -implicitDefEqProofs [hi, wi, hbig, hmk, L0, L1, L2, wk, k1, n1, w1, y1, hR2, k2, n2, w2, y2, hR3, k3, n3, w3, y3, hR4, k4]
        exact rfl
      case q47 => rfl
    · rw [if_neg z4] at k4
      refine .inr (.inr ⟨by simp [editsT, editT, rawT, rawK, cntN, numTs, textT, finG, t1, t2, t3, t4], ?w48, ?p48, ?q48⟩)
      case p48 =>
        simp -implicitDefEqProofs [hi, wi, hbig, hmk, L0, L1, L2, wk, k1, n1, w1, y1, hR2, k2, n2, w2, y2, hR3, k3, n3, w3, y3, hR4, k4, y4]
        exact rfl
      case q48 => rfl
    rw [ev4, eg4, if_neg z4] at k4
    have n4 : ¬ 2147483647 < v4 := by omega
    have w4 : IntKind.i64.wrap v4 = v4 := wi64 _ (by omega) (by omega)
    have hb5 : ∀ d ∈ R4.drop g4, 0 ≤ d ∧ d < 256 := fun d hd => hb4 d (List.mem_of_mem_drop hd)
    have hl5 : (R4.drop g4).length < 10000000000 := by rw [List.length_drop]; omega
    clear ev4 eg4
    generalize hR5 : R4.drop g4 = R5 at *
    have k5 := h90 R5 hb5
    rcases numT_cases hb5 with ⟨t5, z5⟩ | ⟨t5, z5, y5⟩ | ⟨v5, g5, t5, ev5, eg5, p5, q5, z5, y5⟩
    · rw [if_pos z5] at k5
      refine .inr (.inr ⟨by simp [editsT, editT, rawT, rawK, cntN, numTs, textT, finG, t1, t2, t3, t4, t5], ?w49, ?p49, ?q49⟩)
      case p49 =>
        simp -implicitDefEqProofs [hi, wi, hbig, hmk, L0, L1, L2, wk, k1, n1, w1, y1, hR2, k2, n2, w2, y2, hR3, k3, n3, w3, y3, hR4, k4, n4, w4, y4, hR5, k5]
        exact rfl
      case q49 => rfl
    · rw [if_neg z5] at k5
      refine .inr (.inr ⟨by simp [editsT, editT, rawT, rawK, cntN, numTs, textT, finG, t1, t2, t3, t4, t5], ?w50, ?p50, ?q50⟩)
      case p50 =>
        simp -implicitDefEqProofs [hi, wi, hbig, hmk, L0, L1, L2, wk, k1, n1, w1, y1, hR2, k2, n2, w2, y2, hR3, k3, n3, w3, y3, hR4, k4, n4, w4, y4, hR5, k5, y5]
        exact rfl
      case q50 => rfl
    rw [ev5, eg5, if_neg z5] at k5
    have n5 : ¬ 2147483647 < v5 := by omega
    have w5 : IntKind.i64.wrap v5 = v5 := wi64 _ (by omega) (by omega)
    have hb6 : ∀ d ∈ R5.drop g5, 0 ≤ d ∧ d < 256 := fun d hd => hb5 d (List.mem_of_mem_drop hd)
    have hl6 : (R5.drop g5).length < 10000000000 := by rw [List.length_drop]; omega
    clear ev5 eg5
    generalize hR6 : R5.drop g5 = R6 at *
    have k6 := h90 R6 hb6
    rcases numT_cases hb6 with ⟨t6, z6⟩ | ⟨t6, z6, y6⟩ | ⟨v6, g6, t6, ev6, eg6, p6, q6, z6, y6⟩
    · rw [if_pos z6] at k6
      refine .inr (.inr ⟨by simp [editsT, editT, rawT, rawK, cntN, numTs, textT, finG, t1, t2, t3, t4, t5, t6], ?w51, ?p51, ?q51⟩)
      case p51 =>
        simp -implicitDefEqProofs [hi, wi, hbig, hmk, L0, L1, L2, wk, k1, n1, w1, y1, hR2, k2, n2, w2, y2, hR3, k3, n3, w3, y3, hR4, k4, n4, w4, y4, hR5, k5, n5, w5, y5, hR6, k6]
        exact rfl
      case q51 => rfl
    · rw [if_neg z6] at k6
      refine .inr (.inr ⟨by simp [editsT, editT, rawT, rawK, cntN, numTs, textT, finG, t1, t2, t3, t4, t5, t6], ?w52, ?p52, ?q52⟩)
      case p52 =>
        simp -implicitDefEqProofs [hi, wi, hbig, hmk, L0, L1, L2, wk, k1, n1, w1, y1, hR2, k2, n2, w2, y2, hR3, k3, n3, w3, y3, hR4, k4, n4, w4, y4, hR5, k5, n5, w5, y5, hR6, k6, y6]
        exact rfl
      case q52 => rfl
    rw [ev6, eg6, if_neg z6] at k6
    have n6 : ¬ 2147483647 < v6 := by omega
    have w6 : IntKind.i64.wrap v6 = v6 := wi64 _ (by omega) (by omega)
    have hb7 : ∀ d ∈ R6.drop g6, 0 ≤ d ∧ d < 256 := fun d hd => hb6 d (List.mem_of_mem_drop hd)
    have hl7 : (R6.drop g6).length < 10000000000 := by rw [List.length_drop]; omega
    clear ev6 eg6
    generalize hR7 : R6.drop g6 = R7 at *
    have k37 : Does1 Φ 37 [⟨.int .i64, 8⟩, ⟨.int .i64, v1⟩, ⟨.int .i64, v2⟩, ⟨.int .i64, v3⟩, ⟨.int .i64, v4⟩, ⟨.int .i64, v5⟩, ⟨.int .i64, v6⟩, ⟨.int .i64, 0⟩, ⟨.int .i64, 0⟩, ⟨.int .i64, 0⟩, ⟨.str, []⟩, ⟨.str, []⟩] [⟨.int .i64, if okE (8, v1, v2, v3, (v4, v5, v6), 0, 0, 0, [], []) = true then 0 else 1⟩] := h37 _ _ _ _ _ _ _ _ _ _ _ _
    cases ho : okE (8, v1, v2, v3, (v4, v5, v6), 0, 0, 0, [], [])
    · rw [ho] at k37
      refine .inr (.inr ⟨by simp [editsT, editT, rawT, rawK, cntN, numTs, textT, finG, t1, t2, t3, t4, t5, t6, edOf, ho], ?w53, ?p53, ?q53⟩)
      case p53 =>
        simp -implicitDefEqProofs [hi, wi, hbig, hmk, L0, L1, L2, wk, k1, n1, w1, y1, hR2, k2, n2, w2, y2, hR3, k3, n3, w3, y3, hR4, k4, n4, w4, y4, hR5, k5, n5, w5, y5, hR6, k6, n6, w6, y6, hR7, k37]
        exact rfl
      case q53 => rfl
    · rw [ho] at k37
      refine .inl ⟨(l ++ [(8, v1, v2, v3, (v4, v5, v6), 0, 0, 0, [], [])], i + 1, R7, false), ?_, ⟨hb7, hl7, by (try simp only); omega, by (try simp only); omega, by simp; omega, rfl⟩, by (try simp only); omega, ?_⟩
      · simp -implicitDefEqProofs [hi, wi, hbig, hmk, L0, L1, L2, wk, k1, n1, w1, y1, hR2, k2, n2, w2, y2, hR3, k3, n3, w3, y3, hR4, k4, n4, w4, y4, hR5, k5, n5, w5, y5, hR6, k6, n6, w6, y6, hR7, k37]
      · simp [editsT, editT, rawT, rawK, cntN, numTs, textT, t1, t2, t3, t4, t5, t6, edOf, ho]
        generalize editsT (n - (i + 1)).toNat R7 = o
        cases o with
        | none => rfl
        | some z =>
          obtain ⟨xs, r⟩ := z
          cases r <;> simp [finG]
  have hno : ¬ (1 ≤ c ∧ c ≤ 9) := by omega
  have k37 := h37 c 0 0 0 0 0 0 0 0 0 [] []
  rw [edOk_no _ _ _ _ _ _ _ _ _ _ _ _ hno] at k37
  refine .inr (.inr ⟨by simp [editsT, editT, rawT, hno, finG], ?wB, ?pB, ?qB⟩)
  case pB =>
    simp -implicitDefEqProofs [hi, wi, hbig, hmk, L0, L1, L2, wc, e1, e5, e2, e3, e7, e9, e4, e6, e8, k37]
    exact rfl
  case qB => rfl
theorem s45 {lc : List Ct} (hl0 : look (lc.map fun c => (c.sig.id, c)) 45 = some c45) : ∀ (b : List Int) (hb : ∀ c ∈ b, 0 ≤ c ∧ c < 256) (hl : b.length < 10000000000), Does1 (Phi lc) 45 [⟨.sl (.int .u8), b⟩] (resG (getT b)) :=
  fun b hb hl => by
    have eFc : c45.F = F45 := rfl
    have eFh := f45 b hb hl
    rw [← eFc] at eFh
    exact Does1.of hl0 eFh (by unfold resG; split <;> rfl)
end Go.Proofs.Ytdjknicjnaiomaa.Sx
