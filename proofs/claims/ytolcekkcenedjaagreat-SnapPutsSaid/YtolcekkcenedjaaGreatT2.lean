/-
  Trees, parts and sieves: what the functions answer.
-/
import Derived.Test.YtolcekkcenedjaaGreatT1
set_option linter.unusedVariables false
set_option linter.unusedSimpArgs false
namespace Go.Proofs.YtolcekkcenedjaaGreat.Sx
def sig1062 : Sig := { id := 1062, ins := [(true, ItT)], outs := [(true, [(Ty.str, none), (Ty.bool, none), (Ty.bool, none), ((Ty.int .u8).sl, some 5), (Ty.int .i64, none), (Ty.int .i64, none), (Ty.int .i64, none), (Ty.int .u32, none)])] }
def ir1062 : IR := .op (.call 1056) [.v 3] (.ret [.v 0, .v 1, .v 2, .v 8, .v 4, .v 5, .v 6, .v 7])
def sig1060 : Sig := { id := 1060, ins := [(true, ItT)], outs := [(false, [(Ty.int .i64, none)])] }
def ir1060 : IR := .op .len [.v 0] (.op (.ibin .add .i64) [.v 8, .l (.int .i64 16)] (.op .len [.v 3] (.op (.ibin .add .i64) [.v 9, .v 10] (.ret [.v 11]))))
def sig1069 : Sig := { id := 1069, ins := [(false, ItT.nd)], outs := [(false, [(ItT.nd, none)])] }
def ir1069 : IR := .op .nnl [.v 0] (.op (.nod ItT) [.v 0] (.op (.isn false) [.v 9] (.ite (.v 12) (.ret [.v 0]) (.op .nnl [.v 9] (.op (.nod ItT) [.v 9] (.op .nnl [.v 0] (.op (.nod ItT) [.v 0] (.op (.icmp .neq) [.v 23, .v 34] (.ite (.v 35) (.ret [.v 0]) (.op .nnl [.v 9] (.op (.nod ItT) [.v 9] (.op .nnl [.v 9] (.op (.nod ItT) [.v 9] (.op .nnl [.v 0] (.op (.nod ItT) [.v 0] (.op .nnl [.v 9] (.op (.nod ItT) [.v 9] (.op .nnl [.v 0] (.op (.nod ItT) [.v 0] (.op .nnl [.v 0] (.op (.nod ItT) [.v 0] (.op (.mkn ItT) [.v 58, .v 59, .v 60, .v 61, .v 62, .v 63, .v 64, .v 65, .v 78, .v 89, .v 101] (.op .nnl [.v 9] (.op (.nod ItT) [.v 9] (.op (.mkn ItT) [.v 36, .v 37, .v 38, .v 39, .v 40, .v 41, .v 42, .v 43, .v 55, .v 102, .v 113] (.ret [.v 114]))))))))))))))))))))))))))
def sig1068 : Sig := { id := 1068, ins := [(false, ItT.nd)], outs := [(false, [(ItT.nd, none)])] }
def ir1068 : IR := .op .nnl [.v 0] (.op (.nod ItT) [.v 0] (.op (.isn false) [.v 10] (.ite (.v 12) (.ret [.v 0]) (.op .nnl [.v 10] (.op (.nod ItT) [.v 10] (.op (.isn false) [.v 22] (.ite (.v 24) (.ret [.v 0]) (.op .nnl [.v 10] (.op (.nod ItT) [.v 10] (.op .nnl [.v 34] (.op (.nod ItT) [.v 34] (.op .nnl [.v 0] (.op (.nod ItT) [.v 0] (.op (.icmp .neq) [.v 46, .v 57] (.ite (.v 58) (.ret [.v 0]) (.op .nnl [.v 10] (.op (.nod ItT) [.v 10] (.op .nnl [.v 0] (.op (.nod ItT) [.v 0] (.op .nnl [.v 0] (.op (.nod ItT) [.v 0] (.op .nnl [.v 10] (.op (.nod ItT) [.v 10] (.op .nnl [.v 0] (.op (.nod ItT) [.v 0] (.op (.mkn ItT) [.v 70, .v 71, .v 72, .v 73, .v 74, .v 75, .v 76, .v 77, .v 89, .v 100, .v 113] (.op .nnl [.v 10] (.op (.nod ItT) [.v 10] (.op .nnl [.v 10] (.op (.nod ItT) [.v 10] (.op (.ibin .add .i64) [.v 136, .l (.int .i64 1)] (.op (.mkn ItT) [.v 59, .v 60, .v 61, .v 62, .v 63, .v 64, .v 65, .v 66, .v 114, .v 124, .v 137] (.ret [.v 138])))))))))))))))))))))))))))))))))
def sig1061 : Sig := { id := 1061, ins := [(false, ItT.nd), (true, ItT)], outs := [(false, [(ItT.nd, none)])] }
def ir1061 : IR := .op (.isn false) [.v 0] (.ite (.v 9) (.op (.mkn ItT) [.v 1, .v 2, .v 3, .v 4, .v 5, .v 6, .v 7, .v 8, .l (L.leaf ItT), .l (L.leaf ItT), .l (.int .i64 1)] (.ret [.v 10])) (.op .nnl [.v 0] (.op (.nod ItT) [.v 0] (.op (.scmp .eql) [.v 1, .v 10] (.ite (.v 21) (.op .nnl [.v 0] (.op (.nod ItT) [.v 0] (.op .nnl [.v 0] (.op (.nod ItT) [.v 0] (.op .nnl [.v 0] (.op (.nod ItT) [.v 0] (.op (.mkn ItT) [.v 1, .v 2, .v 3, .v 4, .v 5, .v 6, .v 7, .v 8, .v 30, .v 42, .v 54] (.ret [.v 55])))))))) (.op .nnl [.v 0] (.op (.nod ItT) [.v 0] (.op (.scmp .lss) [.v 1, .v 22] (.ite (.v 33) (.op .nnl [.v 0] (.op (.nod ItT) [.v 0] (.op .nnl [.v 0] (.op (.nod ItT) [.v 0] (.op (.call 1061) [.v 53, .v 1, .v 2, .v 3, .v 4, .v 5, .v 6, .v 7, .v 8] (.op .nnl [.v 0] (.op (.nod ItT) [.v 0] (.op .nnl [.v 0] (.op (.nod ItT) [.v 0] (.op (.mkn ItT) [.v 34, .v 35, .v 36, .v 37, .v 38, .v 39, .v 40, .v 41, .v 56, .v 66, .v 78] (.op (.call 1069) [.v 79] (.op (.call 1068) [.v 80] (.ret [.v 81]))))))))))))) (.op .nnl [.v 0] (.op (.nod ItT) [.v 0] (.op .nnl [.v 0] (.op (.nod ItT) [.v 0] (.op .nnl [.v 0] (.op (.nod ItT) [.v 0] (.op (.call 1061) [.v 65, .v 1, .v 2, .v 3, .v 4, .v 5, .v 6, .v 7, .v 8] (.op .nnl [.v 0] (.op (.nod ItT) [.v 0] (.op (.mkn ItT) [.v 34, .v 35, .v 36, .v 37, .v 38, .v 39, .v 40, .v 41, .v 53, .v 67, .v 78] (.op (.call 1069) [.v 79] (.op (.call 1068) [.v 80] (.ret [.v 81]))))))))))))))))))))))
def sig1021 : Sig := { id := 1021, ins := [(false, ItT.sl), (false, Ty.int .i64)], outs := [(false, [(ItT.sl.sl, some 28)])] }
def ir1021 : IR := .op .len [.v 0] (.loop [.l (.nil ItT.sl), .l (.int .i64 0), .l (.int .i64 0), .l (.int .i64 0), .l (L.leaf ItT), .l (.int .i64 0), .l (.int .i64 0), .l (.bool true)] [ItT.sl.sl, Ty.int .i64, Ty.int .i64, Ty.int .i64, ItT.nd, Ty.int .i64, Ty.int .i64, Ty.bool] (.op (.icmp .lss) [.v 6, .v 2] (.ite (.v 11) (.op .inb [.v 0, .v 6] (.op (.idx ItT) [.v 0, .v 6] (.op .not [.v 10] (.ite (.v 20) (.op (.icmp .geq) [.v 9, .v 1] (.ite (.v 21) (.op (.ibin .add .i64) [.v 6, .l (.int .i64 1)] (.op (.ibin .add .i64) [.v 6, .l (.int .i64 1)] (.op .ful [.v 0, .v 4, .v 22, .v 23] (.op (.mk ItT.sl 1) [.v 24] (.op .app [.v 3, .v 25] (.op (.ibin .add .i64) [.v 6, .l (.int .i64 1)] (.op (.ibin .add .i64) [.v 6, .l (.int .i64 1)] (.jump 0 [.v 26, .v 27, .v 9, .v 28, .l (L.leaf ItT), .l (.int .i64 0), .l (.int .i64 0), .l (.bool true)])))))))) (.op (.icmp .eql) [.v 8, .l (.int .i64 64)] (.ite (.v 22) (.op (.ibin .add .i64) [.v 6, .l (.int .i64 1)] (.op (.ibin .add .i64) [.v 6, .l (.int .i64 1)] (.op .ful [.v 0, .v 4, .v 23, .v 24] (.op (.mk ItT.sl 1) [.v 25] (.op .app [.v 3, .v 26] (.op (.ibin .add .i64) [.v 6, .l (.int .i64 1)] (.op (.ibin .add .i64) [.v 6, .l (.int .i64 1)] (.jump 0 [.v 27, .v 28, .v 9, .v 29, .l (L.leaf ItT), .l (.int .i64 0), .l (.int .i64 0), .l (.bool true)])))))))) (.op .len [.v 0] (.op (.ibin .sub .i64) [.v 23, .l (.int .i64 1)] (.op (.icmp .eql) [.v 6, .v 24] (.ite (.v 25) (.op (.ibin .add .i64) [.v 6, .l (.int .i64 1)] (.op (.ibin .add .i64) [.v 6, .l (.int .i64 1)] (.op .ful [.v 0, .v 4, .v 26, .v 27] (.op (.mk ItT.sl 1) [.v 28] (.op .app [.v 3, .v 29] (.op (.ibin .add .i64) [.v 6, .l (.int .i64 1)] (.op (.ibin .add .i64) [.v 6, .l (.int .i64 1)] (.jump 0 [.v 30, .v 31, .v 9, .v 32, .l (L.leaf ItT), .l (.int .i64 0), .l (.int .i64 0), .l (.bool true)])))))))) (.op (.ibin .add .i64) [.v 6, .l (.int .i64 1)] (.jump 0 [.v 3, .v 4, .v 9, .v 26, .v 7, .v 8, .v 9, .v 10])))))))))) (.op (.call 98) [.v 12, .v 13, .v 14, .v 15, .v 16, .v 17, .v 18, .v 19] (.op (.icmp .neq) [.v 21, .l (.int .i64 0)] (.ite (.v 22) (.op (.icmp .geq) [.v 9, .v 1] (.ite (.v 23) (.op (.ibin .add .i64) [.v 6, .l (.int .i64 1)] (.op (.ibin .add .i64) [.v 6, .l (.int .i64 1)] (.op .ful [.v 0, .v 4, .v 24, .v 25] (.op (.mk ItT.sl 1) [.v 26] (.op .app [.v 3, .v 27] (.op (.ibin .add .i64) [.v 6, .l (.int .i64 1)] (.op (.ibin .add .i64) [.v 6, .l (.int .i64 1)] (.jump 0 [.v 28, .v 29, .v 9, .v 30, .l (L.leaf ItT), .l (.int .i64 0), .l (.int .i64 0), .l (.bool true)])))))))) (.op (.icmp .eql) [.v 8, .l (.int .i64 64)] (.ite (.v 24) (.op (.ibin .add .i64) [.v 6, .l (.int .i64 1)] (.op (.ibin .add .i64) [.v 6, .l (.int .i64 1)] (.op .ful [.v 0, .v 4, .v 25, .v 26] (.op (.mk ItT.sl 1) [.v 27] (.op .app [.v 3, .v 28] (.op (.ibin .add .i64) [.v 6, .l (.int .i64 1)] (.op (.ibin .add .i64) [.v 6, .l (.int .i64 1)] (.jump 0 [.v 29, .v 30, .v 9, .v 31, .l (L.leaf ItT), .l (.int .i64 0), .l (.int .i64 0), .l (.bool true)])))))))) (.op .len [.v 0] (.op (.ibin .sub .i64) [.v 25, .l (.int .i64 1)] (.op (.icmp .eql) [.v 6, .v 26] (.ite (.v 27) (.op (.ibin .add .i64) [.v 6, .l (.int .i64 1)] (.op (.ibin .add .i64) [.v 6, .l (.int .i64 1)] (.op .ful [.v 0, .v 4, .v 28, .v 29] (.op (.mk ItT.sl 1) [.v 30] (.op .app [.v 3, .v 31] (.op (.ibin .add .i64) [.v 6, .l (.int .i64 1)] (.op (.ibin .add .i64) [.v 6, .l (.int .i64 1)] (.jump 0 [.v 32, .v 33, .v 9, .v 34, .l (L.leaf ItT), .l (.int .i64 0), .l (.int .i64 0), .l (.bool true)])))))))) (.op (.ibin .add .i64) [.v 6, .l (.int .i64 1)] (.jump 0 [.v 3, .v 4, .v 9, .v 28, .v 7, .v 8, .v 9, .v 10])))))))))) (.loop [.v 7] [ItT.nd] (.op (.isn true) [.v 23] (.ite (.v 24) (.op .nnl [.v 23] (.op (.nod ItT) [.v 23] (.op (.scmp .eql) [.v 12, .v 25] (.ite (.v 36) (.op .nnl [.v 23] (.op (.nod ItT) [.v 23] (.op (.call 1060) [.v 37, .v 38, .v 39, .v 40, .v 41, .v 42, .v 43, .v 44] (.op (.ibin .sub .i64) [.v 9, .v 48] (.op (.call 1060) [.v 12, .v 13, .v 14, .v 15, .v 16, .v 17, .v 18, .v 19] (.op (.ibin .add .i64) [.v 49, .v 50] (.op (.call 1062) [.v 12, .v 13, .v 14, .v 15, .v 16, .v 17, .v 18, .v 19] (.op (.call 1061) [.v 7, .v 52, .v 53, .v 54, .v 55, .v 56, .v 57, .v 58, .v 59] (.op (.icmp .geq) [.v 51, .v 1] (.ite (.v 61) (.op (.ibin .add .i64) [.v 6, .l (.int .i64 1)] (.op (.ibin .add .i64) [.v 6, .l (.int .i64 1)] (.op .ful [.v 0, .v 4, .v 62, .v 63] (.op (.mk ItT.sl 1) [.v 64] (.op .app [.v 3, .v 65] (.op (.ibin .add .i64) [.v 6, .l (.int .i64 1)] (.op (.ibin .add .i64) [.v 6, .l (.int .i64 1)] (.jump 0 [.v 66, .v 67, .v 51, .v 68, .l (L.leaf ItT), .l (.int .i64 0), .l (.int .i64 0), .l (.bool true)])))))))) (.op (.icmp .eql) [.v 8, .l (.int .i64 64)] (.ite (.v 62) (.op (.ibin .add .i64) [.v 6, .l (.int .i64 1)] (.op (.ibin .add .i64) [.v 6, .l (.int .i64 1)] (.op .ful [.v 0, .v 4, .v 63, .v 64] (.op (.mk ItT.sl 1) [.v 65] (.op .app [.v 3, .v 66] (.op (.ibin .add .i64) [.v 6, .l (.int .i64 1)] (.op (.ibin .add .i64) [.v 6, .l (.int .i64 1)] (.jump 0 [.v 67, .v 68, .v 51, .v 69, .l (L.leaf ItT), .l (.int .i64 0), .l (.int .i64 0), .l (.bool true)])))))))) (.op .len [.v 0] (.op (.ibin .sub .i64) [.v 63, .l (.int .i64 1)] (.op (.icmp .eql) [.v 6, .v 64] (.ite (.v 65) (.op (.ibin .add .i64) [.v 6, .l (.int .i64 1)] (.op (.ibin .add .i64) [.v 6, .l (.int .i64 1)] (.op .ful [.v 0, .v 4, .v 66, .v 67] (.op (.mk ItT.sl 1) [.v 68] (.op .app [.v 3, .v 69] (.op (.ibin .add .i64) [.v 6, .l (.int .i64 1)] (.op (.ibin .add .i64) [.v 6, .l (.int .i64 1)] (.jump 0 [.v 70, .v 71, .v 51, .v 72, .l (L.leaf ItT), .l (.int .i64 0), .l (.int .i64 0), .l (.bool true)])))))))) (.op (.ibin .add .i64) [.v 6, .l (.int .i64 1)] (.jump 0 [.v 3, .v 4, .v 51, .v 66, .v 60, .v 8, .v 51, .v 10])))))))))))))))))) (.op .nnl [.v 23] (.op (.nod ItT) [.v 23] (.op (.scmp .lss) [.v 12, .v 37] (.ite (.v 48) (.op .nnl [.v 23] (.op (.nod ItT) [.v 23] (.jump 1 [.v 57]))) (.op .nnl [.v 23] (.op (.nod ItT) [.v 23] (.jump 1 [.v 58]))))))))))) (.op (.ibin .add .i64) [.v 8, .l (.int .i64 1)] (.op (.call 1060) [.v 12, .v 13, .v 14, .v 15, .v 16, .v 17, .v 18, .v 19] (.op (.ibin .add .i64) [.v 9, .v 26] (.op (.call 1062) [.v 12, .v 13, .v 14, .v 15, .v 16, .v 17, .v 18, .v 19] (.op (.call 1061) [.v 7, .v 28, .v 29, .v 30, .v 31, .v 32, .v 33, .v 34, .v 35] (.op (.icmp .geq) [.v 27, .v 1] (.ite (.v 37) (.op (.ibin .add .i64) [.v 6, .l (.int .i64 1)] (.op (.ibin .add .i64) [.v 6, .l (.int .i64 1)] (.op .ful [.v 0, .v 4, .v 38, .v 39] (.op (.mk ItT.sl 1) [.v 40] (.op .app [.v 3, .v 41] (.op (.ibin .add .i64) [.v 6, .l (.int .i64 1)] (.op (.ibin .add .i64) [.v 6, .l (.int .i64 1)] (.jump 0 [.v 42, .v 43, .v 27, .v 44, .l (L.leaf ItT), .l (.int .i64 0), .l (.int .i64 0), .l (.bool true)])))))))) (.op (.icmp .eql) [.v 25, .l (.int .i64 64)] (.ite (.v 38) (.op (.ibin .add .i64) [.v 6, .l (.int .i64 1)] (.op (.ibin .add .i64) [.v 6, .l (.int .i64 1)] (.op .ful [.v 0, .v 4, .v 39, .v 40] (.op (.mk ItT.sl 1) [.v 41] (.op .app [.v 3, .v 42] (.op (.ibin .add .i64) [.v 6, .l (.int .i64 1)] (.op (.ibin .add .i64) [.v 6, .l (.int .i64 1)] (.jump 0 [.v 43, .v 44, .v 27, .v 45, .l (L.leaf ItT), .l (.int .i64 0), .l (.int .i64 0), .l (.bool true)])))))))) (.op .len [.v 0] (.op (.ibin .sub .i64) [.v 39, .l (.int .i64 1)] (.op (.icmp .eql) [.v 6, .v 40] (.ite (.v 41) (.op (.ibin .add .i64) [.v 6, .l (.int .i64 1)] (.op (.ibin .add .i64) [.v 6, .l (.int .i64 1)] (.op .ful [.v 0, .v 4, .v 42, .v 43] (.op (.mk ItT.sl 1) [.v 44] (.op .app [.v 3, .v 45] (.op (.ibin .add .i64) [.v 6, .l (.int .i64 1)] (.op (.ibin .add .i64) [.v 6, .l (.int .i64 1)] (.jump 0 [.v 46, .v 47, .v 27, .v 48, .l (L.leaf ItT), .l (.int .i64 0), .l (.int .i64 0), .l (.bool true)])))))))) (.op (.ibin .add .i64) [.v 6, .l (.int .i64 1)] (.jump 0 [.v 3, .v 4, .v 27, .v 42, .v 36, .v 25, .v 27, .v 10]))))))))))))))))))))))))) (.ret [.v 3]))))
def sig1029 : Sig := { id := 1029, ins := [(false, ItT.sl)], outs := [(false, [(Ty.str.sl, some 9)])] }
def ir1029 : IR := .op .len [.v 0] (.loop [.l (.nil Ty.str), .l (.int .i64 0)] [Ty.str.sl, Ty.int .i64] (.op (.icmp .lss) [.v 3, .v 1] (.ite (.v 4) (.op .inb [.v 0, .v 3] (.op (.idx ItT) [.v 0, .v 3] (.op (.mk Ty.str 1) [.v 5] (.op .app [.v 2, .v 13] (.op (.ibin .add .i64) [.v 3, .l (.int .i64 1)] (.jump 0 [.v 14, .v 15])))))) (.ret [.v 2]))))
def sig1026 : Sig := { id := 1026, ins := [(false, ItT.sl)], outs := [(false, [(Ty.int .i64, none)])] }
def ir1026 : IR := .loop [.l (.int .i64 0), .l (.int .i64 0)] [Ty.int .i64, Ty.int .i64] (.op .len [.v 0] (.op (.icmp .lss) [.v 2, .v 3] (.ite (.v 4) (.op .inb [.v 0, .v 2] (.op (.idx ItT) [.v 0, .v 2] (.op .len [.v 5] (.op (.ibin .add .i64) [.v 1, .v 13] (.op (.ibin .add .i64) [.v 14, .l (.int .i64 16)] (.op .inb [.v 0, .v 2] (.op (.idx ItT) [.v 0, .v 2] (.op .len [.v 19] (.op (.ibin .add .i64) [.v 15, .v 24] (.op (.ibin .add .i64) [.v 2, .l (.int .i64 1)] (.jump 0 [.v 25, .v 26]))))))))))) (.ret [.v 1]))))
def sig1007 : Sig := { id := 1007, ins := [(false, ItT.sl), (false, Ty.int .i64)], outs := [(false, [(ItT.sl.sl, some 28)])] }
def ir1007 : IR := .op (.mk ItT.sl 0) [] (.op (.mk ItT 0) [] (.loop [.v 2, .v 3, .l (.int .i64 0)] [ItT.sl.sl, ItT.sl, Ty.int .i64] (.op .len [.v 0] (.op (.icmp .lss) [.v 6, .v 7] (.ite (.v 8) (.op (.mk ItT 0) [] (.op .app [.v 9, .v 5] (.op .inb [.v 0, .v 6] (.op (.idx ItT) [.v 0, .v 6] (.op (.mk ItT 1) [.v 11, .v 12, .v 13, .v 14, .v 15, .v 16, .v 17, .v 18] (.op .app [.v 10, .v 19] (.op (.call 1026) [.v 20] (.op (.icmp .geq) [.v 21, .v 1] (.ite (.v 22) (.op (.mk ItT.sl 1) [.v 20] (.op .app [.v 4, .v 23] (.op (.mk ItT 0) [] (.op (.ibin .add .i64) [.v 6, .l (.int .i64 1)] (.jump 0 [.v 24, .v 25, .v 26]))))) (.op .len [.v 20] (.op (.icmp .eql) [.v 23, .l (.int .i64 64)] (.ite (.v 24) (.op (.mk ItT.sl 1) [.v 20] (.op .app [.v 4, .v 25] (.op (.mk ItT 0) [] (.op (.ibin .add .i64) [.v 6, .l (.int .i64 1)] (.jump 0 [.v 26, .v 27, .v 28]))))) (.op .len [.v 0] (.op (.ibin .sub .i64) [.v 25, .l (.int .i64 1)] (.op (.icmp .eql) [.v 6, .v 26] (.ite (.v 27) (.op (.mk ItT.sl 1) [.v 20] (.op .app [.v 4, .v 28] (.op (.mk ItT 0) [] (.op (.ibin .add .i64) [.v 6, .l (.int .i64 1)] (.jump 0 [.v 29, .v 30, .v 31]))))) (.op (.ibin .add .i64) [.v 6, .l (.int .i64 1)] (.jump 0 [.v 4, .v 20, .v 28])))))))))))))))))) (.ret [.v 4]))))))
def sig1022 : Sig := { id := 1022, ins := [(false, ItT.sl.sl)], outs := [(false, [(ItT.sl, some 44)])] }
def ir1022 : IR := .op (.mk ItT 0) [] (.loop [.v 1, .l (.int .i64 0)] [ItT.sl, Ty.int .i64] (.op .len [.v 0] (.op (.icmp .lss) [.v 3, .v 4] (.ite (.v 5) (.op .inb [.v 0, .v 3] (.op (.idx ItT.sl) [.v 0, .v 3] (.op .app [.v 2, .v 6] (.op (.ibin .add .i64) [.v 3, .l (.int .i64 1)] (.jump 0 [.v 7, .v 8]))))) (.ret [.v 2])))))
abbrev Tr : Type := BT It
def skewT : Tr → Tr
  | .leaf => .leaf
  | .node x .leaf r k => .node x .leaf r k
  | .node x (.node y a b j) r k => if j = k then .node y a (.node x b r k) j else .node x (.node y a b j) r k
def splitT : Tr → Tr
  | .leaf => .leaf
  | .node x l .leaf k => .node x l .leaf k
  | .node x l (.node y a .leaf j) k => .node x l (.node y a .leaf j) k
  | .node x l (.node y a (.node z b c i) j) k => if i = k then .node y (.node x l a k) (.node z b c i) (IntKind.i64.wrap (j + 1)) else .node x l (.node y a (.node z b c i) j) k
def putT : Tr → It → Tr
  | .leaf, x => .node x .leaf .leaf 1
  | .node y l r k, x => if x.1 = y.1 then .node x l r k else if ltL x.1 y.1 = true then splitT (skewT (.node y (putT l x) r k)) else splitT (skewT (.node y l (putT r x) k))
def F1061 : List D → Option (List D)
  | [⟨.nd (.pair .str (.pair .bool (.pair .bool (.pair (.sl (.int .u8)) (.pair (.int .i64) (.pair (.int .i64) (.pair (.int .i64) (.int .u32)))))))), t⟩, ⟨.str, a⟩, ⟨.bool, d⟩, ⟨.bool, f⟩, ⟨.sl (.int .u8), b⟩, ⟨.int .i64, s⟩, ⟨.int .i64, p⟩, ⟨.int .i64, n⟩, ⟨.int .u32, m⟩] => some [⟨.nd ItT, putT t (a, d, f, b, s, p, n, m)⟩]
  | _ => none
def c1061 : Ct := ⟨sig1061, F1061⟩
noncomputable def F1062 : List D → Option (List D) := Fof [c1056] ir1062
noncomputable def c1062 : Ct := ⟨sig1062, F1062⟩
noncomputable def F1060 : List D → Option (List D) := Fof [] ir1060
noncomputable def c1060 : Ct := ⟨sig1060, F1060⟩
noncomputable def F1069 : List D → Option (List D) := Fof [] ir1069
noncomputable def c1069 : Ct := ⟨sig1069, F1069⟩
noncomputable def F1068 : List D → Option (List D) := Fof [] ir1068
noncomputable def c1068 : Ct := ⟨sig1068, F1068⟩
noncomputable def F1021 : List D → Option (List D) := Fof [c98, c1060, c1062, c1061] ir1021
noncomputable def c1021 : Ct := ⟨sig1021, F1021⟩
noncomputable def F1029 : List D → Option (List D) := Fof [] ir1029
noncomputable def c1029 : Ct := ⟨sig1029, F1029⟩
noncomputable def F1026 : List D → Option (List D) := Fof [] ir1026
noncomputable def c1026 : Ct := ⟨sig1026, F1026⟩
noncomputable def F1007 : List D → Option (List D) := Fof [c1026] ir1007
noncomputable def c1007 : Ct := ⟨sig1007, F1007⟩
noncomputable def F1022 : List D → Option (List D) := Fof [] ir1022
noncomputable def c1022 : Ct := ⟨sig1022, F1022⟩
end Go.Proofs.YtolcekkcenedjaaGreat.Sx

set_option maxHeartbeats 4000000
namespace Go.Proofs.YtolcekkcenedjaaGreat.Sx
section
variable {Φ : Nat → Cont} {R : Type} {lv n : Nat} {ρ : List (Nat × D)} {kr : List D → Option R} {kj : Nat → List D → Option R} {k : IR}
@[simp] theorem o_nod_it (a : List Int) (d f : Bool) (b : List Int) (s p q m : Int) (l r : BT It) (j : Int) : opD Φ (.nod ItT) [⟨.nd ItT, (BT.node (α := It) ((a, d, f, b, s, p, q, m) : It) l r j)⟩] k R lv n ρ kr kj =
    debP Φ k R lv n ρ [⟨.str, a⟩, ⟨.bool, d⟩, ⟨.bool, f⟩, ⟨.sl (.int .u8), b⟩, ⟨.int .i64, s⟩, ⟨.int .i64, p⟩, ⟨.int .i64, q⟩, ⟨.int .u32, m⟩, ⟨.nd ItT, l⟩, ⟨.nd ItT, r⟩, ⟨.int .i64, j⟩] kr kj := o_nod ItT _ _ _ _
@[simp] theorem mkn_it (a : List Int) (d f : Bool) (b : List Int) (s p q m : Int) (l r : BT It) (j : Int) : mknD ItT [⟨.str, a⟩, ⟨.bool, d⟩, ⟨.bool, f⟩, ⟨.sl (.int .u8), b⟩, ⟨.int .i64, s⟩, ⟨.int .i64, p⟩, ⟨.int .i64, q⟩, ⟨.int .u32, m⟩, ⟨.nd ItT, l⟩, ⟨.nd ItT, r⟩, ⟨.int .i64, j⟩] = some ⟨.nd ItT, (BT.node (α := It) ((a, d, f, b, s, p, q, m) : It) l r j)⟩ := rfl
@[simp] theorem d_leaf_it : (L.leaf ItT).d = ⟨.nd ItT, (BT.leaf : BT It)⟩ := rfl
end

theorem f1062 (k : List Int) (d f : Bool) (b : List Int) (s a n m : Int) (hl : b.length < 100000000000) : F1062 [⟨.str, k⟩, ⟨.bool, d⟩, ⟨.bool, f⟩, ⟨.sl (.int .u8), b⟩, ⟨.int .i64, s⟩, ⟨.int .i64, a⟩, ⟨.int .i64, n⟩, ⟨.int .u32, m⟩] = some [⟨.str, k⟩, ⟨.bool, d⟩, ⟨.bool, f⟩, ⟨.sl (.int .u8), b⟩, ⟨.int .i64, s⟩, ⟨.int .i64, a⟩, ⟨.int .i64, n⟩, ⟨.int .u32, m⟩] := by
  have h1056 := s1056 (lc := [c1056]) rfl
  simp only [F1062, Fof, ir1062]
  generalize Phi [c1056] = Φ at *
  have k1 := h1056 b hl
  simp -implicitDefEqProofs [k1]
theorem s1062 {lc : List Ct} (hl0 : look (lc.map fun c => (c.sig.id, c)) 1062 = some c1062) : ∀ (k : List Int) (d f : Bool) (b : List Int) (s a n m : Int) (hl : b.length < 100000000000), Does1 (Phi lc) 1062 [⟨.str, k⟩, ⟨.bool, d⟩, ⟨.bool, f⟩, ⟨.sl (.int .u8), b⟩, ⟨.int .i64, s⟩, ⟨.int .i64, a⟩, ⟨.int .i64, n⟩, ⟨.int .u32, m⟩] [⟨.str, k⟩, ⟨.bool, d⟩, ⟨.bool, f⟩, ⟨.sl (.int .u8), b⟩, ⟨.int .i64, s⟩, ⟨.int .i64, a⟩, ⟨.int .i64, n⟩, ⟨.int .u32, m⟩] :=
  fun k d f b s a n m hl => by
    have eFc : c1062.F = F1062 := rfl
    have eFh := f1062 k d f b s a n m hl
    rw [← eFc] at eFh
    exact Does1.of hl0 eFh rfl
theorem f1060 (k : List Int) (d f : Bool) (b : List Int) (s a n m : Int) (hk : k.length < 100000000000) (hl : b.length < 100000000000) : F1060 [⟨.str, k⟩, ⟨.bool, d⟩, ⟨.bool, f⟩, ⟨.sl (.int .u8), b⟩, ⟨.int .i64, s⟩, ⟨.int .i64, a⟩, ⟨.int .i64, n⟩, ⟨.int .u32, m⟩] = some [⟨.int .i64, wI (k, d, f, b, s, a, n, m)⟩] := by
  simp only [F1060, Fof, ir1060]
  have w1 : IntKind.i64.wrap ((k.length : Int) + 16) = k.length + 16 := wi64 _ (by omega) (by omega)
  have w2 : IntKind.i64.wrap ((k.length : Int) + 16 + b.length) = k.length + 16 + b.length := wi64 _ (by omega) (by omega)
  simp -implicitDefEqProofs [w1, w2, wI]
theorem s1060 {lc : List Ct} (hl0 : look (lc.map fun c => (c.sig.id, c)) 1060 = some c1060) : ∀ (k : List Int) (d f : Bool) (b : List Int) (s a n m : Int) (hk : k.length < 100000000000) (hl : b.length < 100000000000), Does1 (Phi lc) 1060 [⟨.str, k⟩, ⟨.bool, d⟩, ⟨.bool, f⟩, ⟨.sl (.int .u8), b⟩, ⟨.int .i64, s⟩, ⟨.int .i64, a⟩, ⟨.int .i64, n⟩, ⟨.int .u32, m⟩] [⟨.int .i64, wI (k, d, f, b, s, a, n, m)⟩] :=
  fun k d f b s a n m hk hl => by
    have eFc : c1060.F = F1060 := rfl
    have eFh := f1060 k d f b s a n m hk hl
    rw [← eFc] at eFh
    exact Does1.of hl0 eFh rfl
theorem leafB_leaf {α : Type} : (BT.leaf : BT α).leafB = true := rfl
theorem leafB_node {α : Type} (x : α) (l r : BT α) (k : Int) : (BT.node x l r k).leafB = false := rfl
theorem f1069 (x : It) (l r : Tr) (k : Int) : F1069 [⟨.nd ItT, .node x l r k⟩] = some [⟨.nd ItT, skewT (.node x l r k)⟩] := by
  simp only [F1069, Fof, ir1069]
  obtain ⟨a1, a2, a3, a4, a5, a6, a7, a8⟩ := x
  cases l with
  | leaf => simp -implicitDefEqProofs [leafB_leaf, leafB_node, skewT]
  | node y a b j =>
    obtain ⟨b1, b2, b3, b4, b5, b6, b7, b8⟩ := y
    by_cases h : j = k
    · simp -implicitDefEqProofs [leafB_leaf, leafB_node, skewT, h]
    · simp -implicitDefEqProofs [leafB_leaf, leafB_node, skewT, h]
theorem s1069 {lc : List Ct} (hl0 : look (lc.map fun c => (c.sig.id, c)) 1069 = some c1069) : ∀ (x : It) (l r : Tr) (k : Int), Does1 (Phi lc) 1069 [⟨.nd ItT, .node x l r k⟩] [⟨.nd ItT, skewT (.node x l r k)⟩] :=
  fun x l r k => by
    have eFc : c1069.F = F1069 := rfl
    have eFh := f1069 x l r k
    rw [← eFc] at eFh
    exact Does1.of hl0 eFh rfl
theorem f1068 (x : It) (l r : Tr) (k : Int) : F1068 [⟨.nd ItT, .node x l r k⟩] = some [⟨.nd ItT, splitT (.node x l r k)⟩] := by
  simp only [F1068, Fof, ir1068]
  obtain ⟨a1, a2, a3, a4, a5, a6, a7, a8⟩ := x
  cases r with
  | leaf => simp -implicitDefEqProofs [leafB_leaf, leafB_node, splitT]
  | node y a b j =>
    obtain ⟨b1, b2, b3, b4, b5, b6, b7, b8⟩ := y
    cases b with
    | leaf => simp -implicitDefEqProofs [leafB_leaf, leafB_node, splitT]
    | node z c d i =>
      obtain ⟨c1, c2, c3, c4, c5, c6, c7, c8⟩ := z
      by_cases h : i = k
      · simp -implicitDefEqProofs [leafB_leaf, leafB_node, splitT, h]
      · simp -implicitDefEqProofs [leafB_leaf, leafB_node, splitT, h]
theorem s1068 {lc : List Ct} (hl0 : look (lc.map fun c => (c.sig.id, c)) 1068 = some c1068) : ∀ (x : It) (l r : Tr) (k : Int), Does1 (Phi lc) 1068 [⟨.nd ItT, .node x l r k⟩] [⟨.nd ItT, splitT (.node x l r k)⟩] :=
  fun x l r k => by
    have eFc : c1068.F = F1068 := rfl
    have eFh := f1068 x l r k
    rw [← eFc] at eFh
    exact Does1.of hl0 eFh rfl

theorem skew_node (x : It) (l r : Tr) (k : Int) : ∃ x' l' r' k', skewT (.node x l r k) = .node x' l' r' k' := by
  cases l with
  | leaf => exact ⟨x, .leaf, r, k, rfl⟩
  | node y a b j =>
    by_cases h : j = k
    · exact ⟨y, a, .node x b r k, j, by simp only [skewT, if_pos h]⟩
    · exact ⟨x, .node y a b j, r, k, by simp only [skewT, if_neg h]⟩

theorem go1061 : ∀ (t : Tr) (k : List Int) (d f : Bool) (b : List Int) (s a n m : Int), ∃ N, Frec sig1061 [c1069, c1068] ir1061 N [⟨.nd ItT, t⟩, ⟨.str, k⟩, ⟨.bool, d⟩, ⟨.bool, f⟩, ⟨.sl (.int .u8), b⟩, ⟨.int .i64, s⟩, ⟨.int .i64, a⟩, ⟨.int .i64, n⟩, ⟨.int .u32, m⟩] = some [⟨.nd ItT, putT t (k, d, f, b, s, a, n, m)⟩]
  | .leaf, k, d, f, b, s, a, n, m => ⟨1, by
    simp only [Frec, Fof, ir1061]
    simp -implicitDefEqProofs [leafB_leaf, leafB_node, putT]⟩
  | .node (y1, y2, y3, y4, y5, y6, y7, y8) l r j, k, d, f, b, s, a, n, m => by
    by_cases he : k = y1
    · refine ⟨1, ?_⟩
      simp only [Frec, Fof, ir1061]
      simp -implicitDefEqProofs [leafB_leaf, leafB_node, putT, he]
    by_cases hlt : ltL k y1 = true
    · obtain ⟨N, ih⟩ := go1061 l k d f b s a n m
      refine ⟨N + 1, ?_⟩
      have h1061 : Does1 (Phi (⟨sig1061, Frec sig1061 [c1069, c1068] ir1061 N⟩ :: [c1069, c1068])) 1061 _ _ := Does1.of rfl ih rfl
      have h1069 := s1069 (lc := ⟨sig1061, Frec sig1061 [c1069, c1068] ir1061 N⟩ :: [c1069, c1068]) rfl (y1, y2, y3, y4, y5, y6, y7, y8) (putT l (k, d, f, b, s, a, n, m)) r j
      have h1068 := s1068 (lc := ⟨sig1061, Frec sig1061 [c1069, c1068] ir1061 N⟩ :: [c1069, c1068]) rfl
      have hp : putT (.node (y1, y2, y3, y4, y5, y6, y7, y8) l r j) (k, d, f, b, s, a, n, m) = splitT (skewT (.node (y1, y2, y3, y4, y5, y6, y7, y8) (putT l (k, d, f, b, s, a, n, m)) r j)) := by
        rw [putT, if_neg he, if_pos hlt]
      obtain ⟨z, l', r', k', hz⟩ := skew_node (y1, y2, y3, y4, y5, y6, y7, y8) (putT l (k, d, f, b, s, a, n, m)) r j
      have h1068' := h1068 z l' r' k'
      rw [hp]
      rw [hz] at h1069 ⊢
      simp only [Frec, Fof]
      generalize Phi _ = Φ at *
      simp only [ir1061]
      simp -implicitDefEqProofs [leafB_leaf, leafB_node, he, hlt, h1061, h1069, h1068']
    · have hlt : ltL k y1 = false := by simpa using hlt
      obtain ⟨N, ih⟩ := go1061 r k d f b s a n m
      refine ⟨N + 1, ?_⟩
      have h1061 : Does1 (Phi (⟨sig1061, Frec sig1061 [c1069, c1068] ir1061 N⟩ :: [c1069, c1068])) 1061 _ _ := Does1.of rfl ih rfl
      have h1069 := s1069 (lc := ⟨sig1061, Frec sig1061 [c1069, c1068] ir1061 N⟩ :: [c1069, c1068]) rfl (y1, y2, y3, y4, y5, y6, y7, y8) l (putT r (k, d, f, b, s, a, n, m)) j
      have h1068 := s1068 (lc := ⟨sig1061, Frec sig1061 [c1069, c1068] ir1061 N⟩ :: [c1069, c1068]) rfl
      have hp : putT (.node (y1, y2, y3, y4, y5, y6, y7, y8) l r j) (k, d, f, b, s, a, n, m) = splitT (skewT (.node (y1, y2, y3, y4, y5, y6, y7, y8) l (putT r (k, d, f, b, s, a, n, m)) j)) := by
        rw [putT, if_neg he, if_neg (by simp [hlt])]
      obtain ⟨z, l', r', k', hz⟩ := skew_node (y1, y2, y3, y4, y5, y6, y7, y8) l (putT r (k, d, f, b, s, a, n, m)) j
      have h1068' := h1068 z l' r' k'
      rw [hp]
      rw [hz] at h1069 ⊢
      simp only [Frec, Fof]
      generalize Phi _ = Φ at *
      simp only [ir1061]
      simp -implicitDefEqProofs [leafB_leaf, leafB_node, he, hlt, h1061, h1069, h1068']

theorem any1061 (ds rs : List D) (h : F1061 ds = some rs) : ∃ n, Frec sig1061 [c1069, c1068] ir1061 n ds = some rs := by
  unfold F1061 at h
  split at h
  · simp only [Option.some.injEq] at h
    subst h
    exact go1061 _ _ _ _ _ _ _ _ _
  · cases h
theorem s1061 {lc : List Ct} (hl0 : look (lc.map fun c => (c.sig.id, c)) 1061 = some c1061) : ∀ (t : Tr) (k : List Int) (d f : Bool) (b : List Int) (s a n m : Int), Does1 (Phi lc) 1061 [⟨.nd ItT, t⟩, ⟨.str, k⟩, ⟨.bool, d⟩, ⟨.bool, f⟩, ⟨.sl (.int .u8), b⟩, ⟨.int .i64, s⟩, ⟨.int .i64, a⟩, ⟨.int .i64, n⟩, ⟨.int .u32, m⟩] [⟨.nd ItT, putT t (k, d, f, b, s, a, n, m)⟩] :=
  fun t k d f b s a n m => Does1.of hl0 rfl rfl
end Go.Proofs.YtolcekkcenedjaaGreat.Sx

set_option maxHeartbeats 8000000
namespace Go.Proofs.YtolcekkcenedjaaGreat.Sx
attribute [local simp] leafB_leaf leafB_node

def allK (P : List Int → Prop) : Tr → Prop
  | .leaf => True
  | .node x l r _ => P x.1 ∧ allK P l ∧ allK P r
theorem allK_mono {P Q : List Int → Prop} (h : ∀ k, P k → Q k) : ∀ t : Tr, allK P t → allK Q t
  | .leaf, _ => trivial
  | .node x l r _, ⟨h1, h2, h3⟩ => ⟨h _ h1, allK_mono h l h2, allK_mono h r h3⟩
theorem allK_skew {P : List Int → Prop} (x : It) (l r : Tr) (k : Int) (h : allK P (.node x l r k)) : allK P (skewT (.node x l r k)) := by
  cases l with
  | leaf => exact h
  | node y a b j =>
    simp only [skewT]
    split
    · simp only [allK] at h ⊢; exact ⟨h.2.1.1, h.2.1.2.1, h.1, h.2.1.2.2, h.2.2⟩
    · exact h
theorem allK_split {P : List Int → Prop} (t : Tr) (h : allK P t) : allK P (splitT t) := by
  match t, h with
  | .leaf, h => exact h
  | .node x l .leaf k, h => exact h
  | .node x l (.node y a .leaf j) k, h => exact h
  | .node x l (.node y a (.node z b c i) j) k, h =>
    simp only [splitT]
    split
    · simp only [allK] at h ⊢; exact ⟨h.2.2.1, ⟨h.1, h.2.1, h.2.2.2.1⟩, h.2.2.2.2⟩
    · exact h
theorem allK_put {P : List Int → Prop} : ∀ (t : Tr) (x : It), allK P t → P x.1 → allK P (putT t x)
  | .leaf, x, _, hx => ⟨hx, trivial, trivial⟩
  | .node y l r k, x, ⟨h1, h2, h3⟩, hx => by
    rw [putT]
    split
    · exact ⟨hx, h2, h3⟩
    · split
      · exact allK_split _ (allK_skew _ _ _ _ ⟨h1, allK_put l x h2 hx, h3⟩)
      · exact allK_split _ (allK_skew _ _ _ _ ⟨h1, h2, allK_put r x h3 hx⟩)
def tsize : Tr → Nat
  | .leaf => 0 | .node _ l r _ => tsize l + tsize r + 1

theorem srt_adj : ∀ (q : Option (List Int)) (l : List It), srt q l = true → ∀ (i : Nat) (h : i + 1 < l.length), ltL (l[i]'(by omega)).1 (l[i + 1]'h).1 = true
  | q, [], _, i, h => by simp at h
  | q, [x], _, i, h => by simp at h
  | q, x :: y :: r, hs, 0, h => by
    simp only [srt, Bool.and_eq_true] at hs
    exact hs.2.1.2
  | q, x :: y :: r, hs, i + 1, h => by
    simp only [srt, Bool.and_eq_true] at hs
    have h2 : srt (some x.1) (y :: r) = true := by simp only [srt, Bool.and_eq_true]; exact hs.2
    exact srt_adj (some x.1) (y :: r) h2 i (by simpa using h)

theorem find_loop {R : Type} (key : List Int) {st : Tr → Option (LS Tr R)} {r : R} (t : Tr) (h : allK (fun k => ltL k key = true) t)
    (h1 : st .leaf = some (.out r)) (h2 : ∀ (y : It) (a b : Tr) (j : Int), ¬ key = y.1 → ltL key y.1 = false → st (.node y a b j) = some (.again b)) : iter st t = some r := by
  refine iter_meas tsize (fun _ => r) (allK (fun k => ltL k key = true)) h ?_
  intro s hs
  cases s with
  | leaf => exact .inr h1
  | node y a b j =>
    obtain ⟨i1, i2, i3⟩ := hs
    have := ltL_asymm _ _ i1
    exact .inl ⟨b, h2 y a b j this.2 this.1, i3, by simp only [tsize]; omega, rfl⟩

theorem w_bound {x : It} (h : itErr x = 0) : 0 ≤ wI x ∧ wI x ≤ 112 ∧ x.1.length ≤ 64 ∧ x.2.2.2.1.length ≤ 32 := by
  have h1 := srt_len (p := none) (l := [x]) (by simp only [srt, h, decide_true, Bool.and_self, Bool.true_and]) x (by simp)
  unfold wI; omega
theorem wgt_le : ∀ (p : List It), (∀ x ∈ p, itErr x = 0) → wgt p ≤ 112 * p.length
  | [], _ => by simp [wgt]
  | x :: p, h => by
    have h1 := (w_bound (h x (by simp))).2.1
    have h2 := wgt_le p (fun y hy => h y (by simp [hy]))
    simp only [wgt, List.length_cons]; omega

abbrev PS : Type := List (List It) × Int × Int × Int × Tr × Int × Int × Bool
theorem f1021 (l : List It) (size : Int) (hl : l.length ≤ 20000) (hs : srt none l = true) : F1021 [⟨.sl ItT, l⟩, ⟨.int .i64, size⟩] = some [⟨.sl (.sl ItT), parted size l⟩] := by
  have h98 := s98 (lc := [c98, c1060, c1062, c1061]) rfl
  have h1060 := s1060 (lc := [c98, c1060, c1062, c1061]) rfl
  have h1062 := s1062 (lc := [c98, c1060, c1062, c1061]) rfl
  have h1061 := s1061 (lc := [c98, c1060, c1062, c1061]) rfl
  simp only [F1021, Fof, ir1021]
  generalize Phi [c98, c1060, c1062, c1061] = Φ at *
  have hok := srt_ok none l hs
  have hadj := srt_adj none l hs
  simp -implicitDefEqProofs
  refine (iter_meas (fun s : PS => (l.length - s.2.2.2.1).toNat) (fun s => ([⟨.sl (.sl ItT), s.1 ++ partsGo size ((l.drop s.2.1.toNat).take (s.2.2.2.1 - s.2.1).toNat) (l.drop s.2.2.2.1.toNat)⟩] : List D))
    (fun s => 0 ≤ s.2.1 ∧ s.2.1 ≤ s.2.2.2.1 ∧ s.2.2.2.1 ≤ l.length ∧ s.2.2.2.1 - s.2.1 < 64 ∧ s.1.length ≤ s.2.2.2.1.toNat ∧ s.2.2.2.2.2.1 = s.2.2.2.1 - s.2.1 ∧ s.2.2.2.2.2.2.1 = wgt ((l.drop s.2.1.toNat).take (s.2.2.2.1 - s.2.1).toNat) ∧ s.2.2.2.2.2.2.2 = true ∧
      (∀ x, l[s.2.2.2.1.toNat]? = some x → allK (fun k => ltL k x.1 = true) s.2.2.2.2.1))
    (by exact ⟨by simp, by simp, by simp, by simp, by simp, by simp, by simp [wgt], rfl, fun x _ => trivial⟩) ?_).trans (by simp [parted])
  rintro ⟨out, from_, w0, i, t, n, w, made⟩ ⟨h1, h2, h3, h4, h5, h6, h7, h8, h9⟩
  simp only at h1 h2 h3 h4 h5 h6 h7 h8 h9 ⊢
  subst h8
  by_cases hi : i < l.length
  rotate_left
  · refine .inr ?_
    rw [List.drop_eq_nil_of_le (i := i.toNat) (by omega)]
    simp -implicitDefEqProofs [hi, partsGo]
  have b1 : 0 ≤ i ∧ i < (l.length : Int) := ⟨by omega, hi⟩
  have g1 := getG (l := l) (d := dflt ItT) (i := i) (by omega) (by omega)
  have g2 : l[i.toNat]? = some (l[i.toNat]'(by omega)) := List.getElem?_eq_getElem (by omega)
  have hx0 := hok _ (List.getElem_mem (l := l) (n := i.toNat) (by omega))
  have hnx : ∀ y, l[i.toNat + 1]? = some y → ltL (l[i.toNat]'(by omega)).1 y.1 = true := by
    intro y hy
    by_cases hlt : i.toNat + 1 < l.length
    · rw [List.getElem?_eq_getElem hlt] at hy
      simp only [Option.some.injEq] at hy
      rw [← hy]; exact hadj i.toNat hlt
    · rw [List.getElem?_eq_none (by omega)] at hy; cases hy
  have hpx : (l.drop from_.toNat).take (i - from_).toNat ++ [l[i.toNat]'(by omega)] = (l.drop from_.toNat).take (i + 1 - from_).toNat := by
    rw [show (i + 1 - from_).toNat = (i - from_).toNat + 1 by omega, List.take_add_one, List.getElem?_drop, show from_.toNat + (i - from_).toNat = i.toNat by omega, g2]; rfl
  have hpl : ((l.drop from_.toNat).take (i - from_).toNat).length = (i - from_).toNat := by rw [List.length_take, List.length_drop]; omega
  have hwp := wgt_le ((l.drop from_.toNat).take (i - from_).toNat) (fun y hy => hok y (List.mem_of_mem_drop (List.mem_of_mem_take hy)))
  have hwn := wgt_nonneg ((l.drop from_.toNat).take (i - from_).toNat)
  rw [hpl, ← h7] at hwp
  rw [← h7] at hwn
  have hk := h9 _ g2
  rw [dropI (by omega) hi]
  generalize hcx : l[i.toNat]'(by omega) = x at *
  have hful : (l.take (i + 1).toNat).drop from_.toNat = (l.drop from_.toNat).take (i + 1 - from_).toNat := by
    rw [List.drop_take]; congr 1; omega
  have hwg : wgt ((l.drop from_.toNat).take (i + 1 - from_).toNat) = w + wI x := by rw [← hpx, wgt_app, ← h7]; simp [wgt]
  have hput := allK_put (P := fun k => k = x.1 ∨ ltL k x.1 = true) t x (allK_mono (fun k hk => .inr hk) t hk) (.inl rfl)
  have hwb := w_bound hx0
  obtain ⟨k, d, f, b, s, a, m, c⟩ := x
  simp only at hk hwb hput hnx
  have k1 := h98 k d f b s a m c
  have hx0' : iErr k d f b s a m c = 0 := hx0
  rw [hx0'] at k1
  have k2 := h1060 k d f b s a m c (by omega) (by omega)
  have k3 := h1062 k d f b s a m c (by omega)
  have k4 := h1061 t k d f b s a m c
  have wi : IntKind.i64.wrap (i + 1) = i + 1 := wi64 _ (by omega) (by omega)
  have wn : IntKind.i64.wrap (n + 1) = n + 1 := wi64 _ (by omega) (by omega)
  have ww : IntKind.i64.wrap (w + wI (k, d, f, b, s, a, m, c)) = w + wI (k, d, f, b, s, a, m, c) := wi64 _ (by omega) (by omega)
  have wl : IntKind.i64.wrap ((l.length : Int) - 1) = l.length - 1 := wi64 _ (by omega) (by omega)
  have hB : out.length + 1 ≤ BIG := by simp only [BIG]; omega
  have bf : 0 ≤ from_ ∧ from_ ≤ i + 1 ∧ i + 1 ≤ (l.length : Int) := by omega
  generalize hT : putT t (k, d, f, b, s, a, m, c) = t2 at *
  generalize hW : wI (k, d, f, b, s, a, m, c) = wx at *
  generalize hR : l.drop (i + 1).toNat = r at *
  have hrn : r = [] ↔ i = l.length - 1 := by
    rw [← hR, List.drop_eq_nil_iff]; omega
  rw [partsGo, hpx]
  have hfull : (full size ((l.drop from_.toNat).take (i + 1 - from_).toNat) = true) ↔ (size ≤ w + wx ∨ n + 1 = 64) := by
    have hl2 : ((l.drop from_.toNat).take (i + 1 - from_).toNat).length = (i + 1 - from_).toNat := by rw [List.length_take, List.length_drop]; omega
    simp only [full, decide_eq_true_eq, hwg, hl2]
    omega
  by_cases hcut : full size ((l.drop from_.toNat).take (i + 1 - from_).toNat) = true ∨ r = []
  · rw [if_pos hcut]
    refine .inl ⟨(out ++ [(l.drop from_.toNat).take (i + 1 - from_).toNat], i + 1, w + wx, i + 1, .leaf, 0, 0, true), ?_, ⟨by (try simp only); omega, by (try simp only); omega, by (try simp only); omega, by (try simp only); omega, by simp; omega, by (try simp only); omega, by simp [wgt], rfl, fun _ _ => trivial⟩, by (try simp only); omega, ?_⟩
    · simp -implicitDefEqProofs [hi, b1, g1, hcx, k1]
      refine find_loop k t hk ?_ ?_
      · by_cases c1 : size ≤ w + wx
        · simp -implicitDefEqProofs [k2, k3, k4, wi, wn, ww, c1, bf, hful, hB]
        · by_cases c2 : n + 1 = 64
          · simp -implicitDefEqProofs [k2, k3, k4, wi, wn, ww, c1, c2, bf, hful, hB, show IntKind.i64.wrap 64 = 64 from by decide]
          · have c3 : i = l.length - 1 := by
              rcases hcut with h | h
              · rcases hfull.1 h with h | h
                · exact absurd h c1
                · exact absurd h c2
              · exact hrn.1 h
            have wl' : IntKind.i64.wrap ((l.length : Int) - 1) = i := by rw [wl, c3]
            simp -implicitDefEqProofs [k2, k3, k4, wi, wn, ww, wl', c1, c2, bf, hful, hB]
      · rintro ⟨y1, y2, y3, y4, y5, y6, y7, y8⟩ ya yb yj q1 q2
        simp only at q1 q2
        simp -implicitDefEqProofs [q1, q2]
    · simp only [Int.sub_self, Int.toNat_zero, List.take_zero, List.append_assoc, List.cons_append, List.nil_append, hR]
  · rw [if_neg hcut]
    have c1 : ¬ size ≤ w + wx := fun h => hcut (.inl (hfull.2 (.inl h)))
    have c2 : ¬ n + 1 = 64 := fun h => hcut (.inl (hfull.2 (.inr h)))
    have c3 : ¬ i = l.length - 1 := fun h => hcut (.inr (hrn.2 h))
    refine .inl ⟨(out, from_, w + wx, i + 1, t2, n + 1, w + wx, true), ?_, ⟨by (try simp only); omega, by (try simp only); omega, by (try simp only); omega, by (try simp only); omega, by (try simp only); omega, by (try simp only); omega, hwg.symm, rfl, fun y hy => ?_⟩, by (try simp only); omega, by simp only [hR]⟩
    · simp -implicitDefEqProofs [hi, b1, g1, hcx, k1]
      refine find_loop k t hk ?_ ?_
      · simp -implicitDefEqProofs [k2, k3, k4, wi, wn, ww, wl, c1, c2, c3]
      · rintro ⟨y1, y2, y3, y4, y5, y6, y7, y8⟩ ya yb yj q1 q2
        simp only at q1 q2
        simp -implicitDefEqProofs [q1, q2]
    · simp only at hy ⊢
      have hlt := hnx y (by rw [← hy]; congr 1; omega)
      refine allK_mono (fun z hz => ?_) t2 hput
      rcases hz with rfl | hz
      · exact hlt
      · exact ltL_trans _ _ _ hz hlt
theorem s1021 {lc : List Ct} (hl0 : look (lc.map fun c => (c.sig.id, c)) 1021 = some c1021) : ∀ (l : List It) (size : Int) (hl : l.length ≤ 20000) (hs : srt none l = true), Does1 (Phi lc) 1021 [⟨.sl ItT, l⟩, ⟨.int .i64, size⟩] [⟨.sl (.sl ItT), parted size l⟩] :=
  fun l size hl hs => by
    have eFc : c1021.F = F1021 := rfl
    have eFh := f1021 l size hl hs
    rw [← eFc] at eFh
    exact Does1.of hl0 eFh rfl
end Go.Proofs.YtolcekkcenedjaaGreat.Sx

set_option maxHeartbeats 4000000
namespace Go.Proofs.YtolcekkcenedjaaGreat.Sx
@[simp] theorem mk_it (a : List Int) (d f : Bool) (b : List Int) (s p q m : Int) : mkD ItT 1 [⟨.str, a⟩, ⟨.bool, d⟩, ⟨.bool, f⟩, ⟨.sl (.int .u8), b⟩, ⟨.int .i64, s⟩, ⟨.int .i64, p⟩, ⟨.int .i64, q⟩, ⟨.int .u32, m⟩] = some ⟨.sl ItT, [(a, d, f, b, s, p, q, m)]⟩ := rfl

theorem f1029 (l : List It) (hl : l.length ≤ 1000000) : F1029 [⟨.sl ItT, l⟩] = some [⟨.sl .str, keysOf l⟩] := by
  simp only [F1029, Fof, ir1029]
  simp -implicitDefEqProofs
  refine (iter_meas (fun s : List (List Int) × Int => (l.length - s.2).toNat) (fun s => ([⟨.sl .str, s.1 ++ keysOf (l.drop s.2.toNat)⟩] : List D)) (fun s => 0 ≤ s.2 ∧ s.2 ≤ l.length ∧ s.1.length ≤ s.2.toNat) (by exact ⟨by simp, by simp, by simp⟩) ?_).trans (by simp)
  rintro ⟨acc, i⟩ ⟨h1, h2, h3⟩
  simp only at h1 h2 h3 ⊢
  by_cases hi : i < l.length
  rotate_left
  · refine .inr ?_
    rw [List.drop_eq_nil_of_le (by omega)]
    simp -implicitDefEqProofs [hi, keysOf]
  rw [dropI h1 hi]
  have g1 := getG (l := l) (d := dflt ItT) h1 (by omega)
  have b1 : 0 ≤ i ∧ i < (l.length : Int) := ⟨h1, hi⟩
  have wi : IntKind.i64.wrap (i + 1) = i + 1 := wi64 _ (by omega) (by omega)
  have hB : acc.length + 1 ≤ BIG := by simp only [BIG]; omega
  generalize hcx : l[i.toNat]'(by omega) = x at *
  refine .inl ⟨(acc ++ [x.1], i + 1), ?_, ⟨by (try simp only); omega, by (try simp only); omega, by simp; omega⟩, by (try simp only); omega, ?_⟩
  · simp -implicitDefEqProofs [hi, b1, g1, hcx, wi, hB]
  · simp [keysOf]
theorem s1029 {lc : List Ct} (hl0 : look (lc.map fun c => (c.sig.id, c)) 1029 = some c1029) : ∀ (l : List It) (hl : l.length ≤ 1000000), Does1 (Phi lc) 1029 [⟨.sl ItT, l⟩] [⟨.sl .str, keysOf l⟩] :=
  fun l hl => by
    have eFc : c1029.F = F1029 := rfl
    have eFh := f1029 l hl
    rw [← eFc] at eFh
    exact Does1.of hl0 eFh rfl
theorem f1026 (l : List It) (hl : l.length ≤ 1000000) (hk : ∀ x ∈ l, x.1.length < 1000000000 ∧ x.2.2.2.1.length < 1000000000) : F1026 [⟨.sl ItT, l⟩] = some [⟨.int .i64, wgt l⟩] := by
  simp only [F1026, Fof, ir1026]
  simp -implicitDefEqProofs
  refine (iter_meas (fun s : Int × Int => (l.length - s.2).toNat) (fun s => ([⟨.int .i64, s.1 + wgt (l.drop s.2.toNat)⟩] : List D)) (fun s => 0 ≤ s.2 ∧ s.2 ≤ l.length ∧ 0 ≤ s.1 ∧ s.1 ≤ 2000000016 * s.2) (by exact ⟨by simp, by simp, by simp, by simp⟩) ?_).trans (by simp)
  rintro ⟨acc, i⟩ ⟨h1, h2, h3, h4⟩
  simp only at h1 h2 h3 h4 ⊢
  by_cases hi : i < l.length
  rotate_left
  · refine .inr ?_
    rw [List.drop_eq_nil_of_le (by omega)]
    simp -implicitDefEqProofs [hi, wgt]
  rw [dropI h1 hi]
  have g1 := getG (l := l) (d := dflt ItT) h1 (by omega)
  have b1 : 0 ≤ i ∧ i < (l.length : Int) := ⟨h1, hi⟩
  have hx := hk _ (List.getElem_mem (l := l) (n := i.toNat) (by omega))
  have wi : IntKind.i64.wrap (i + 1) = i + 1 := wi64 _ (by omega) (by omega)
  generalize hcx : l[i.toNat]'(by omega) = x at *
  have w1 : IntKind.i64.wrap (acc + x.1.length) = acc + x.1.length := wi64 _ (by omega) (by omega)
  have w2 : IntKind.i64.wrap (acc + x.1.length + 16) = acc + x.1.length + 16 := wi64 _ (by omega) (by omega)
  have w3 : IntKind.i64.wrap (acc + x.1.length + 16 + x.2.2.2.1.length) = acc + x.1.length + 16 + x.2.2.2.1.length := wi64 _ (by omega) (by omega)
  refine .inl ⟨(acc + x.1.length + 16 + x.2.2.2.1.length, i + 1), ?_, ⟨by (try simp only); omega, by (try simp only); omega, by (try simp only); omega, by (try simp only); omega⟩, by (try simp only); omega, ?_⟩
  · simp -implicitDefEqProofs [hi, b1, g1, hcx, wi, w1, w2, w3]
  · simp only [wgt, wI]
    congr 2
    exact (by omega : acc + x.1.length + 16 + x.2.2.2.1.length + wgt (l.drop (i + 1).toNat) = acc + ((x.1.length : Int) + 16 + x.2.2.2.1.length + wgt (l.drop (i + 1).toNat)))
theorem s1026 {lc : List Ct} (hl0 : look (lc.map fun c => (c.sig.id, c)) 1026 = some c1026) : ∀ (l : List It) (hl : l.length ≤ 1000000) (hk : ∀ x ∈ l, x.1.length < 1000000000 ∧ x.2.2.2.1.length < 1000000000), Does1 (Phi lc) 1026 [⟨.sl ItT, l⟩] [⟨.int .i64, wgt l⟩] :=
  fun l hl hk => by
    have eFc : c1026.F = F1026 := rfl
    have eFh := f1026 l hl hk
    rw [← eFc] at eFh
    exact Does1.of hl0 eFh rfl
theorem f1007 (l : List It) (size : Int) (hl : l.length ≤ 1000000) (hk : ∀ x ∈ l, x.1.length < 1000000000 ∧ x.2.2.2.1.length < 1000000000) : F1007 [⟨.sl ItT, l⟩, ⟨.int .i64, size⟩] = some [⟨.sl (.sl ItT), parted size l⟩] := by
  have h1026 := s1026 (lc := [c1026]) rfl
  simp only [F1007, Fof, ir1007]
  generalize Phi [c1026] = Φ at *
  simp -implicitDefEqProofs
  refine (iter_meas (fun s : List (List It) × List It × Int => (l.length - s.2.2).toNat) (fun s => ([⟨.sl (.sl ItT), s.1 ++ partsGo size s.2.1 (l.drop s.2.2.toNat)⟩] : List D)) (fun s => 0 ≤ s.2.2 ∧ s.2.2 ≤ l.length ∧ s.1.length ≤ s.2.2.toNat ∧ s.2.1.length < 64 ∧ ∀ x ∈ s.2.1, x ∈ l) (by exact ⟨by simp, by simp, by simp, by simp, by simp⟩) ?_).trans (by simp [parted])
  rintro ⟨out, p, i⟩ ⟨h1, h2, h3, h4, h5⟩
  simp only at h1 h2 h3 h4 h5 ⊢
  by_cases hi : i < l.length
  rotate_left
  · refine .inr ?_
    rw [List.drop_eq_nil_of_le (by omega)]
    simp -implicitDefEqProofs [hi, partsGo]
  rw [dropI h1 hi]
  have g1 := getG (l := l) (d := dflt ItT) h1 (by omega)
  have b1 : 0 ≤ i ∧ i < (l.length : Int) := ⟨h1, hi⟩
  have hm : l[i.toNat]'(by omega) ∈ l := List.getElem_mem _
  have wi : IntKind.i64.wrap (i + 1) = i + 1 := wi64 _ (by omega) (by omega)
  have wl : IntKind.i64.wrap ((l.length : Int) - 1) = l.length - 1 := wi64 _ (by omega) (by omega)
  have hB : out.length + 1 ≤ BIG := by simp only [BIG]; omega
  have hB1 : p.length ≤ BIG := by simp only [BIG]; omega
  have hB2 : p.length + 1 ≤ BIG := by simp only [BIG]; omega
  generalize hcx : l[i.toNat]'(by omega) = x at *
  have hpm : ∀ y ∈ p ++ [x], y ∈ l := by
    intro y hy
    rcases List.mem_append.1 hy with hy | hy
    · exact h5 y hy
    · simp only [List.mem_singleton] at hy; rw [hy]; exact hm
  have k1 := h1026 (p ++ [x]) (by simp; omega) (fun y hy => hk y (hpm y hy))
  generalize hR : l.drop (i + 1).toNat = r at *
  have hrn : r = [] ↔ i = l.length - 1 := by rw [← hR, List.drop_eq_nil_iff]; omega
  have hpl : (p ++ [x]).length = p.length + 1 := by simp
  rw [partsGo]
  by_cases hcut : full size (p ++ [x]) = true ∨ r = []
  · rw [if_pos hcut]
    refine .inl ⟨(out ++ [p ++ [x]], [], i + 1), ?_, ⟨by (try simp only); omega, by (try simp only); omega, by simp; omega, by simp, by simp⟩, by (try simp only); omega, ?_⟩
    · by_cases c1 : size ≤ wgt (p ++ [x])
      · simp -implicitDefEqProofs [hi, b1, g1, hcx, wi, hB, hB1, hB2, k1, c1]
      · by_cases c2 : p.length + 1 = 64
        · have c2' : (p.length : Int) + 1 = 64 := by omega
          simp -implicitDefEqProofs [hi, b1, g1, hcx, wi, hB, hB1, hB2, k1, c1, c2, c2', show 64 ≤ BIG from by decide]
        · have c2' : ¬ (p.length : Int) + 1 = 64 := by omega
          have c3 : i = l.length - 1 := by
            rcases hcut with h | h
            · simp only [full, decide_eq_true_eq, hpl] at h
              rcases h with h | h
              · exact absurd h c1
              · exact absurd h c2
            · exact hrn.1 h
          have wl' : IntKind.i64.wrap ((l.length : Int) - 1) = i := by rw [wl, c3]
          simp -implicitDefEqProofs [hi, b1, g1, hcx, wi, hB, hB1, hB2, k1, c1, c2, c2', wl']
    · simp only [List.append_assoc, List.cons_append, List.nil_append, hR]
  · rw [if_neg hcut]
    have c1 : ¬ size ≤ wgt (p ++ [x]) := fun h => hcut (.inl (by simp only [full, decide_eq_true_eq]; exact .inl h))
    have c2 : ¬ p.length + 1 = 64 := fun h => hcut (.inl (by simp only [full, decide_eq_true_eq, hpl]; exact .inr h))
    have c2' : ¬ (p.length : Int) + 1 = 64 := by omega
    have c3 : ¬ i = l.length - 1 := fun h => hcut (.inr (hrn.2 h))
    refine .inl ⟨(out, p ++ [x], i + 1), ?_, ⟨by (try simp only); omega, by (try simp only); omega, by (try simp only); omega, by simp; omega, hpm⟩, by (try simp only); omega, by simp only [hR]⟩
    simp -implicitDefEqProofs [hi, b1, g1, hcx, wi, hB1, hB2, k1, c1, c2, c2', wl, c3]
theorem s1007 {lc : List Ct} (hl0 : look (lc.map fun c => (c.sig.id, c)) 1007 = some c1007) : ∀ (l : List It) (size : Int) (hl : l.length ≤ 1000000) (hk : ∀ x ∈ l, x.1.length < 1000000000 ∧ x.2.2.2.1.length < 1000000000), Does1 (Phi lc) 1007 [⟨.sl ItT, l⟩, ⟨.int .i64, size⟩] [⟨.sl (.sl ItT), parted size l⟩] :=
  fun l size hl hk => by
    have eFc : c1007.F = F1007 := rfl
    have eFh := f1007 l size hl hk
    rw [← eFc] at eFh
    exact Does1.of hl0 eFh rfl
theorem f1022 (ps : List (List It)) (hl : ps.flatten.length ≤ 100000000) (hp : ps.length ≤ 100000000) : F1022 [⟨.sl (.sl ItT), ps⟩] = some [⟨.sl ItT, ps.flatten⟩] := by
  simp only [F1022, Fof, ir1022]
  simp -implicitDefEqProofs
  refine (iter_meas (fun s : List It × Int => (ps.length - s.2).toNat) (fun s => ([⟨.sl ItT, s.1 ++ (ps.drop s.2.toNat).flatten⟩] : List D)) (fun s => 0 ≤ s.2 ∧ s.2 ≤ ps.length ∧ s.1.length + (ps.drop s.2.toNat).flatten.length ≤ 100000000) (by exact ⟨by simp, by simp, by simpa using hl⟩) ?_).trans (by simp)
  rintro ⟨acc, i⟩ ⟨h1, h2, h3⟩
  simp only at h1 h2 h3 ⊢
  by_cases hi : i < ps.length
  rotate_left
  · refine .inr ?_
    rw [List.drop_eq_nil_of_le (by omega)]
    simp -implicitDefEqProofs [hi]
  rw [dropI h1 hi] at h3 ⊢
  have g1 := getG (l := ps) (d := dflt (.sl ItT)) h1 (by omega)
  have b1 : 0 ≤ i ∧ i < (ps.length : Int) := ⟨h1, hi⟩
  have wi : IntKind.i64.wrap (i + 1) = i + 1 := wi64 _ (by omega) (by omega)
  generalize hcx : ps[i.toNat]'(by omega) = x at *
  rw [List.flatten_cons, List.length_append] at h3
  have hB : acc.length + x.length ≤ BIG := by simp only [BIG]; omega
  refine .inl ⟨(acc ++ x, i + 1), ?_, ⟨by (try simp only); omega, by (try simp only); omega, by simp only [List.length_append]; omega⟩, by (try simp only); omega, ?_⟩
  · simp -implicitDefEqProofs [hi, b1, g1, hcx, wi, hB]
  · simp only [List.flatten_cons, List.append_assoc]
theorem s1022 {lc : List Ct} (hl0 : look (lc.map fun c => (c.sig.id, c)) 1022 = some c1022) : ∀ (ps : List (List It)) (hl : ps.flatten.length ≤ 100000000) (hp : ps.length ≤ 100000000), Does1 (Phi lc) 1022 [⟨.sl (.sl ItT), ps⟩] [⟨.sl ItT, ps.flatten⟩] :=
  fun ps hl hp => by
    have eFc : c1022.F = F1022 := rfl
    have eFh := f1022 ps hl hp
    rw [← eFc] at eFh
    exact Does1.of hl0 eFh rfl
end Go.Proofs.YtolcekkcenedjaaGreat.Sx

namespace Go.Proofs.YtolcekkcenedjaaGreat.Sx
def sig1065 : Sig := { id := 1065, ins := [(false, Ty.int .u32), (false, Ty.int .i64)], outs := [(false, [(Ty.int .u32, none)])] }
def ir1065 : IR := .op (.conv .u64) [.v 1] (.op (.ibin .and .u64) [.v 2, .l (.int .u64 31)] (.op (.ibin .shl .u32) [.v 0, .v 3] (.op (.ibin .sub .u64) [.l (.int .u64 32), .v 3] (.op (.ibin .shr .u32) [.v 0, .v 5] (.op (.ibin .or .u32) [.v 4, .v 6] (.ret [.v 7]))))))
def sig1028 : Sig := { id := 1028, ins := [(false, Ty.str.sl)], outs := [(false, [((Ty.int .u8).sl, some 5)])] }
def ir1028 : IR := .op .len [.v 0] (.op (.icmp .gtr) [.v 1, .l (.int .i64 65536)] (.ite (.v 2) (.ret [.l (.nil (Ty.int .u8))]) (.op .len [.v 0] (.op .len [.v 0] (.op (.ibin .quo .i64) [.v 4, .l (.int .i64 10)] (.op (.ibin .add .i64) [.v 3, .v 5] (.op (.ibin .add .i64) [.v 6, .l (.int .i64 1)] (.op (.mkz (Ty.int .u8)) [.v 7] (.op .len [.v 0] (.loop [.l (.int .i64 0), .v 8] [Ty.int .i64, (Ty.int .u8).sl] (.op (.icmp .lss) [.v 10, .v 9] (.ite (.v 12) (.op .inb [.v 0, .v 10] (.op (.idx Ty.str) [.v 0, .v 10] (.op .len [.v 11] (.op .s2b [.v 13] (.op (.call 73) [.v 15] (.op (.call 1065) [.v 16, .l (.int .i64 17)] (.op (.ibin .or .u32) [.v 17, .l (.int .u32 1)] (.loop [.v 16, .l (.int .i64 0), .v 11] [Ty.int .u32, Ty.int .i64, (Ty.int .u8).sl] (.op (.icmp .lss) [.v 20, .l (.int .i64 6)] (.ite (.v 22) (.op (.ibin .mul .i64) [.l (.int .i64 8), .v 14] (.op (.conv .u32) [.v 23] (.op (.ibin .rem .u32) [.v 19, .v 24] (.op (.conv .i64) [.v 25] (.op (.ibin .quo .i64) [.v 26, .l (.int .i64 8)] (.op .inb [.v 21, .v 27] (.op (.idx (Ty.int .u8)) [.v 21, .v 27] (.op (.ibin .rem .i64) [.v 26, .l (.int .i64 8)] (.op (.ibin .shl .u8) [.l (.int .u8 1), .v 29] (.op (.ibin .or .u8) [.v 28, .v 30] (.op .inb [.v 21, .v 27] (.op (.upd (Ty.int .u8) 0) [.v 21, .v 27, .v 31] (.op (.ibin .add .u32) [.v 19, .v 18] (.op (.ibin .add .i64) [.v 20, .l (.int .i64 1)] (.jump 1 [.v 33, .v 34, .v 32]))))))))))))))) (.op (.ibin .add .i64) [.v 10, .l (.int .i64 1)] (.jump 0 [.v 23, .v 21])))))))))))) (.ret [.v 11])))))))))))))
def sig1064 : Sig := { id := 1064, ins := [(false, Ty.int .i64), (false, Ty.str)], outs := [(false, [((Ty.int .i64).sl, some 3)])] }
def ir1064 : IR := .op .s2b [.v 1] (.op (.call 74) [.v 2] (.op (.conv .u64) [.v 3] (.op (.ibin .mul .u64) [.v 4, .l (.int .u64 131072)] (.op (.ibin .rem .u64) [.v 5, .l (.int .u64 4294967296)] (.op (.ibin .quo .u64) [.v 4, .l (.int .u64 32768)] (.op (.ibin .add .u64) [.v 6, .v 7] (.op (.ibin .rem .u64) [.v 8, .l (.int .u64 2)] (.op (.icmp .eql) [.v 9, .l (.int .u64 0)] (.ite (.v 10) (.op (.ibin .add .u64) [.v 8, .l (.int .u64 1)] (.op (.mk (Ty.int .i64) 0) [] (.loop [.v 12, .l (.int .i64 0)] [(Ty.int .i64).sl, Ty.int .i64] (.op (.icmp .lss) [.v 14, .l (.int .i64 6)] (.ite (.v 15) (.op (.conv .u64) [.v 14] (.op (.ibin .mul .u64) [.v 16, .v 11] (.op (.ibin .add .u64) [.v 4, .v 17] (.op (.ibin .rem .u64) [.v 18, .l (.int .u64 4294967296)] (.op (.ibin .mul .i64) [.l (.int .i64 8), .v 0] (.op (.conv .u64) [.v 20] (.op (.ibin .rem .u64) [.v 19, .v 21] (.op (.conv .i64) [.v 22] (.op (.mk (Ty.int .i64) 1) [.v 23] (.op .app [.v 13, .v 24] (.op (.ibin .add .i64) [.v 14, .l (.int .i64 1)] (.jump 0 [.v 25, .v 26])))))))))))) (.ret [.v 13])))))) (.op (.mk (Ty.int .i64) 0) [] (.loop [.v 11, .l (.int .i64 0)] [(Ty.int .i64).sl, Ty.int .i64] (.op (.icmp .lss) [.v 13, .l (.int .i64 6)] (.ite (.v 14) (.op (.conv .u64) [.v 13] (.op (.ibin .mul .u64) [.v 15, .v 8] (.op (.ibin .add .u64) [.v 4, .v 16] (.op (.ibin .rem .u64) [.v 17, .l (.int .u64 4294967296)] (.op (.ibin .mul .i64) [.l (.int .i64 8), .v 0] (.op (.conv .u64) [.v 19] (.op (.ibin .rem .u64) [.v 18, .v 20] (.op (.conv .i64) [.v 21] (.op (.mk (Ty.int .i64) 1) [.v 22] (.op .app [.v 12, .v 23] (.op (.ibin .add .i64) [.v 13, .l (.int .i64 1)] (.jump 0 [.v 24, .v 25])))))))))))) (.ret [.v 12]))))))))))))))
def sig1063 : Sig := { id := 1063, ins := [(false, (Ty.int .i64).sl), (false, Ty.int .i64)], outs := [(false, [(Ty.bool, none)])] }
def ir1063 : IR := .loop [.l (.int .i64 0)] [Ty.int .i64] (.op .len [.v 0] (.op (.icmp .lss) [.v 2, .v 3] (.ite (.v 4) (.op .inb [.v 0, .v 2] (.op (.idx (Ty.int .i64)) [.v 0, .v 2] (.op (.icmp .eql) [.v 5, .v 1] (.ite (.v 6) (.ret [.l (.bool true)]) (.op (.ibin .add .i64) [.v 2, .l (.int .i64 1)] (.jump 0 [.v 7])))))) (.ret [.l (.bool false)]))))
def sig1044 : Sig := { id := 1044, ins := [(false, Ty.str.sl), (false, Ty.int .i64), (false, Ty.int .i64)], outs := [(false, [(Ty.bool, none)])] }
def ir1044 : IR := .loop [.l (.int .i64 0)] [Ty.int .i64] (.op .len [.v 0] (.op (.icmp .lss) [.v 3, .v 4] (.ite (.v 5) (.op .inb [.v 0, .v 3] (.op (.idx Ty.str) [.v 0, .v 3] (.op (.call 1064) [.v 1, .v 6] (.op (.call 1063) [.v 7, .v 2] (.ite (.v 8) (.ret [.l (.bool true)]) (.op (.ibin .add .i64) [.v 3, .l (.int .i64 1)] (.jump 0 [.v 9]))))))) (.ret [.l (.bool false)]))))
def sig1025 : Sig := { id := 1025, ins := [(false, Ty.str.sl)], outs := [(false, [((Ty.int .u8).sl, some 5)])] }
def ir1025 : IR := .op .len [.v 0] (.op .len [.v 0] (.op (.ibin .quo .i64) [.v 2, .l (.int .i64 10)] (.op (.ibin .add .i64) [.v 1, .v 3] (.op (.ibin .add .i64) [.v 4, .l (.int .i64 1)] (.op (.mk (Ty.int .u8) 0) [] (.loop [.v 6, .l (.int .i64 0)] [(Ty.int .u8).sl, Ty.int .i64] (.op (.icmp .lss) [.v 8, .v 5] (.ite (.v 9) (.loop [.l (.int .i64 0), .l (.int .i64 7)] [Ty.int .i64, Ty.int .i64] (.op (.icmp .geq) [.v 11, .l (.int .i64 0)] (.ite (.v 12) (.op (.ibin .mul .i64) [.v 10, .l (.int .i64 2)] (.op (.ibin .mul .i64) [.l (.int .i64 8), .v 8] (.op (.ibin .add .i64) [.v 14, .v 11] (.op (.call 1044) [.v 0, .v 5, .v 15] (.ite (.v 16) (.op (.ibin .add .i64) [.v 13, .l (.int .i64 1)] (.op (.ibin .sub .i64) [.v 11, .l (.int .i64 1)] (.jump 1 [.v 17, .v 18]))) (.op (.ibin .sub .i64) [.v 11, .l (.int .i64 1)] (.jump 1 [.v 13, .v 17]))))))) (.op (.conv .u8) [.v 10] (.op (.mk (Ty.int .u8) 1) [.v 13] (.op .app [.v 7, .v 14] (.op (.ibin .add .i64) [.v 8, .l (.int .i64 1)] (.jump 0 [.v 15, .v 16])))))))) (.ret [.v 7])))))))))
noncomputable def F1065 : List D → Option (List D) := Fof [] ir1065
noncomputable def c1065 : Ct := ⟨sig1065, F1065⟩
noncomputable def F1028 : List D → Option (List D) := Fof [c73, c1065] ir1028
noncomputable def c1028 : Ct := ⟨sig1028, F1028⟩
noncomputable def F1064 : List D → Option (List D) := Fof [c74] ir1064
noncomputable def c1064 : Ct := ⟨sig1064, F1064⟩
noncomputable def F1063 : List D → Option (List D) := Fof [] ir1063
noncomputable def c1063 : Ct := ⟨sig1063, F1063⟩
noncomputable def F1044 : List D → Option (List D) := Fof [c1064, c1063] ir1044
noncomputable def c1044 : Ct := ⟨sig1044, F1044⟩
noncomputable def F1025 : List D → Option (List D) := Fof [c1044] ir1025
noncomputable def c1025 : Ct := ⟨sig1025, F1025⟩
end Go.Proofs.YtolcekkcenedjaaGreat.Sx

set_option maxHeartbeats 4000000
namespace Go.Proofs.YtolcekkcenedjaaGreat.Sx
section
variable {Φ : Nat → Cont} {R : Type} {lv n : Nat} {ρ : List (Nat × D)} {kr : List D → Option R} {kj : Nat → List D → Option R} {k : IR} {k1 : IntKind}
@[simp] theorem o_upd_8 (xs : List Int) (i v : Int) : opD Φ (.upd (.int .u8) 0) [⟨.sl (.int .u8), xs⟩, ⟨.int k1, i⟩, ⟨.int .u8, v⟩] k R lv n ρ kr kj =
    if 0 ≤ i ∧ i < (xs.length : Int) then deb Φ k R lv (n + 1) ((n, ⟨.sl (.int .u8), xs.set i.toNat v⟩) :: ρ) kr kj else none := by
  have h : toE (.int .u8) (setAt (split (.int .u8) (xs.getD i.toNat (dflt (.int .u8)))) 0 [⟨.int .u8, v⟩]) = some v := rfl
  simp only [opD, evalPr, true_and, h]
  rfl
end

theorem bOr_comm (i : IntKind) (x y : Int) : bOr i x y = bOr i y x := by unfold bOr; rw [BitVec.or_comm]
theorem rot17 (x : Int) (h0 : 0 ≤ x) (h1 : x < 4294967296) : bOr .u32 (IntKind.u32.wrap (x * 2 ^ 17)) (x / 32768) = x * 131072 % 4294967296 + x / 32768 := by
  have e : IntKind.u32.wrap (x * 2 ^ 17) = IntKind.u32.wrap ((x % 32768) * 2 ^ 17) := by
    simp only [IntKind.wrap, IntKind.signed, IntKind.bits]
    simp; omega
  rw [e, bOr_comm, or_pow32 (x / 32768) (x % 32768) 17 (by omega) (by omega) (by omega) (by omega)]
  omega
theorem or1n (r : Nat) : r ||| 1 = 2 * (r / 2) + 1 := by
  have h1 := Nat.two_pow_add_eq_or_of_lt (i := 1) (b := r % 2) (by omega) (r / 2)
  have h2 := Nat.two_pow_add_eq_or_of_lt (i := 1) (b := 1) (by omega) (r / 2)
  rw [Nat.pow_one] at h1 h2
  have e : r = 2 * (r / 2) ||| r % 2 := by rw [← h1]; omega
  conv => lhs; rw [e]
  rw [Nat.or_assoc, h2]
  congr 1
  rcases Nat.mod_two_eq_zero_or_one r with h | h <;> rw [h] <;> rfl
theorem or1 (r : Int) (h0 : 0 ≤ r) (h1 : r < 4294967296) : bOr .u32 r 1 = if r % 2 = 0 then r + 1 else r := by
  obtain ⟨a, rfl⟩ := Int.eq_ofNat_of_zero_le h0
  unfold bOr
  rw [BitVec.toNat_or, ofInt_nat]
  show IntKind.u32.wrap ((a % 4294967296 ||| 1 : Nat) : Int) = _
  rw [Nat.mod_eq_of_lt (by omega), or1n, wu32 _ (by omega) (by omega)]
  split <;> omega
theorem f1065 (x : Int) (h0 : 0 ≤ x) (h1 : x < 4294967296) : F1065 [⟨.int .u32, x⟩, ⟨.int .i64, 17⟩] = some [⟨.int .u32, x * 131072 % 4294967296 + x / 32768⟩] := by
  simp only [F1065, Fof, ir1065]
  have e1 : bAnd .u64 (IntKind.u64.wrap 17) 31 = 17 := by decide
  have e2 : IntKind.u64.wrap 15 = 15 := by decide
  have e3 : Nat.min 17 IntKind.u32.bits = 17 := by decide
  have e4 : Nat.min 15 IntKind.u32.bits = 15 := by decide
  have e5 : x.fdiv 32768 = x / 32768 := fdiv_pos x 32768 (by omega)
  have e := rot17 x h0 h1
  rw [show (2 : Int) ^ 17 = 131072 from by decide] at e
  simp -implicitDefEqProofs [e1, e2, e3, e4, e5]
  exact e
theorem s1065 {lc : List Ct} (hl0 : look (lc.map fun c => (c.sig.id, c)) 1065 = some c1065) : ∀ (x : Int) (h0 : 0 ≤ x) (h1 : x < 4294967296), Does1 (Phi lc) 1065 [⟨.int .u32, x⟩, ⟨.int .i64, 17⟩] [⟨.int .u32, x * 131072 % 4294967296 + x / 32768⟩] :=
  fun x h0 h1 => by
    have eFc : c1065.F = F1065 := rfl
    have eFh := f1065 x h0 h1
    rw [← eFc] at eFh
    exact Does1.of hl0 eFh rfl
theorem rot_r (x : Int) (h0 : 0 ≤ x) (h1 : x < 4294967296) : 0 ≤ x * 131072 % 4294967296 + x / 32768 ∧ x * 131072 % 4294967296 + x / 32768 < 4294967296 := by omega
theorem hashD_r (x : Int) (h0 : 0 ≤ x) (h1 : x < 4294967296) : 0 ≤ hashD x ∧ hashD x < 4294967296 := by
  unfold hashD; split <;> omega
def bitsG (n d : Int) : Nat → Int → List Int
  | 0, _ => [] | m + 1, h => h % (8 * n) :: bitsG n d m ((h + d) % 4294967296)
theorem bitsG_of (n : Int) (key : List Int) : bitsG n (hashD (crcOf key)) 6 (crcOf key) = bitsOf n key := by
  have hr := crcOf_lt key
  have hd := hashD_r (crcOf key) hr.1 hr.2
  simp only [bitsG, bitsOf, bitI]
  generalize crcOf key = h at *
  generalize hashD h = d at *
  have e : ∀ i : Nat, ((h + (i : Int) * d) % 4294967296 + d) % 4294967296 = (h + ((i + 1 : Nat) : Int) * d) % 4294967296 := by
    intro i
    rw [Int.emod_add_emod]
    congr 1
    rw [Int.natCast_add, Int.add_mul]; omega
  have e0 : h = (h + ((0 : Nat) : Int) * d) % 4294967296 := by omega
  have e1 := e 0; have e2 := e 1; have e3 := e 2; have e4 := e 3; have e5 := e 4
  rw [← e0] at e1
  rw [← e0, e1, e2, e3, e4, e5]
theorem pow8 (k : Nat) (h : k < 8) : IntKind.u8.wrap (2 ^ Nat.min k IntKind.u8.bits) = 2 ^ k ∧ IntKind.u8.wrap (2 ^ k) = 2 ^ k := by
  have : ∀ j : _root_.Fin 8, IntKind.u8.wrap (2 ^ Nat.min j.1 IntKind.u8.bits) = 2 ^ j.1 ∧ IntKind.u8.wrap (2 ^ j.1) = 2 ^ j.1 := by decide +kernel
  exact this ⟨k, h⟩
def allB (n : Int) (ks : List (List Int)) : List Int := (ks.map (bitsOf n)).flatten

theorem f1028 (ks : List (List Int)) (hl : ks.length ≤ 65536) (hk : ∀ k ∈ ks, k.length < 1000000000 ∧ ∀ c ∈ k, 0 ≤ c ∧ c < 256) : F1028 [⟨.sl .str, ks⟩] = some [⟨.sl (.int .u8), sieveOf ks⟩] := by
  have h73 := s73 (lc := [c73, c1065]) rfl
  have h1065 := s1065 (lc := [c73, c1065]) rfl
  simp only [F1028, Fof, ir1028]
  generalize Phi [c73, c1065] = Φ at *
  have c0 : ¬ 65536 < (ks.length : Int) := by omega
  have hN : (sieveN ks.length : Int) = (ks.length : Int) + (ks.length : Int) / 10 + 1 := by unfold sieveN; omega
  have w1 : IntKind.i64.wrap ((ks.length : Int) / 10) = (ks.length : Int) / 10 := wi64 _ (by omega) (by omega)
  have w2 : IntKind.i64.wrap ((ks.length : Int) + (ks.length : Int) / 10) = (ks.length : Int) + (ks.length : Int) / 10 := wi64 _ (by omega) (by omega)
  have w3 : IntKind.i64.wrap ((ks.length : Int) + (ks.length : Int) / 10 + 1) = sieveN ks.length := by rw [hN]; exact wi64 _ (by omega) (by omega)
  have hn1 : 1 ≤ sieveN ks.length ∧ sieveN ks.length ≤ 80000 := by unfold sieveN; omega
  have b0 : 0 ≤ (sieveN ks.length : Int) ∧ (sieveN ks.length : Int) ≤ 1099511627776 := by omega
  have hrep : List.replicate (sieveN ks.length) (dflt (Ty.int IntKind.u8)) = setB (sieveN ks.length) [] := (setB_nil _).symm
  have hres : sieveOf ks = setB (sieveN ks.length) (allB (sieveN ks.length) ks) := rfl
  rw [hres]
  generalize sieveN ks.length = n at *
  have w8 : IntKind.i64.wrap (8 * (n : Int)) = 8 * n := wi64 _ (by omega) (by omega)
  have w9 : IntKind.u32.wrap (8 * (n : Int)) = 8 * n := wu32 _ (by omega) (by omega)
  have hn0 : ¬ n = 0 := by omega
  have b0' : (n : Int) ≤ 1099511627776 := b0.2
  simp -implicitDefEqProofs [c0, w1, w2, w3, b0']
  rw [hrep]
  refine iter_meas (fun s : Int × List Int => (ks.length - s.1).toNat) (fun s => ([⟨.sl (.int .u8), setB n (allB n ks)⟩] : List D)) (fun s => 0 ≤ s.1 ∧ s.1 ≤ ks.length ∧ s.2 = setB n (allB n (ks.take s.1.toNat))) (by exact ⟨by simp, by simp, by simp [allB]⟩) ?_
  rintro ⟨i, b⟩ ⟨h1, h2, h3⟩
  simp only at h1 h2 h3 ⊢
  subst h3
  by_cases hi : i < ks.length
  rotate_left
  · refine .inr ?_
    rw [List.take_of_length_le (by omega)]
    simp -implicitDefEqProofs [hi]
  have g1 := getG (l := ks) (d := dflt .str) h1 (by omega)
  have b1 : 0 ≤ i ∧ i < (ks.length : Int) := ⟨h1, hi⟩
  have hkb := hk _ (List.getElem_mem (l := ks) (n := i.toNat) (by omega))
  have wi : IntKind.i64.wrap (i + 1) = i + 1 := wi64 _ (by omega) (by omega)
  have htk : allB n (ks.take (i + 1).toNat) = allB n (ks.take i.toNat) ++ bitsOf n (ks[i.toNat]'(by omega)) := by
    rw [show (i + 1).toNat = i.toNat + 1 by omega, List.take_add_one, List.getElem?_eq_getElem (by omega)]
    simp only [allB, List.map_append, List.flatten_append, Option.toList_some, List.map_cons, List.map_nil, List.flatten_cons, List.flatten_nil, List.append_nil]
  generalize hcx : ks[i.toNat]'(by omega) = key at *
  have k1 := h73 key hkb.2 (by omega)
  have hr := crcOf_lt key
  have k2 := h1065 (crcOf key) hr.1 hr.2
  have hrr := rot_r (crcOf key) hr.1 hr.2
  have k3 : bOr .u32 (crcOf key * 131072 % 4294967296 + crcOf key / 32768) 1 = hashD (crcOf key) := by rw [or1 _ hrr.1 hrr.2]; rfl
  have hd := hashD_r (crcOf key) hr.1 hr.2
  refine .inl ⟨(i + 1, setB n (allB n (ks.take (i + 1).toNat))), ?_, ⟨by (try simp only); omega, by (try simp only); omega, rfl⟩, by (try simp only); omega, by first | rfl | trivial⟩
  rw [htk, ← bitsG_of]
  generalize hashD (crcOf key) = d at *
  generalize allB n (ks.take i.toNat) = bs at *
  have hT : bs ++ bitsG n d 6 (crcOf key) = bs ++ bitsG n d 6 (crcOf key) := rfl
  simp -implicitDefEqProofs [hi, b1, g1, hcx, k1, k2, k3, setB_len]
  generalize hTT : bs ++ bitsG n d 6 (crcOf key) = T at *
  refine iter_meas (fun s : Int × Int × List Int => (6 - s.2.1).toNat) (fun s => (LS.again (i + 1, setB n T) : LS (Int × List Int) (List D))) (fun s => 0 ≤ s.2.1 ∧ s.2.1 ≤ 6 ∧ 0 ≤ s.1 ∧ s.1 < 4294967296 ∧ ∃ dn, s.2.2 = setB n dn ∧ dn ++ bitsG n d (6 - s.2.1).toNat s.1 = T) (by exact ⟨by simp, by simp, hr.1, hr.2, bs, rfl, hTT⟩) ?_
  rintro ⟨h, j, b⟩ ⟨j1, j2, j3, j4, dn, j5, j6⟩
  simp only at j1 j2 j3 j4 j5 j6 ⊢
  subst j5
  by_cases hj : j < 6
  rotate_left
  · refine .inr ?_
    rw [show (6 - j).toNat = 0 by omega] at j6
    simp only [bitsG, List.append_nil] at j6
    subst j6
    simp -implicitDefEqProofs [hj, wi]
  rw [show (6 - j).toNat = (6 - (j + 1)).toNat + 1 by omega, bitsG] at j6
  have wj : IntKind.i64.wrap (j + 1) = j + 1 := wi64 _ (by omega) (by omega)
  have wh : IntKind.u32.wrap (h + d) = (h + d) % 4294967296 := by
    simp only [IntKind.wrap, IntKind.signed, IntKind.bits]; simp
  have t1 : h.tmod (8 * (n : Int)) = h % (8 * n) := tm _ _ j3
  have r1 : 0 ≤ h % (8 * (n : Int)) ∧ h % (8 * (n : Int)) < 8 * n := ⟨Int.emod_nonneg _ (by omega), Int.emod_lt_of_pos _ (by omega)⟩
  generalize h % (8 * (n : Int)) = B at *
  have wB : IntKind.i64.wrap B = B := wi64 _ (by omega) (by omega)
  have t2 : B.tdiv 8 = B / 8 := td _ _ r1.1
  have wB8 : IntKind.i64.wrap (B / 8) = B / 8 := wi64 _ (by omega) (by omega)
  have t3 : B.tmod 8 = B % 8 := tm _ _ r1.1
  have b3 : 0 ≤ B / 8 ∧ B / 8 < (n : Int) := by omega
  have b4 : ¬ B % 8 < 0 := by omega
  have g3 : (setB n dn)[(B / 8).toNat]'(by rw [setB_len]; omega) = byteOf (inB dn (B / 8).toNat) := by
    have g := setB_get (n := n) (bs := dn) (i := (B / 8).toNat) (by omega)
    rw [List.getElem?_eq_getElem (by rw [setB_len]; omega)] at g
    simpa using g
  have p8 := pow8 (B % 8).toNat (by omega)
  have p8' := p8.1
  have hst := setB_step (n := n) (bs := dn) (b := B) r1.1 r1.2
  refine .inl ⟨((h + d) % 4294967296, j + 1, setB n (dn ++ [B])), ?_, ⟨by (try simp only); omega, by (try simp only); omega, by (try simp only); omega, by (try simp only); omega, dn ++ [B], rfl, by simpa using j6⟩, by (try simp only); omega, by first | rfl | trivial⟩
  simp only [Nat.min] at p8'
  simp -implicitDefEqProofs [hj, w8, w9, hn0, t1, t2, t3, wB, wB8, b3, b4, setB_len, g3, p8.1, wj, wh, hst, p8']
theorem s1028 {lc : List Ct} (hl0 : look (lc.map fun c => (c.sig.id, c)) 1028 = some c1028) : ∀ (ks : List (List Int)) (hl : ks.length ≤ 65536) (hk : ∀ k ∈ ks, k.length < 1000000000 ∧ ∀ c ∈ k, 0 ≤ c ∧ c < 256), Does1 (Phi lc) 1028 [⟨.sl .str, ks⟩] [⟨.sl (.int .u8), sieveOf ks⟩] :=
  fun ks hl hk => by
    have eFc : c1028.F = F1028 := rfl
    have eFh := f1028 ks hl hk
    rw [← eFc] at eFh
    exact Does1.of hl0 eFh rfl
end Go.Proofs.YtolcekkcenedjaaGreat.Sx

set_option maxHeartbeats 4000000
namespace Go.Proofs.YtolcekkcenedjaaGreat.Sx

def bitsK (h n : Int) : Nat → Nat → List Int
  | _, 0 => [] | i, m + 1 => bitI h n i :: bitsK h n (i + 1) m
theorem bitsK_of (n : Int) (key : List Int) : bitsK (crcOf key) n 0 6 = bitsOf n key := rfl

theorem f1064 (n : Int) (key : List Int) (h0 : 1 ≤ n) (h1 : n ≤ 1000000) (hk : key.length < 1000000000) (hkb : ∀ c ∈ key, 0 ≤ c ∧ c < 256) : F1064 [⟨.int .i64, n⟩, ⟨.str, key⟩] = some [⟨.sl (.int .i64), bitsOf n key⟩] := by
  have h74 := s74 (lc := [c74]) rfl
  simp only [F1064, Fof, ir1064]
  generalize Phi [c74] = Φ at *
  have k1 := h74 key hkb (by omega)
  have hr := crcOf_lt key
  rw [← bitsK_of]
  have hd := hashD_r (crcOf key) hr.1 hr.2
  have hD : hashD (crcOf key) = if (crcOf key * 131072 % 4294967296 + crcOf key / 32768) % 2 = 0 then crcOf key * 131072 % 4294967296 + crcOf key / 32768 + 1 else crcOf key * 131072 % 4294967296 + crcOf key / 32768 := rfl
  have hBI : ∀ i, bitI (crcOf key) n i = (crcOf key + (i : Int) * hashD (crcOf key)) % 4294967296 % (8 * n) := fun i => rfl
  generalize crcOf key = h at *
  have w1 : IntKind.u64.wrap h = h := wu64 _ (by omega) (by omega)
  have w2 : IntKind.u64.wrap (h * 131072) = h * 131072 := wu64 _ (by omega) (by omega)
  have t1 : (h * 131072).tmod 4294967296 = h * 131072 % 4294967296 := tm _ _ (by omega)
  have t2 : h.tdiv 32768 = h / 32768 := td _ _ hr.1
  have w3 : IntKind.u64.wrap (h / 32768) = h / 32768 := wu64 _ (by omega) (by omega)
  have w4 : IntKind.u64.wrap (h * 131072 % 4294967296 + h / 32768) = h * 131072 % 4294967296 + h / 32768 := wu64 _ (by omega) (by omega)
  have t3 : (h * 131072 % 4294967296 + h / 32768).tmod 2 = (h * 131072 % 4294967296 + h / 32768) % 2 := tm _ _ (by omega)
  have w5 : IntKind.u64.wrap (h * 131072 % 4294967296 + h / 32768 + 1) = h * 131072 % 4294967296 + h / 32768 + 1 := wu64 _ (by omega) (by omega)
  have w6 : IntKind.i64.wrap (8 * n) = 8 * n := wi64 _ (by omega) (by omega)
  have w7 : IntKind.u64.wrap (8 * n) = 8 * n := wu64 _ (by omega) (by omega)
  have hn0 : ¬ n = 0 := by omega
  by_cases hp : (h * 131072 % 4294967296 + h / 32768) % 2 = 0
  · have hD' := hD
    rw [if_pos hp] at hD'
    rw [hD'] at hd
    simp -implicitDefEqProofs [k1, w1, w2, w3, w4, w5, w6, w7, t1, t2, t3, hp]
    generalize h * 131072 % 4294967296 + h / 32768 + 1 = d at *
    refine (iter_meas (fun s : List Int × Int => (6 - s.2).toNat) (fun s => ([⟨.sl (.int .i64), s.1 ++ bitsK h n s.2.toNat (6 - s.2).toNat⟩] : List D)) (fun s => 0 ≤ s.2 ∧ s.2 ≤ 6 ∧ s.1.length ≤ s.2.toNat) (by exact ⟨by simp, by simp, by simp⟩) ?_).trans (by simp)
    rintro ⟨acc, i⟩ ⟨i1, i2, i3⟩
    simp only at i1 i2 i3 ⊢
    by_cases hi : i < 6
    · have hB : acc.length + 1 ≤ BIG := by simp only [BIG]; omega
      have hid : 0 ≤ i * d ∧ i * d ≤ 6 * d := ⟨Int.mul_nonneg i1 hd.1, Int.mul_le_mul_of_nonneg_right (by omega) hd.1⟩
      have v1 : IntKind.u64.wrap i = i := wu64 _ (by omega) (by omega)
      have v2 : IntKind.u64.wrap (i * d) = i * d := wu64 _ (by omega) (by omega)
      have v3 : IntKind.u64.wrap (h + i * d) = h + i * d := wu64 _ (by omega) (by omega)
      have v4 : (h + i * d).tmod 4294967296 = (h + i * d) % 4294967296 := tm _ _ (by omega)
      have v5 : ((h + i * d) % 4294967296).tmod (8 * n) = (h + i * d) % 4294967296 % (8 * n) := tm _ _ (by omega)
      have hq : 0 ≤ (h + i * d) % 4294967296 % (8 * n) ∧ (h + i * d) % 4294967296 % (8 * n) < 8 * n := ⟨Int.emod_nonneg _ (by omega), Int.emod_lt_of_pos _ (by omega)⟩
      have v6 : IntKind.i64.wrap ((h + i * d) % 4294967296 % (8 * n)) = (h + i * d) % 4294967296 % (8 * n) := wi64 _ (by omega) (by omega)
      have v7 : IntKind.i64.wrap (i + 1) = i + 1 := wi64 _ (by omega) (by omega)
      have hn8 : ¬ 8 * n = 0 := by omega
      refine .inl ⟨(acc ++ [(h + i * d) % 4294967296 % (8 * n)], i + 1), ?_, ⟨by (try simp only); omega, by (try simp only); omega, by simp; omega⟩, by (try simp only); omega, ?_⟩
      · rw [if_pos hi, if_neg hn8, if_pos hB, v1, v2, v3, v4, v5, v6, v7]
      · simp only [show (6 - i).toNat = (6 - (i + 1)).toNat + 1 by omega, bitsK, hBI, hD', List.append_assoc, List.cons_append, List.nil_append]
        rw [show ((i.toNat : Nat) : Int) = i by omega, show (i + 1).toNat = i.toNat + 1 by omega]
    · rw [if_neg hi, show (6 - i).toNat = 0 by omega]
      exact .inr (by simp [bitsK])
  · have hD' := hD
    rw [if_neg hp] at hD'
    rw [hD'] at hd
    simp -implicitDefEqProofs [k1, w1, w2, w3, w4, w5, w6, w7, t1, t2, t3, hp]
    generalize h * 131072 % 4294967296 + h / 32768 = d at *
    refine (iter_meas (fun s : List Int × Int => (6 - s.2).toNat) (fun s => ([⟨.sl (.int .i64), s.1 ++ bitsK h n s.2.toNat (6 - s.2).toNat⟩] : List D)) (fun s => 0 ≤ s.2 ∧ s.2 ≤ 6 ∧ s.1.length ≤ s.2.toNat) (by exact ⟨by simp, by simp, by simp⟩) ?_).trans (by simp)
    rintro ⟨acc, i⟩ ⟨i1, i2, i3⟩
    simp only at i1 i2 i3 ⊢
    by_cases hi : i < 6
    · have hB : acc.length + 1 ≤ BIG := by simp only [BIG]; omega
      have hid : 0 ≤ i * d ∧ i * d ≤ 6 * d := ⟨Int.mul_nonneg i1 hd.1, Int.mul_le_mul_of_nonneg_right (by omega) hd.1⟩
      have v1 : IntKind.u64.wrap i = i := wu64 _ (by omega) (by omega)
      have v2 : IntKind.u64.wrap (i * d) = i * d := wu64 _ (by omega) (by omega)
      have v3 : IntKind.u64.wrap (h + i * d) = h + i * d := wu64 _ (by omega) (by omega)
      have v4 : (h + i * d).tmod 4294967296 = (h + i * d) % 4294967296 := tm _ _ (by omega)
      have v5 : ((h + i * d) % 4294967296).tmod (8 * n) = (h + i * d) % 4294967296 % (8 * n) := tm _ _ (by omega)
      have hq : 0 ≤ (h + i * d) % 4294967296 % (8 * n) ∧ (h + i * d) % 4294967296 % (8 * n) < 8 * n := ⟨Int.emod_nonneg _ (by omega), Int.emod_lt_of_pos _ (by omega)⟩
      have v6 : IntKind.i64.wrap ((h + i * d) % 4294967296 % (8 * n)) = (h + i * d) % 4294967296 % (8 * n) := wi64 _ (by omega) (by omega)
      have v7 : IntKind.i64.wrap (i + 1) = i + 1 := wi64 _ (by omega) (by omega)
      have hn8 : ¬ 8 * n = 0 := by omega
      refine .inl ⟨(acc ++ [(h + i * d) % 4294967296 % (8 * n)], i + 1), ?_, ⟨by (try simp only); omega, by (try simp only); omega, by simp; omega⟩, by (try simp only); omega, ?_⟩
      · rw [if_pos hi, if_neg hn8, if_pos hB, v1, v2, v3, v4, v5, v6, v7]
      · simp only [show (6 - i).toNat = (6 - (i + 1)).toNat + 1 by omega, bitsK, hBI, hD', List.append_assoc, List.cons_append, List.nil_append]
        rw [show ((i.toNat : Nat) : Int) = i by omega, show (i + 1).toNat = i.toNat + 1 by omega]
    · rw [if_neg hi, show (6 - i).toNat = 0 by omega]
      exact .inr (by simp [bitsK])
theorem s1064 {lc : List Ct} (hl0 : look (lc.map fun c => (c.sig.id, c)) 1064 = some c1064) : ∀ (n : Int) (key : List Int) (h0 : 1 ≤ n) (h1 : n ≤ 1000000) (hk : key.length < 1000000000) (hkb : ∀ c ∈ key, 0 ≤ c ∧ c < 256), Does1 (Phi lc) 1064 [⟨.int .i64, n⟩, ⟨.str, key⟩] [⟨.sl (.int .i64), bitsOf n key⟩] :=
  fun n key h0 h1 hk hkb => by
    have eFc : c1064.F = F1064 := rfl
    have eFh := f1064 n key h0 h1 hk hkb
    rw [← eFc] at eFh
    exact Does1.of hl0 eFh rfl

theorem f1063 (l : List Int) (n : Int) (hl : l.length < 1000000) : F1063 [⟨.sl (.int .i64), l⟩, ⟨.int .i64, n⟩] = some [⟨.bool, decide (n ∈ l)⟩] := by
  simp only [F1063, Fof, ir1063]
  simp -implicitDefEqProofs
  refine (iter_meas (fun s : Int => (l.length - s).toNat) (fun s => ([⟨.bool, decide (n ∈ l.drop s.toNat)⟩] : List D)) (fun s => 0 ≤ s ∧ s ≤ l.length) (by exact ⟨by omega, by omega⟩) ?_).trans (by simp)
  rintro i ⟨h1, h2⟩
  by_cases hi : i < l.length
  · rw [dropI h1 hi]
    have g1 := getG (l := l) (d := dflt (.int .i64)) h1 (by omega)
    have b1 : 0 ≤ i ∧ i < (l.length : Int) := ⟨h1, hi⟩
    have wi : IntKind.i64.wrap (i + 1) = i + 1 := wi64 _ (by omega) (by omega)
    generalize hcx : l[i.toNat]'(by omega) = y at *
    by_cases hy : y = n
    · refine .inr ?_
      simp -implicitDefEqProofs [hi, b1, g1, hcx, hy]
    · have hy' : ¬ n = y := fun e => hy e.symm
      refine .inl ⟨i + 1, ?_, ⟨by omega, by omega⟩, by omega, by simp [hy']⟩
      simp -implicitDefEqProofs [hi, b1, g1, hcx, hy, wi]
  · rw [List.drop_eq_nil_of_le (by omega)]
    refine .inr ?_
    simp -implicitDefEqProofs [hi]
theorem s1063 {lc : List Ct} (hl0 : look (lc.map fun c => (c.sig.id, c)) 1063 = some c1063) : ∀ (l : List Int) (n : Int) (hl : l.length < 1000000), Does1 (Phi lc) 1063 [⟨.sl (.int .i64), l⟩, ⟨.int .i64, n⟩] [⟨.bool, decide (n ∈ l)⟩] :=
  fun l n hl => by
    have eFc : c1063.F = F1063 := rfl
    have eFh := f1063 l n hl
    rw [← eFc] at eFh
    exact Does1.of hl0 eFh rfl
theorem f1044 (ks : List (List Int)) (n b : Int) (h0 : 1 ≤ n) (h1 : n ≤ 1000000) (hl : ks.length ≤ 1000000) (hk : ∀ k ∈ ks, k.length < 1000000000 ∧ ∀ c ∈ k, 0 ≤ c ∧ c < 256) : F1044 [⟨.sl .str, ks⟩, ⟨.int .i64, n⟩, ⟨.int .i64, b⟩] = some [⟨.bool, decide (b ∈ allB n ks)⟩] := by
  have h1064 := s1064 (lc := [c1064, c1063]) rfl
  have h1063 := s1063 (lc := [c1064, c1063]) rfl
  simp only [F1044, Fof, ir1044]
  generalize Phi [c1064, c1063] = Φ at *
  simp -implicitDefEqProofs
  refine (iter_meas (fun s : Int => (ks.length - s).toNat) (fun s => ([⟨.bool, decide (b ∈ allB n (ks.drop s.toNat))⟩] : List D)) (fun s => 0 ≤ s ∧ s ≤ ks.length) (by exact ⟨by omega, by omega⟩) ?_).trans (by simp)
  rintro i ⟨i1, i2⟩
  by_cases hi : i < ks.length
  · rw [dropI i1 hi]
    have g1 := getG (l := ks) (d := dflt .str) i1 (by omega)
    have b1 : 0 ≤ i ∧ i < (ks.length : Int) := ⟨i1, hi⟩
    have hkb := hk _ (List.getElem_mem (l := ks) (n := i.toNat) (by omega))
    have wi : IntKind.i64.wrap (i + 1) = i + 1 := wi64 _ (by omega) (by omega)
    generalize hcx : ks[i.toNat]'(by omega) = key at *
    have k1 := h1064 n key h0 h1 hkb.1 hkb.2
    have k2 := h1063 (bitsOf n key) b (by simp [bitsOf])
    have hdec : allB n (key :: ks.drop (i + 1).toNat) = bitsOf n key ++ allB n (ks.drop (i + 1).toNat) := rfl
    rw [hdec]
    by_cases hy : b ∈ bitsOf n key
    · rw [decide_eq_true hy] at k2
      refine .inr ?_
      simp -implicitDefEqProofs [hi, b1, g1, hcx, k1, k2, hy]
    · rw [decide_eq_false hy] at k2
      refine .inl ⟨i + 1, ?_, ⟨by omega, by omega⟩, by omega, by simp [hy]⟩
      simp -implicitDefEqProofs [hi, b1, g1, hcx, k1, k2, wi]
  · rw [List.drop_eq_nil_of_le (by omega)]
    refine .inr ?_
    simp -implicitDefEqProofs [hi, allB]
theorem s1044 {lc : List Ct} (hl0 : look (lc.map fun c => (c.sig.id, c)) 1044 = some c1044) : ∀ (ks : List (List Int)) (n b : Int) (h0 : 1 ≤ n) (h1 : n ≤ 1000000) (hl : ks.length ≤ 1000000) (hk : ∀ k ∈ ks, k.length < 1000000000 ∧ ∀ c ∈ k, 0 ≤ c ∧ c < 256), Does1 (Phi lc) 1044 [⟨.sl .str, ks⟩, ⟨.int .i64, n⟩, ⟨.int .i64, b⟩] [⟨.bool, decide (b ∈ allB n ks)⟩] :=
  fun ks n b h0 h1 hl hk => by
    have eFc : c1044.F = F1044 := rfl
    have eFh := f1044 ks n b h0 h1 hl hk
    rw [← eFc] at eFh
    exact Does1.of hl0 eFh rfl
def lowB (f : Nat → Bool) : Nat → Int
  | 0 => 0 | k + 1 => lowB f k + b2n (f k) (2 ^ k)
theorem lowB_8 (f : Nat → Bool) : lowB f 8 = byteOf f := by
  simp only [lowB, byteOf, byteB]
  simp
def setF (bs : List Int) : Nat → Nat → List Int
  | _, 0 => [] | m, k + 1 => byteOf (inB bs m) :: setF bs (m + 1) k
theorem setF_eq (bs : List Int) : ∀ (k m : Nat), setF bs m k = (List.range' m k).map (fun i => byteOf (inB bs i))
  | 0, m => rfl
  | k + 1, m => by rw [setF, setF_eq bs k (m + 1), List.range'_succ]; rfl
theorem setB_F (n : Nat) (bs : List Int) : setB n bs = setF bs 0 n := by
  rw [setF_eq, setB, List.range_eq_range']
theorem f1025 (ks : List (List Int)) (hl : ks.length ≤ 65536) (hk : ∀ k ∈ ks, k.length < 1000000000 ∧ ∀ c ∈ k, 0 ≤ c ∧ c < 256) : F1025 [⟨.sl .str, ks⟩] = some [⟨.sl (.int .u8), sieveOf ks⟩] := by
  have h1044 := s1044 (lc := [c1044]) rfl
  simp only [F1025, Fof, ir1025]
  generalize Phi [c1044] = Φ at *
  have hN : (sieveN ks.length : Int) = (ks.length : Int) + (ks.length : Int) / 10 + 1 := by unfold sieveN; omega
  have w1 : IntKind.i64.wrap ((ks.length : Int) / 10) = (ks.length : Int) / 10 := wi64 _ (by omega) (by omega)
  have w2 : IntKind.i64.wrap ((ks.length : Int) + (ks.length : Int) / 10) = (ks.length : Int) + (ks.length : Int) / 10 := wi64 _ (by omega) (by omega)
  have w3 : IntKind.i64.wrap ((ks.length : Int) + (ks.length : Int) / 10 + 1) = sieveN ks.length := by rw [hN]; exact wi64 _ (by omega) (by omega)
  have hn1 : 1 ≤ sieveN ks.length ∧ sieveN ks.length ≤ 80000 := by unfold sieveN; omega
  have hres : sieveOf ks = setF (allB (sieveN ks.length) ks) 0 (sieveN ks.length) := setB_F _ _
  rw [hres]
  generalize sieveN ks.length = n at *
  simp -implicitDefEqProofs [w1, w2, w3]
  have hs := fun b : Int => h1044 ks n b (by omega) (by omega) (by omega) hk
  generalize allB n ks = bs at *
  refine (iter_meas (fun s : List Int × Int => (n - s.2).toNat) (fun s => ([⟨.sl (.int .u8), s.1 ++ setF bs s.2.toNat (n - s.2).toNat⟩] : List D)) (fun s => 0 ≤ s.2 ∧ s.2 ≤ n ∧ s.1.length ≤ s.2.toNat) (by exact ⟨by simp, by simp, by simp⟩) ?_).trans (by simp)
  rintro ⟨acc, i⟩ ⟨h1, h2, h3⟩
  simp only at h1 h2 h3 ⊢
  by_cases hi : i < n
  rotate_left
  · refine .inr ?_
    rw [show ((n : Int) - i).toNat = 0 by omega]
    simp -implicitDefEqProofs [hi, setF]
  have hB : acc.length + 1 ≤ BIG := by simp only [BIG]; omega
  have wi : IntKind.i64.wrap (i + 1) = i + 1 := wi64 _ (by omega) (by omega)
  have wi8 : IntKind.i64.wrap (8 * i) = 8 * i := wi64 _ (by omega) (by omega)
  refine .inl ⟨(acc ++ [byteOf (inB bs i.toNat)], i + 1), ?_, ⟨by (try simp only); omega, by (try simp only); omega, by simp; omega⟩, by (try simp only); omega, ?_⟩
  rotate_left
  · simp only [show ((n : Int) - i).toNat = ((n : Int) - (i + 1)).toNat + 1 by omega, setF, List.append_assoc, List.cons_append, List.nil_append, show (i + 1).toNat = i.toNat + 1 by omega]
  simp -implicitDefEqProofs [hi]
  refine iter_meas (fun s : Int × Int => (s.2 + 1).toNat) (fun s => (LS.again (acc ++ [byteOf (inB bs i.toNat)], i + 1) : LS (List Int × Int) (List D))) (fun s => -1 ≤ s.2 ∧ s.2 ≤ 7 ∧ 0 ≤ s.1 ∧ s.1 * 2 ^ (s.2 + 1).toNat + lowB (inB bs i.toNat) (s.2 + 1).toNat = byteOf (inB bs i.toNat)) (by exact ⟨by simp, by simp, by simp, by simp [lowB_8]⟩) ?_
  rintro ⟨v, k⟩ ⟨k1, k2, k3, k4⟩
  simp only at k1 k2 k3 k4 ⊢
  have hby := byteOf_range (inB bs i.toNat)
  by_cases hk0 : 0 ≤ k
  rotate_left
  · refine .inr ?_
    rw [show (k + 1).toNat = 0 by omega] at k4
    simp only [lowB, Int.pow_zero, Int.mul_one, Int.add_zero] at k4
    have wv : IntKind.u8.wrap v = byteOf (inB bs i.toNat) := by rw [wu8, k4]; omega
    simp -implicitDefEqProofs [hk0, wv, hB, wi]
  rw [show (k + 1).toNat = k.toNat + 1 by omega, lowB, Int.pow_succ] at k4
  have hv : v ≤ 255 := by
    have hp : (1 : Int) ≤ 2 ^ k.toNat := by have := Int.pow_pos (n := 2) (m := k.toNat) (by omega); omega
    have hlow : ∀ m, 0 ≤ lowB (inB bs i.toNat) m := by
      intro m
      induction m with
      | zero => simp [lowB]
      | succ m ih =>
        have : (0 : Int) ≤ b2n (inB bs i.toNat m) (2 ^ m) := by
          unfold b2n; split
          · exact Int.le_of_lt (Int.pow_pos (by omega))
          · omega
        simp only [lowB]; omega
    have h5 := hlow k.toNat
    have h6 : (0 : Int) ≤ b2n (inB bs i.toNat k.toNat) (2 ^ k.toNat) := by
      unfold b2n; split <;> omega
    have h7 : v * 1 ≤ v * (2 ^ k.toNat * 2) := Int.mul_le_mul_of_nonneg_left (by omega) k3
    omega
  have wv : IntKind.i64.wrap (v * 2) = v * 2 := wi64 _ (by omega) (by omega)
  have wv1 : IntKind.i64.wrap (v * 2 + 1) = v * 2 + 1 := wi64 _ (by omega) (by omega)
  have wk : IntKind.i64.wrap (k - 1) = k - 1 := wi64 _ (by omega) (by omega)
  have wk8 : IntKind.i64.wrap (8 * i + k) = 8 * i + k := wi64 _ (by omega) (by omega)
  have hsk := hs (8 * i + k)
  have hin : inB bs i.toNat k.toNat = decide (8 * i + k ∈ bs) := by
    unfold inB
    rw [show (8 * ((i.toNat : Nat) : Int) + ((k.toNat : Nat) : Int)) = 8 * i + k by omega]
  by_cases hc : 8 * i + k ∈ bs
  · rw [decide_eq_true hc] at hsk hin
    refine .inl ⟨(v * 2 + 1, k - 1), ?_, ⟨by (try simp only); omega, by (try simp only); omega, by (try simp only); omega, ?_⟩, by (try simp only); omega, by first | rfl | trivial⟩
    · simp -implicitDefEqProofs [hk0, wv, wv1, wk, wi8, wk8, hsk]
    · simp only [hin, b2n, if_true] at k4
      simp only [show (k - 1 + 1).toNat = k.toNat by omega]
      rw [← k4, Int.add_mul, Int.mul_assoc, Int.mul_comm 2 (2 ^ k.toNat), Int.one_mul]
      omega
  · rw [decide_eq_false hc] at hsk hin
    refine .inl ⟨(v * 2, k - 1), ?_, ⟨by (try simp only); omega, by (try simp only); omega, by (try simp only); omega, ?_⟩, by (try simp only); omega, by first | rfl | trivial⟩
    · simp -implicitDefEqProofs [hk0, wv, wk, wi8, wk8, hsk]
    · simp only [hin, b2n, Bool.false_eq_true, if_false] at k4
      simp only [show (k - 1 + 1).toNat = k.toNat by omega]
      rw [← k4, Int.mul_assoc, Int.mul_comm 2 (2 ^ k.toNat)]
      omega
theorem s1025 {lc : List Ct} (hl0 : look (lc.map fun c => (c.sig.id, c)) 1025 = some c1025) : ∀ (ks : List (List Int)) (hl : ks.length ≤ 65536) (hk : ∀ k ∈ ks, k.length < 1000000000 ∧ ∀ c ∈ k, 0 ≤ c ∧ c < 256), Does1 (Phi lc) 1025 [⟨.sl .str, ks⟩] [⟨.sl (.int .u8), sieveOf ks⟩] :=
  fun ks hl hk => by
    have eFc : c1025.F = F1025 := rfl
    have eFh := f1025 ks hl hk
    rw [← eFc] at eFh
    exact Does1.of hl0 eFh rfl
end Go.Proofs.YtolcekkcenedjaaGreat.Sx
