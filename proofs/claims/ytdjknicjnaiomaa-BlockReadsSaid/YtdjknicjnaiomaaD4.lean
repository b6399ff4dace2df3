/-
  Items, their order, and the bytes of a block of items; what the law BlockPuts answers.
-/
import Derived.Test.YtdjknicjnaiomaaD3
set_option linter.unusedVariables false
set_option linter.unusedSimpArgs false
/- The texts of the functions that BlockPuts reaches. -/
namespace Go.Proofs.Ytdjknicjnaiomaa.Sx
def sig28 : Sig := { id := 28, ins := [(false, (Ty.str.pair (Ty.bool.pair (Ty.bool.pair ((Ty.int .u8).sl.pair ((Ty.int .i64).pair ((Ty.int .i64).pair ((Ty.int .i64).pair (Ty.int .u32)))))))).sl)], outs := [(false, [(Ty.bool, none)])] }
def ir28 : IR := .loop [.l (.int .i64 0)] [Ty.int .i64] (.op .len [.v 0] (.op (.icmp .lss) [.v 1, .v 2] (.ite (.v 3) (.op (.icmp .leq) [.v 1, .l (.int .i64 100)] (.ite (.v 4) (.op .inb [.v 0, .v 1] (.op (.idx (Ty.str.pair (Ty.bool.pair (Ty.bool.pair ((Ty.int .u8).sl.pair ((Ty.int .i64).pair ((Ty.int .i64).pair ((Ty.int .i64).pair (Ty.int .u32))))))))) [.v 0, .v 1] (.op .len [.v 5] (.op (.icmp .gtr) [.v 13, .l (.int .i64 200)] (.ite (.v 14) (.ret [.l (.bool false)]) (.op .inb [.v 0, .v 1] (.op (.idx (Ty.str.pair (Ty.bool.pair (Ty.bool.pair ((Ty.int .u8).sl.pair ((Ty.int .i64).pair ((Ty.int .i64).pair ((Ty.int .i64).pair (Ty.int .u32))))))))) [.v 0, .v 1] (.op .len [.v 18] (.op (.icmp .gtr) [.v 23, .l (.int .i64 200)] (.ite (.v 24) (.ret [.l (.bool false)]) (.op (.ibin .add .i64) [.v 1, .l (.int .i64 1)] (.jump 0 [.v 25])))))))))))) (.op .len [.v 0] (.op (.icmp .leq) [.v 5, .l (.int .i64 100)] (.ret [.v 6]))))) (.op .len [.v 0] (.op (.icmp .leq) [.v 4, .l (.int .i64 100)] (.ret [.v 5]))))))
def sig30 : Sig := { id := 30, ins := [(false, Ty.str), (false, Ty.str)], outs := [(false, [(Ty.int .i64, none)])] }
def ir30 : IR := .op .len [.v 0] (.op .len [.v 1] (.op .min [.v 2, .v 3] (.loop [.l (.int .i64 0)] [Ty.int .i64] (.op (.icmp .lss) [.v 5, .v 4] (.ite (.v 6) (.op .sidx [.v 0, .v 5] (.op .sidx [.v 1, .v 5] (.op (.icmp .neq) [.v 7, .v 8] (.ite (.v 9) (.ret [.v 5]) (.op (.ibin .add .i64) [.v 5, .l (.int .i64 1)] (.jump 0 [.v 10])))))) (.ret [.v 4]))))))
def sig31 : Sig := { id := 31, ins := [(false, Ty.str), (false, Ty.str)], outs := [(false, [(Ty.int .i64, none)])] }
def ir31 : IR := .loop [.l (.int .i64 0)] [Ty.int .i64] (.op .len [.v 0] (.op (.icmp .lss) [.v 2, .v 3] (.ite (.v 4) (.op .len [.v 1] (.op (.icmp .lss) [.v 2, .v 5] (.ite (.v 6) (.op .sidx [.v 0, .v 2] (.op .sidx [.v 1, .v 2] (.op (.icmp .eql) [.v 7, .v 8] (.ite (.v 9) (.op (.ibin .add .i64) [.v 2, .l (.int .i64 1)] (.jump 0 [.v 10])) (.ret [.v 2]))))) (.ret [.v 2])))) (.ret [.v 2]))))
def sig98 : Sig := { id := 98, ins := [(true, Ty.str.pair (Ty.bool.pair (Ty.bool.pair ((Ty.int .u8).sl.pair ((Ty.int .i64).pair ((Ty.int .i64).pair ((Ty.int .i64).pair (Ty.int .u32))))))))], outs := [(false, [(Ty.int .i64, none)])] }
def ir98 : IR := .op (.scmp .eql) [.v 0, .l (.str [])] (.ite (.v 8) (.ret [.l (.int .i64 1)]) (.op .len [.v 0] (.op (.icmp .gtr) [.v 9, .l (.int .i64 64)] (.ite (.v 10) (.ret [.l (.int .i64 1)]) (.ite (.v 1) (.op (.call 17) [.v 2, .v 3, .v 4, .v 5, .v 6, .v 7, .l (.bool false), .l (.nil (Ty.int .u8)), .l (.int .i64 0), .l (.int .i64 0), .l (.int .i64 0), .l (.int .u32 0)] (.op .not [.v 11] (.ite (.v 12) (.ret [.l (.int .i64 1)]) (.op (.call 20) [.v 2, .v 3, .v 4, .v 5, .v 6, .v 7] (.ret [.v 13]))))) (.op (.call 20) [.v 2, .v 3, .v 4, .v 5, .v 6, .v 7] (.ret [.v 11])))))))
def sig75 : Sig := { id := 75, ins := [(false, (Ty.str.pair (Ty.bool.pair (Ty.bool.pair ((Ty.int .u8).sl.pair ((Ty.int .i64).pair ((Ty.int .i64).pair ((Ty.int .i64).pair (Ty.int .u32)))))))).sl)], outs := [(false, [(Ty.bool, none)])] }
def ir75 : IR := .op .len [.v 0] (.loop [.l (.int .i64 0)] [Ty.int .i64] (.op (.icmp .lss) [.v 2, .v 1] (.ite (.v 3) (.op .inb [.v 0, .v 2] (.op (.idx (Ty.str.pair (Ty.bool.pair (Ty.bool.pair ((Ty.int .u8).sl.pair ((Ty.int .i64).pair ((Ty.int .i64).pair ((Ty.int .i64).pair (Ty.int .u32))))))))) [.v 0, .v 2] (.op (.call 98) [.v 4, .v 5, .v 6, .v 7, .v 8, .v 9, .v 10, .v 11] (.op (.icmp .neq) [.v 12, .l (.int .i64 0)] (.ite (.v 13) (.ret [.l (.bool false)]) (.op (.icmp .gtr) [.v 2, .l (.int .i64 0)] (.ite (.v 14) (.op (.ibin .sub .i64) [.v 2, .l (.int .i64 1)] (.op .inb [.v 0, .v 15] (.op (.idx (Ty.str.pair (Ty.bool.pair (Ty.bool.pair ((Ty.int .u8).sl.pair ((Ty.int .i64).pair ((Ty.int .i64).pair ((Ty.int .i64).pair (Ty.int .u32))))))))) [.v 0, .v 15] (.op (.scmp .geq) [.v 16, .v 4] (.ite (.v 24) (.ret [.l (.bool false)]) (.op (.ibin .add .i64) [.v 2, .l (.int .i64 1)] (.jump 0 [.v 25]))))))) (.op (.ibin .add .i64) [.v 2, .l (.int .i64 1)] (.jump 0 [.v 15]))))))))) (.ret [.l (.bool true)]))))
def sig76 : Sig := { id := 76, ins := [(true, Ty.str.pair (Ty.bool.pair (Ty.bool.pair ((Ty.int .u8).sl.pair ((Ty.int .i64).pair ((Ty.int .i64).pair ((Ty.int .i64).pair (Ty.int .u32))))))))], outs := [(false, [(Ty.int .u8, none)])] }
def ir76 : IR := .ite (.v 1) (.ret [.l (.int .u8 1)]) (.ret [.l (.int .u8 0)])
def sig32 : Sig := { id := 32, ins := [(false, (Ty.str.pair (Ty.bool.pair (Ty.bool.pair ((Ty.int .u8).sl.pair ((Ty.int .i64).pair ((Ty.int .i64).pair ((Ty.int .i64).pair (Ty.int .u32)))))))).sl)], outs := [(false, [((Ty.int .u8).sl, some 5)]), (false, [(Ty.int .i64, none)])] }
def ir32 : IR := .op .len [.v 0] (.op (.icmp .lss) [.v 1, .l (.int .i64 1)] (.ite (.v 2) (.ret [.l (.nil (Ty.int .u8)), .l (.int .i64 1)]) (.op .len [.v 0] (.op (.icmp .gtr) [.v 3, .l (.int .i64 256)] (.ite (.v 4) (.ret [.l (.nil (Ty.int .u8)), .l (.int .i64 1)]) (.op (.call 75) [.v 0] (.op .not [.v 5] (.ite (.v 6) (.ret [.l (.nil (Ty.int .u8)), .l (.int .i64 1)]) (.op .len [.v 0] (.op (.conv .u64) [.v 7] (.op (.mk (Ty.int .u64) 1) [.v 8] (.op (.call 66) [.v 9] (.op .len [.v 0] (.loop [.v 10, .l (.str []), .l (.int .i64 0)] [(Ty.int .u8).sl, Ty.str, Ty.int .i64] (.op (.icmp .lss) [.v 14, .v 11] (.ite (.v 15) (.op .inb [.v 0, .v 14] (.op (.idx (Ty.str.pair (Ty.bool.pair (Ty.bool.pair ((Ty.int .u8).sl.pair ((Ty.int .i64).pair ((Ty.int .i64).pair ((Ty.int .i64).pair (Ty.int .u32))))))))) [.v 0, .v 14] (.op (.call 30) [.v 13, .v 16] (.op (.conv .u64) [.v 24] (.op .len [.v 16] (.op (.ibin .sub .i64) [.v 26, .v 24] (.op (.conv .u64) [.v 27] (.op (.mk (Ty.int .u64) 2) [.v 25, .v 28] (.op (.call 66) [.v 29] (.op .app [.v 12, .v 30] (.op .ssub [.v 16, .v 24] (.op .apps [.v 31, .v 32] (.op (.call 76) [.v 16, .v 17, .v 18, .v 19, .v 20, .v 21, .v 22, .v 23] (.op (.mk (Ty.int .u8) 1) [.v 34] (.op .app [.v 33, .v 35] (.op .not [.v 17] (.ite (.v 37) (.op (.call 16) [.v 18, .v 19, .v 20, .v 21, .v 22, .v 23] (.op .app [.v 36, .v 38] (.op (.ibin .add .i64) [.v 14, .l (.int .i64 1)] (.jump 0 [.v 40, .v 16, .v 41])))) (.op (.ibin .add .i64) [.v 14, .l (.int .i64 1)] (.jump 0 [.v 36, .v 16, .v 38]))))))))))))))))))) (.ret [.v 12, .l (.int .i64 0)])))))))))))))))))
def sig29 : Sig := { id := 29, ins := [], outs := [(false, [(Ty.bool, none)])] }
def ir29 : IR := .op (.mk (Ty.str.pair (Ty.bool.pair (Ty.bool.pair ((Ty.int .u8).sl.pair ((Ty.int .i64).pair ((Ty.int .i64).pair ((Ty.int .i64).pair (Ty.int .u32)))))))) 2) [.l (.str [Int.ofNat 97, Int.ofNat 98]), .l (.bool true), .l (.bool false), .l (.nil (Ty.int .u8)), .l (.int .i64 0), .l (.int .i64 0), .l (.int .i64 0), .l (.int .u32 0), .l (.str [Int.ofNat 97, Int.ofNat 99]), .l (.bool true), .l (.bool false), .l (.nil (Ty.int .u8)), .l (.int .i64 0), .l (.int .i64 0), .l (.int .i64 0), .l (.int .u32 0)] (.op (.call 32) [.v 0] (.op (.icmp .eql) [.v 2, .l (.int .i64 0)] (.ite (.v 3) (.op (.mk (Ty.int .u8) 10) [.l (.int .u8 2), .l (.int .u8 0), .l (.int .u8 2), .l (.int .u8 97), .l (.int .u8 98), .l (.int .u8 1), .l (.int .u8 1), .l (.int .u8 1), .l (.int .u8 99), .l (.int .u8 1)] (.op (.call 21) [.v 1, .v 4] (.ite (.v 5) (.op (.call 30) [.l (.str [Int.ofNat 97, Int.ofNat 98]), .l (.str [Int.ofNat 97, Int.ofNat 99])] (.op (.icmp .eql) [.v 6, .l (.int .i64 1)] (.ret [.v 7]))) (.ret [.l (.bool false)])))) (.ret [.l (.bool false)]))))
def sig124 : Sig := { id := 124, ins := [(true, Ty.str.pair (Ty.bool.pair (Ty.bool.pair ((Ty.int .u8).sl.pair ((Ty.int .i64).pair ((Ty.int .i64).pair ((Ty.int .i64).pair (Ty.int .u32))))))))], outs := [(false, [(Ty.bool, none)])] }
def ir124 : IR := .op (.scmp .neq) [.v 0, .l (.str [])] (.ite (.v 8) (.op .len [.v 0] (.op (.icmp .leq) [.v 9, .l (.int .i64 64)] (.ite (.v 10) (.op (.call 19) [.v 2, .v 3, .v 4, .v 5, .v 6, .v 7] (.ite (.v 11) (.op .not [.v 1] (.ite (.v 12) (.ret [.l (.bool true)]) (.op (.call 18) [.v 2, .v 3, .v 4, .v 5, .v 6, .v 7, .l (.bool false), .l (.nil (Ty.int .u8)), .l (.int .i64 0), .l (.int .i64 0), .l (.int .i64 0), .l (.int .u32 0)] (.ret [.v 13])))) (.ret [.l (.bool false)]))) (.ret [.l (.bool false)])))) (.ret [.l (.bool false)]))
def sig77 : Sig := { id := 77, ins := [(false, (Ty.str.pair (Ty.bool.pair (Ty.bool.pair ((Ty.int .u8).sl.pair ((Ty.int .i64).pair ((Ty.int .i64).pair ((Ty.int .i64).pair (Ty.int .u32)))))))).sl)], outs := [(false, [(Ty.bool, none)])] }
def ir77 : IR := .loop [.l (.int .i64 0)] [Ty.int .i64] (.op .len [.v 0] (.op (.icmp .lss) [.v 1, .v 2] (.ite (.v 3) (.op .inb [.v 0, .v 1] (.op (.idx (Ty.str.pair (Ty.bool.pair (Ty.bool.pair ((Ty.int .u8).sl.pair ((Ty.int .i64).pair ((Ty.int .i64).pair ((Ty.int .i64).pair (Ty.int .u32))))))))) [.v 0, .v 1] (.op (.call 124) [.v 4, .v 5, .v 6, .v 7, .v 8, .v 9, .v 10, .v 11] (.op .not [.v 12] (.ite (.v 13) (.ret [.l (.bool false)]) (.op (.icmp .gtr) [.v 1, .l (.int .i64 0)] (.ite (.v 14) (.op (.ibin .sub .i64) [.v 1, .l (.int .i64 1)] (.op .inb [.v 0, .v 15] (.op (.idx (Ty.str.pair (Ty.bool.pair (Ty.bool.pair ((Ty.int .u8).sl.pair ((Ty.int .i64).pair ((Ty.int .i64).pair ((Ty.int .i64).pair (Ty.int .u32))))))))) [.v 0, .v 15] (.op .inb [.v 0, .v 1] (.op (.idx (Ty.str.pair (Ty.bool.pair (Ty.bool.pair ((Ty.int .u8).sl.pair ((Ty.int .i64).pair ((Ty.int .i64).pair ((Ty.int .i64).pair (Ty.int .u32))))))))) [.v 0, .v 1] (.op (.scmp .geq) [.v 16, .v 24] (.ite (.v 32) (.ret [.l (.bool false)]) (.op (.ibin .add .i64) [.v 1, .l (.int .i64 1)] (.jump 0 [.v 33]))))))))) (.op (.ibin .add .i64) [.v 1, .l (.int .i64 1)] (.jump 0 [.v 15]))))))))) (.ret [.l (.bool true)]))))
def sig33 : Sig := { id := 33, ins := [(false, (Ty.str.pair (Ty.bool.pair (Ty.bool.pair ((Ty.int .u8).sl.pair ((Ty.int .i64).pair ((Ty.int .i64).pair ((Ty.int .i64).pair (Ty.int .u32)))))))).sl)], outs := [(false, [(Ty.bool, none)])] }
def ir33 : IR := .op .len [.v 0] (.op (.icmp .geq) [.v 1, .l (.int .i64 1)] (.ite (.v 2) (.op .len [.v 0] (.op (.icmp .leq) [.v 3, .l (.int .i64 256)] (.ite (.v 4) (.op (.call 77) [.v 0] (.ret [.v 5])) (.ret [.l (.bool false)])))) (.ret [.l (.bool false)])))
def sig34 : Sig := { id := 34, ins := [(false, (Ty.str.pair (Ty.bool.pair (Ty.bool.pair ((Ty.int .u8).sl.pair ((Ty.int .i64).pair ((Ty.int .i64).pair ((Ty.int .i64).pair (Ty.int .u32)))))))).sl)], outs := [(false, [((Ty.int .u8).sl, some 5)])] }
def ir34 : IR := .op .len [.v 0] (.op (.conv .u64) [.v 1] (.op (.call 71) [.v 2] (.loop [.v 3, .l (.int .i64 0)] [(Ty.int .u8).sl, Ty.int .i64] (.op .len [.v 0] (.op (.icmp .lss) [.v 5, .v 6] (.ite (.v 7) (.op (.icmp .gtr) [.v 5, .l (.int .i64 0)] (.ite (.v 8) (.op (.ibin .sub .i64) [.v 5, .l (.int .i64 1)] (.op .inb [.v 0, .v 9] (.op (.idx (Ty.str.pair (Ty.bool.pair (Ty.bool.pair ((Ty.int .u8).sl.pair ((Ty.int .i64).pair ((Ty.int .i64).pair ((Ty.int .i64).pair (Ty.int .u32))))))))) [.v 0, .v 9] (.op .inb [.v 0, .v 5] (.op (.idx (Ty.str.pair (Ty.bool.pair (Ty.bool.pair ((Ty.int .u8).sl.pair ((Ty.int .i64).pair ((Ty.int .i64).pair ((Ty.int .i64).pair (Ty.int .u32))))))))) [.v 0, .v 5] (.op (.call 31) [.v 10, .v 18] (.op (.conv .u64) [.v 26] (.op (.call 71) [.v 27] (.op .app [.v 4, .v 28] (.op .inb [.v 0, .v 5] (.op (.idx (Ty.str.pair (Ty.bool.pair (Ty.bool.pair ((Ty.int .u8).sl.pair ((Ty.int .i64).pair ((Ty.int .i64).pair ((Ty.int .i64).pair (Ty.int .u32))))))))) [.v 0, .v 5] (.op .len [.v 30] (.op (.ibin .sub .i64) [.v 38, .v 26] (.op (.conv .u64) [.v 39] (.op (.call 71) [.v 40] (.op .app [.v 29, .v 41] (.op .inb [.v 0, .v 5] (.op (.idx (Ty.str.pair (Ty.bool.pair (Ty.bool.pair ((Ty.int .u8).sl.pair ((Ty.int .i64).pair ((Ty.int .i64).pair ((Ty.int .i64).pair (Ty.int .u32))))))))) [.v 0, .v 5] (.op .ssub [.v 43, .v 26] (.op .apps [.v 42, .v 51] (.op .inb [.v 0, .v 5] (.op (.idx (Ty.str.pair (Ty.bool.pair (Ty.bool.pair ((Ty.int .u8).sl.pair ((Ty.int .i64).pair ((Ty.int .i64).pair ((Ty.int .i64).pair (Ty.int .u32))))))))) [.v 0, .v 5] (.ite (.v 54) (.op (.mk (Ty.int .u8) 1) [.l (.int .u8 1)] (.op .app [.v 52, .v 61] (.op (.ibin .add .i64) [.v 5, .l (.int .i64 1)] (.jump 0 [.v 62, .v 63])))) (.op (.mk (Ty.int .u8) 1) [.l (.int .u8 0)] (.op .app [.v 52, .v 61] (.op .inb [.v 0, .v 5] (.op (.idx (Ty.str.pair (Ty.bool.pair (Ty.bool.pair ((Ty.int .u8).sl.pair ((Ty.int .i64).pair ((Ty.int .i64).pair ((Ty.int .i64).pair (Ty.int .u32))))))))) [.v 0, .v 5] (.op (.call 22) [.v 65, .v 66, .v 67, .v 68, .v 69, .v 70] (.op .app [.v 62, .v 71] (.op (.ibin .add .i64) [.v 5, .l (.int .i64 1)] (.jump 0 [.v 72, .v 73]))))))))))))))))))))))))))))))) (.op (.conv .u64) [.l (.int .i64 0)] (.op (.call 71) [.v 9] (.op .app [.v 4, .v 10] (.op .inb [.v 0, .v 5] (.op (.idx (Ty.str.pair (Ty.bool.pair (Ty.bool.pair ((Ty.int .u8).sl.pair ((Ty.int .i64).pair ((Ty.int .i64).pair ((Ty.int .i64).pair (Ty.int .u32))))))))) [.v 0, .v 5] (.op .len [.v 12] (.op (.ibin .sub .i64) [.v 20, .l (.int .i64 0)] (.op (.conv .u64) [.v 21] (.op (.call 71) [.v 22] (.op .app [.v 11, .v 23] (.op .inb [.v 0, .v 5] (.op (.idx (Ty.str.pair (Ty.bool.pair (Ty.bool.pair ((Ty.int .u8).sl.pair ((Ty.int .i64).pair ((Ty.int .i64).pair ((Ty.int .i64).pair (Ty.int .u32))))))))) [.v 0, .v 5] (.op .ssub [.v 25, .l (.int .i64 0)] (.op .apps [.v 24, .v 33] (.op .inb [.v 0, .v 5] (.op (.idx (Ty.str.pair (Ty.bool.pair (Ty.bool.pair ((Ty.int .u8).sl.pair ((Ty.int .i64).pair ((Ty.int .i64).pair ((Ty.int .i64).pair (Ty.int .u32))))))))) [.v 0, .v 5] (.ite (.v 36) (.op (.mk (Ty.int .u8) 1) [.l (.int .u8 1)] (.op .app [.v 34, .v 43] (.op (.ibin .add .i64) [.v 5, .l (.int .i64 1)] (.jump 0 [.v 44, .v 45])))) (.op (.mk (Ty.int .u8) 1) [.l (.int .u8 0)] (.op .app [.v 34, .v 43] (.op .inb [.v 0, .v 5] (.op (.idx (Ty.str.pair (Ty.bool.pair (Ty.bool.pair ((Ty.int .u8).sl.pair ((Ty.int .i64).pair ((Ty.int .i64).pair ((Ty.int .i64).pair (Ty.int .u32))))))))) [.v 0, .v 5] (.op (.call 22) [.v 47, .v 48, .v 49, .v 50, .v 51, .v 52] (.op .app [.v 44, .v 53] (.op (.ibin .add .i64) [.v 5, .l (.int .i64 1)] (.jump 0 [.v 54, .v 55]))))))))))))))))))))))))))) (.ret [.v 4])))))))
def sig5 : Sig := { id := 5, ins := [(false, (Ty.str.pair (Ty.bool.pair (Ty.bool.pair ((Ty.int .u8).sl.pair ((Ty.int .i64).pair ((Ty.int .i64).pair ((Ty.int .i64).pair (Ty.int .u32)))))))).sl), (false, Ty.str), (false, Ty.str)], outs := [(false, [(Ty.bool, none)])] }
def ir5 : IR := .op (.call 28) [.v 0] (.op .not [.v 3] (.ite (.v 4) (.op (.call 29) [] (.ret [.v 5])) (.op .len [.v 1] (.op (.icmp .gtr) [.v 5, .l (.int .i64 300)] (.ite (.v 6) (.op (.call 29) [] (.ret [.v 7])) (.op .len [.v 2] (.op (.icmp .gtr) [.v 7, .l (.int .i64 300)] (.ite (.v 8) (.op (.call 29) [] (.ret [.v 9])) (.op (.call 30) [.v 1, .v 2] (.op (.call 31) [.v 1, .v 2] (.op (.icmp .neq) [.v 9, .v 10] (.ite (.v 11) (.ret [.l (.bool false)]) (.op (.call 32) [.v 0] (.op (.call 33) [.v 0] (.op .not [.v 14] (.ite (.v 15) (.op (.icmp .eql) [.v 13, .l (.int .i64 1)] (.ite (.v 16) (.op .len [.v 12] (.op (.icmp .eql) [.v 17, .l (.int .i64 0)] (.ite (.v 18) (.op (.call 29) [] (.ret [.v 19])) (.ret [.l (.bool false)])))) (.ret [.l (.bool false)]))) (.op (.icmp .eql) [.v 13, .l (.int .i64 0)] (.ite (.v 16) (.op (.call 34) [.v 0] (.op (.call 21) [.v 12, .v 17] (.ite (.v 18) (.op (.call 29) [] (.ret [.v 19])) (.ret [.l (.bool false)])))) (.ret [.l (.bool false)])))))))))))))))))))
noncomputable def F28 : List D → Option (List D) := Fof [] ir28
noncomputable def c28 : Ct := ⟨sig28, F28⟩
noncomputable def F30 : List D → Option (List D) := Fof [] ir30
noncomputable def c30 : Ct := ⟨sig30, F30⟩
noncomputable def F31 : List D → Option (List D) := Fof [] ir31
noncomputable def c31 : Ct := ⟨sig31, F31⟩
noncomputable def F98 : List D → Option (List D) := Fof [c17, c20] ir98
noncomputable def c98 : Ct := ⟨sig98, F98⟩
noncomputable def F75 : List D → Option (List D) := Fof [c98] ir75
noncomputable def c75 : Ct := ⟨sig75, F75⟩
noncomputable def F76 : List D → Option (List D) := Fof [] ir76
noncomputable def c76 : Ct := ⟨sig76, F76⟩
noncomputable def F32 : List D → Option (List D) := Fof [c75, c66, c30, c76, c16] ir32
noncomputable def c32 : Ct := ⟨sig32, F32⟩
noncomputable def F29 : List D → Option (List D) := Fof [c32, c21, c30] ir29
noncomputable def c29 : Ct := ⟨sig29, F29⟩
noncomputable def F124 : List D → Option (List D) := Fof [c19, c18] ir124
noncomputable def c124 : Ct := ⟨sig124, F124⟩
noncomputable def F77 : List D → Option (List D) := Fof [c124] ir77
noncomputable def c77 : Ct := ⟨sig77, F77⟩
noncomputable def F33 : List D → Option (List D) := Fof [c77] ir33
noncomputable def c33 : Ct := ⟨sig33, F33⟩
noncomputable def F34 : List D → Option (List D) := Fof [c71, c31, c22] ir34
noncomputable def c34 : Ct := ⟨sig34, F34⟩
noncomputable def F5 : List D → Option (List D) := Fof [c28, c29, c30, c31, c32, c33, c34, c21] ir5
noncomputable def c5 : Ct := ⟨sig5, F5⟩
end Go.Proofs.Ytdjknicjnaiomaa.Sx

/- Items: which there may be, their order, how far keys are alike. -/
namespace Go.Proofs.Ytdjknicjnaiomaa.Sx

abbrev CellT : Ty := .pair .bool (.pair (.sl (.int .u8)) (.pair (.int .i64) (.pair (.int .i64) (.pair (.int .i64) (.int .u32)))))
abbrev ItT : Ty := .pair .str (.pair .bool CellT)
abbrev It : Type := List Int × Bool × Bool × List Int × Int × Int × Int × Int

theorem getG {α : Type} {l : List α} {i : Int} {d : α} (h0 : 0 ≤ i) (h1 : i < l.length) : l[i.toNat]?.getD d = l[i.toNat]'(by omega) := by
  rw [List.getElem?_eq_getElem (by omega)]; rfl

def alike : List Int → List Int → Nat
  | a :: x, b :: y => if a = b then alike x y + 1 else 0
  | _, _ => 0

theorem alike_le : ∀ (x y : List Int), alike x y ≤ x.length ∧ alike x y ≤ y.length
  | [], _ => by simp [alike]
  | _ :: _, [] => by simp [alike]
  | a :: x, b :: y => by
    have := alike_le x y
    simp only [alike, List.length_cons]
    split <;> omega

theorem alike_nil (y : List Int) : alike [] y = 0 := by simp [alike]
theorem alike_nil' (x : List Int) : alike x [] = 0 := by cases x <;> simp [alike]

theorem f31 (x y : List Int) (hx : x.length < 1000000000000) : F31 [⟨.str, x⟩, ⟨.str, y⟩] = some [⟨.int .i64, alike x y⟩] := by
  simp only [F31, Fof, ir31]
  simp [↓den_start, ↓deb_op, ↓deb_ret, ↓deb_jump, ↓deb_itev, ↓deb_itel, ↓deb_loop, ↓deb_fail, ↓deb_nilcv, nilE_some, opE_some, debP_nil, debP_cons, pushL_nil, pushL_cons, retE_some, iteE_some, evB_nil, evB_v, evB_l, lkE_cons, consE_some, d_int, d_bool, d_str, d_nil, o_add, o_sub, o_mul, o_and, o_or, o_xor, o_andNot, o_quo, o_rem, o_shl, o_shr, o_eql, o_neq, o_lss, o_leq, o_gtr, o_geq, o_seql, o_sneq, o_slss, o_sleq, o_sgtr, o_sgeq, o_beql, o_bneq, o_scat, o_not, o_neg, o_com, o_conv, o_s2b, o_b2s, o_len, o_slen, o_inb, o_idx, o_sidx, o_sub3, o_sub2, o_ssub3, o_ssub2, o_app, o_apps, o_mk, mkE_some, consD_some, mkD_zero, mkD_int, mkD_str, mkD_sl, o_imin, o_imax, o_smin, o_smax, o_eqs, eqsE_some, eqC_nil, andE_some, eqC_int, eqC_bool, eqC_str, j1, outE_some, outE_none, outE_ite, agE_1, loopE_1, agE_2, loopE_2, agE_3, loopE_3, agE_4, loopE_4, agE_5, loopE_5, agE_6, loopE_6, agE_7, loopE_7, agE_8, loopE_8, agE_9, loopE_9, List.cons_append, List.nil_append, List.append_nil, split, List.take_succ_cons, List.take_zero, List.drop_succ_cons, List.drop_zero]
  refine (iter_meas (fun s : Int => (x.length - s).toNat) (fun s => ([⟨.int .i64, s + alike (x.drop s.toNat) (y.drop s.toNat)⟩] : List D)) (fun s => 0 ≤ s ∧ s ≤ x.length ∧ s ≤ y.length) (by exact ⟨by omega, by omega, by omega⟩) ?_).trans (by simp)
  rintro i ⟨h1, h2, h3⟩
  by_cases hi : i < x.length
  · by_cases hj : i < y.length
    · rw [if_pos hi, if_pos hj, if_pos ⟨h1, hi⟩, if_pos ⟨h1, hj⟩, getI h1 hi, getI h1 hj, dropI h1 hi, dropI (l := y) h1 hj]
      by_cases he : x[i.toNat]'(by omega) = y[i.toNat]'(by omega)
      · rw [if_pos he]
        refine .inl ⟨i + 1, by rw [wi64 (i + 1) (by omega) (by omega)], ⟨by omega, by omega, by omega⟩, by omega, ?_⟩
        simp only [alike, if_pos he]
        generalize alike _ _ = A
        rw [show i + 1 + (A : Int) = i + ((A + 1 : Nat) : Int) by omega]
      · rw [if_neg he]
        refine .inr ?_
        simp only [alike, if_neg he]
        simp
    · rw [if_pos hi, if_neg hj, List.drop_eq_nil_of_le (as := y) (by omega), alike_nil']
      exact .inr (by simp)
  · rw [if_neg hi, List.drop_eq_nil_of_le (as := x) (by omega), alike_nil]
    exact .inr (by simp)
theorem s31 {lc : List Ct} (hl0 : look (lc.map fun c => (c.sig.id, c)) 31 = some c31) : ∀ (x y : List Int) (hx : x.length < 1000000000000), Does1 (Phi lc) 31 [⟨.str, x⟩, ⟨.str, y⟩] [⟨.int .i64, alike x y⟩] :=
  fun x y hx => Does1.of hl0 (f31 x y hx) rfl
theorem f30 (x y : List Int) (hx : x.length < 1000000000000) : F30 [⟨.str, x⟩, ⟨.str, y⟩] = some [⟨.int .i64, alike x y⟩] := by
  simp only [F30, Fof, ir30]
  simp [↓den_start, ↓deb_op, ↓deb_ret, ↓deb_jump, ↓deb_itev, ↓deb_itel, ↓deb_loop, ↓deb_fail, ↓deb_nilcv, nilE_some, opE_some, debP_nil, debP_cons, pushL_nil, pushL_cons, retE_some, iteE_some, evB_nil, evB_v, evB_l, lkE_cons, consE_some, d_int, d_bool, d_str, d_nil, o_add, o_sub, o_mul, o_and, o_or, o_xor, o_andNot, o_quo, o_rem, o_shl, o_shr, o_eql, o_neq, o_lss, o_leq, o_gtr, o_geq, o_seql, o_sneq, o_slss, o_sleq, o_sgtr, o_sgeq, o_beql, o_bneq, o_scat, o_not, o_neg, o_com, o_conv, o_s2b, o_b2s, o_len, o_slen, o_inb, o_idx, o_sidx, o_sub3, o_sub2, o_ssub3, o_ssub2, o_app, o_apps, o_mk, mkE_some, consD_some, mkD_zero, mkD_int, mkD_str, mkD_sl, o_imin, o_imax, o_smin, o_smax, o_eqs, eqsE_some, eqC_nil, andE_some, eqC_int, eqC_bool, eqC_str, j1, outE_some, outE_none, outE_ite, agE_1, loopE_1, agE_2, loopE_2, agE_3, loopE_3, agE_4, loopE_4, agE_5, loopE_5, agE_6, loopE_6, agE_7, loopE_7, agE_8, loopE_8, agE_9, loopE_9, List.cons_append, List.nil_append, List.append_nil, split, List.take_succ_cons, List.take_zero, List.drop_succ_cons, List.drop_zero]
  have hm : (if y.length < x.length then (y.length : Int) else x.length) = min (x.length : Int) y.length := by split <;> omega
  simp only [hm]
  refine (iter_meas (fun s : Int => (x.length - s).toNat) (fun s => ([⟨.int .i64, s + alike (x.drop s.toNat) (y.drop s.toNat)⟩] : List D)) (fun s => 0 ≤ s ∧ s ≤ x.length ∧ s ≤ y.length) (by exact ⟨by omega, by omega, by omega⟩) ?_).trans (by simp)
  rintro i ⟨h1, h2, h3⟩
  by_cases hi : i < min (x.length : Int) y.length
  · have hx' : i < x.length := by omega
    have hj : i < y.length := by omega
    rw [if_pos hi, if_pos ⟨h1, hx'⟩, if_pos ⟨h1, hj⟩, getI h1 hx', getI h1 hj, dropI h1 hx', dropI (l := y) h1 hj]
    by_cases he : x[i.toNat]'(by omega) = y[i.toNat]'(by omega)
    · rw [if_pos he]
      refine .inl ⟨i + 1, by rw [wi64 (i + 1) (by omega) (by omega)], ⟨by omega, by omega, by omega⟩, by omega, ?_⟩
      simp only [alike, if_pos he]
      generalize alike _ _ = A
      rw [show i + 1 + (A : Int) = i + ((A + 1 : Nat) : Int) by omega]
    · rw [if_neg he]
      refine .inr ?_
      simp only [alike, if_neg he]
      simp
  · rw [if_neg hi]
    refine .inr ?_
    by_cases hxx : i < x.length
    · rw [List.drop_eq_nil_of_le (as := y) (by omega), alike_nil']
      rw [show min (x.length : Int) y.length = i + ((0 : Nat) : Int) by omega]
    · rw [List.drop_eq_nil_of_le (as := x) (by omega), alike_nil]
      rw [show min (x.length : Int) y.length = i + ((0 : Nat) : Int) by omega]
theorem s30 {lc : List Ct} (hl0 : look (lc.map fun c => (c.sig.id, c)) 30 = some c30) : ∀ (x y : List Int) (hx : x.length < 1000000000000), Does1 (Phi lc) 30 [⟨.str, x⟩, ⟨.str, y⟩] [⟨.int .i64, alike x y⟩] :=
  fun x y hx => Does1.of hl0 (f30 x y hx) rfl

/-- why an item may not be -/
def iErr (k : List Int) (d f : Bool) (b : List Int) (s a n m : Int) : Int :=
  if k = [] ∨ 64 < k.length ∨ (d = true ∧ ¬ (f = false ∧ b = [] ∧ s = 0 ∧ a = 0 ∧ n = 0 ∧ m = 0)) then 1 else cErr f b s a n m

theorem f98 (k : List Int) (d f : Bool) (b : List Int) (s a n m : Int) : F98 [⟨.str, k⟩, ⟨.bool, d⟩, ⟨.bool, f⟩, ⟨.sl (.int .u8), b⟩, ⟨.int .i64, s⟩, ⟨.int .i64, a⟩, ⟨.int .i64, n⟩, ⟨.int .u32, m⟩] = some [⟨.int .i64, iErr k d f b s a n m⟩] := by
  have h17 := s17 (lc := [c17, c20]) rfl
  have h20 := s20 (lc := [c17, c20]) rfl
  simp only [F98, Fof, ir98]
  generalize Phi [c17, c20] = Φ at *
  have k17 := h17 f false b [] s a n m 0 0 0 0
  have e17 : (f == false && decide (s = 0 ∧ a = 0 ∧ n = 0 ∧ m = 0) && decide (b = [])) = decide (f = false ∧ b = [] ∧ s = 0 ∧ a = 0 ∧ n = 0 ∧ m = 0) := by
    rw [Bool.eq_iff_iff]; simp; constructor
    · rintro ⟨⟨rfl, h⟩, rfl⟩; exact ⟨rfl, rfl, h⟩
    · rintro ⟨rfl, rfl, h⟩; exact ⟨⟨rfl, h⟩, rfl⟩
  rw [e17] at k17
  unfold iErr
  by_cases h1 : k = []
  · simp [↓den_start, ↓deb_op, ↓deb_ret, ↓deb_jump, ↓deb_itev, ↓deb_itel, ↓deb_loop, ↓deb_fail, ↓deb_nilcv, nilE_some, opE_some, debP_nil, debP_cons, pushL_nil, pushL_cons, retE_some, iteE_some, evB_nil, evB_v, evB_l, lkE_cons, consE_some, d_int, d_bool, d_str, d_nil, o_add, o_sub, o_mul, o_and, o_or, o_xor, o_andNot, o_quo, o_rem, o_shl, o_shr, o_eql, o_neq, o_lss, o_leq, o_gtr, o_geq, o_seql, o_sneq, o_slss, o_sleq, o_sgtr, o_sgeq, o_beql, o_bneq, o_scat, o_not, o_neg, o_com, o_conv, o_s2b, o_b2s, o_len, o_slen, o_inb, o_idx, o_sidx, o_sub3, o_sub2, o_ssub3, o_ssub2, o_app, o_apps, o_mk, mkE_some, consD_some, mkD_zero, mkD_int, mkD_str, mkD_sl, o_imin, o_imax, o_smin, o_smax, o_eqs, eqsE_some, eqC_nil, andE_some, eqC_int, eqC_bool, eqC_str, j1, outE_some, outE_none, outE_ite, agE_1, loopE_1, agE_2, loopE_2, agE_3, loopE_3, agE_4, loopE_4, agE_5, loopE_5, agE_6, loopE_6, agE_7, loopE_7, agE_8, loopE_8, agE_9, loopE_9, List.cons_append, List.nil_append, List.append_nil, split, List.take_succ_cons, List.take_zero, List.drop_succ_cons, List.drop_zero, h1]
  by_cases h2 : (64 : Int) < k.length
  · have h2' : 64 < k.length := by omega
    simp [↓den_start, ↓deb_op, ↓deb_ret, ↓deb_jump, ↓deb_itev, ↓deb_itel, ↓deb_loop, ↓deb_fail, ↓deb_nilcv, nilE_some, opE_some, debP_nil, debP_cons, pushL_nil, pushL_cons, retE_some, iteE_some, evB_nil, evB_v, evB_l, lkE_cons, consE_some, d_int, d_bool, d_str, d_nil, o_add, o_sub, o_mul, o_and, o_or, o_xor, o_andNot, o_quo, o_rem, o_shl, o_shr, o_eql, o_neq, o_lss, o_leq, o_gtr, o_geq, o_seql, o_sneq, o_slss, o_sleq, o_sgtr, o_sgeq, o_beql, o_bneq, o_scat, o_not, o_neg, o_com, o_conv, o_s2b, o_b2s, o_len, o_slen, o_inb, o_idx, o_sidx, o_sub3, o_sub2, o_ssub3, o_ssub2, o_app, o_apps, o_mk, mkE_some, consD_some, mkD_zero, mkD_int, mkD_str, mkD_sl, o_imin, o_imax, o_smin, o_smax, o_eqs, eqsE_some, eqC_nil, andE_some, eqC_int, eqC_bool, eqC_str, j1, outE_some, outE_none, outE_ite, agE_1, loopE_1, agE_2, loopE_2, agE_3, loopE_3, agE_4, loopE_4, agE_5, loopE_5, agE_6, loopE_6, agE_7, loopE_7, agE_8, loopE_8, agE_9, loopE_9, List.cons_append, List.nil_append, List.append_nil, split, List.take_succ_cons, List.take_zero, List.drop_succ_cons, List.drop_zero, h1, h2, h2']
  have h2' : ¬ 64 < k.length := by omega
  cases d
  · simp [↓den_start, ↓deb_op, ↓deb_ret, ↓deb_jump, ↓deb_itev, ↓deb_itel, ↓deb_loop, ↓deb_fail, ↓deb_nilcv, nilE_some, opE_some, debP_nil, debP_cons, pushL_nil, pushL_cons, retE_some, iteE_some, evB_nil, evB_v, evB_l, lkE_cons, consE_some, d_int, d_bool, d_str, d_nil, o_add, o_sub, o_mul, o_and, o_or, o_xor, o_andNot, o_quo, o_rem, o_shl, o_shr, o_eql, o_neq, o_lss, o_leq, o_gtr, o_geq, o_seql, o_sneq, o_slss, o_sleq, o_sgtr, o_sgeq, o_beql, o_bneq, o_scat, o_not, o_neg, o_com, o_conv, o_s2b, o_b2s, o_len, o_slen, o_inb, o_idx, o_sidx, o_sub3, o_sub2, o_ssub3, o_ssub2, o_app, o_apps, o_mk, mkE_some, consD_some, mkD_zero, mkD_int, mkD_str, mkD_sl, o_imin, o_imax, o_smin, o_smax, o_eqs, eqsE_some, eqC_nil, andE_some, eqC_int, eqC_bool, eqC_str, j1, outE_some, outE_none, outE_ite, agE_1, loopE_1, agE_2, loopE_2, agE_3, loopE_3, agE_4, loopE_4, agE_5, loopE_5, agE_6, loopE_6, agE_7, loopE_7, agE_8, loopE_8, agE_9, loopE_9, List.cons_append, List.nil_append, List.append_nil, split, List.take_succ_cons, List.take_zero, List.drop_succ_cons, List.drop_zero, h1, h2, h2', h20]
  · by_cases h3 : f = false ∧ b = [] ∧ s = 0 ∧ a = 0 ∧ n = 0 ∧ m = 0
    · rw [if_neg (by rintro (h | h | h); exact h1 h; exact h2' h; exact h.2 h3)]
      obtain ⟨rfl, rfl, rfl, rfl, rfl, rfl⟩ := h3
      simp at k17
      simp [↓den_start, ↓deb_op, ↓deb_ret, ↓deb_jump, ↓deb_itev, ↓deb_itel, ↓deb_loop, ↓deb_fail, ↓deb_nilcv, nilE_some, opE_some, debP_nil, debP_cons, pushL_nil, pushL_cons, retE_some, iteE_some, evB_nil, evB_v, evB_l, lkE_cons, consE_some, d_int, d_bool, d_str, d_nil, o_add, o_sub, o_mul, o_and, o_or, o_xor, o_andNot, o_quo, o_rem, o_shl, o_shr, o_eql, o_neq, o_lss, o_leq, o_gtr, o_geq, o_seql, o_sneq, o_slss, o_sleq, o_sgtr, o_sgeq, o_beql, o_bneq, o_scat, o_not, o_neg, o_com, o_conv, o_s2b, o_b2s, o_len, o_slen, o_inb, o_idx, o_sidx, o_sub3, o_sub2, o_ssub3, o_ssub2, o_app, o_apps, o_mk, mkE_some, consD_some, mkD_zero, mkD_int, mkD_str, mkD_sl, o_imin, o_imax, o_smin, o_smax, o_eqs, eqsE_some, eqC_nil, andE_some, eqC_int, eqC_bool, eqC_str, j1, outE_some, outE_none, outE_ite, agE_1, loopE_1, agE_2, loopE_2, agE_3, loopE_3, agE_4, loopE_4, agE_5, loopE_5, agE_6, loopE_6, agE_7, loopE_7, agE_8, loopE_8, agE_9, loopE_9, List.cons_append, List.nil_append, List.append_nil, split, List.take_succ_cons, List.take_zero, List.drop_succ_cons, List.drop_zero, h1, h2, h20, k17]
    · rw [decide_eq_false h3] at k17
      rw [if_pos (.inr (.inr ⟨rfl, h3⟩))]
      simp [↓den_start, ↓deb_op, ↓deb_ret, ↓deb_jump, ↓deb_itev, ↓deb_itel, ↓deb_loop, ↓deb_fail, ↓deb_nilcv, nilE_some, opE_some, debP_nil, debP_cons, pushL_nil, pushL_cons, retE_some, iteE_some, evB_nil, evB_v, evB_l, lkE_cons, consE_some, d_int, d_bool, d_str, d_nil, o_add, o_sub, o_mul, o_and, o_or, o_xor, o_andNot, o_quo, o_rem, o_shl, o_shr, o_eql, o_neq, o_lss, o_leq, o_gtr, o_geq, o_seql, o_sneq, o_slss, o_sleq, o_sgtr, o_sgeq, o_beql, o_bneq, o_scat, o_not, o_neg, o_com, o_conv, o_s2b, o_b2s, o_len, o_slen, o_inb, o_idx, o_sidx, o_sub3, o_sub2, o_ssub3, o_ssub2, o_app, o_apps, o_mk, mkE_some, consD_some, mkD_zero, mkD_int, mkD_str, mkD_sl, o_imin, o_imax, o_smin, o_smax, o_eqs, eqsE_some, eqC_nil, andE_some, eqC_int, eqC_bool, eqC_str, j1, outE_some, outE_none, outE_ite, agE_1, loopE_1, agE_2, loopE_2, agE_3, loopE_3, agE_4, loopE_4, agE_5, loopE_5, agE_6, loopE_6, agE_7, loopE_7, agE_8, loopE_8, agE_9, loopE_9, List.cons_append, List.nil_append, List.append_nil, split, List.take_succ_cons, List.take_zero, List.drop_succ_cons, List.drop_zero, h1, h2, k17]
theorem s98 {lc : List Ct} (hl0 : look (lc.map fun c => (c.sig.id, c)) 98 = some c98) : ∀ (k : List Int) (d f : Bool) (b : List Int) (s a n m : Int), Does1 (Phi lc) 98 [⟨.str, k⟩, ⟨.bool, d⟩, ⟨.bool, f⟩, ⟨.sl (.int .u8), b⟩, ⟨.int .i64, s⟩, ⟨.int .i64, a⟩, ⟨.int .i64, n⟩, ⟨.int .u32, m⟩] [⟨.int .i64, iErr k d f b s a n m⟩] :=
  fun k d f b s a n m => Does1.of hl0 (f98 k d f b s a n m) rfl
theorem f124 (k : List Int) (d f : Bool) (b : List Int) (s a n m : Int) (hb : b.length < 1000000000) : F124 [⟨.str, k⟩, ⟨.bool, d⟩, ⟨.bool, f⟩, ⟨.sl (.int .u8), b⟩, ⟨.int .i64, s⟩, ⟨.int .i64, a⟩, ⟨.int .i64, n⟩, ⟨.int .u32, m⟩] = some [⟨.bool, decide (iErr k d f b s a n m = 0)⟩] := by
  have h19 := s19 (lc := [c19, c18]) rfl
  have h18 := s18 (lc := [c19, c18]) rfl
  simp only [F124, Fof, ir124]
  generalize Phi [c19, c18] = Φ at *
  have k18 := h18 f false b [] s a n m 0 0 0 0 hb
  have k19 := h19 f b s a n m
  have e18 : (f == false && decide (s = 0 ∧ a = 0 ∧ n = 0 ∧ m = 0) && decide (b = [])) = decide (f = false ∧ b = [] ∧ s = 0 ∧ a = 0 ∧ n = 0 ∧ m = 0) := by
    rw [Bool.eq_iff_iff]; simp; constructor
    · rintro ⟨⟨rfl, h⟩, rfl⟩; exact ⟨rfl, rfl, h⟩
    · rintro ⟨rfl, rfl, h⟩; exact ⟨⟨rfl, h⟩, rfl⟩
  rw [e18] at k18
  by_cases h1 : k = []
  · have : ¬ iErr k d f b s a n m = 0 := by unfold iErr; rw [if_pos (.inl h1)]; omega
    simp [↓den_start, ↓deb_op, ↓deb_ret, ↓deb_jump, ↓deb_itev, ↓deb_itel, ↓deb_loop, ↓deb_fail, ↓deb_nilcv, nilE_some, opE_some, debP_nil, debP_cons, pushL_nil, pushL_cons, retE_some, iteE_some, evB_nil, evB_v, evB_l, lkE_cons, consE_some, d_int, d_bool, d_str, d_nil, o_add, o_sub, o_mul, o_and, o_or, o_xor, o_andNot, o_quo, o_rem, o_shl, o_shr, o_eql, o_neq, o_lss, o_leq, o_gtr, o_geq, o_seql, o_sneq, o_slss, o_sleq, o_sgtr, o_sgeq, o_beql, o_bneq, o_scat, o_not, o_neg, o_com, o_conv, o_s2b, o_b2s, o_len, o_slen, o_inb, o_idx, o_sidx, o_sub3, o_sub2, o_ssub3, o_ssub2, o_app, o_apps, o_mk, mkE_some, consD_some, mkD_zero, mkD_int, mkD_str, mkD_sl, o_imin, o_imax, o_smin, o_smax, o_eqs, eqsE_some, eqC_nil, andE_some, eqC_int, eqC_bool, eqC_str, j1, outE_some, outE_none, outE_ite, agE_1, loopE_1, agE_2, loopE_2, agE_3, loopE_3, agE_4, loopE_4, agE_5, loopE_5, agE_6, loopE_6, agE_7, loopE_7, agE_8, loopE_8, agE_9, loopE_9, List.cons_append, List.nil_append, List.append_nil, split, List.take_succ_cons, List.take_zero, List.drop_succ_cons, List.drop_zero, h1, ← decide_not]
    subst h1; exact this
  by_cases h2 : (64 : Int) < k.length
  · have : ¬ iErr k d f b s a n m = 0 := by unfold iErr; rw [if_pos (.inr (.inl (by omega)))]; omega
    have h2' : ¬ (k.length : Int) ≤ 64 := by omega
    simp [↓den_start, ↓deb_op, ↓deb_ret, ↓deb_jump, ↓deb_itev, ↓deb_itel, ↓deb_loop, ↓deb_fail, ↓deb_nilcv, nilE_some, opE_some, debP_nil, debP_cons, pushL_nil, pushL_cons, retE_some, iteE_some, evB_nil, evB_v, evB_l, lkE_cons, consE_some, d_int, d_bool, d_str, d_nil, o_add, o_sub, o_mul, o_and, o_or, o_xor, o_andNot, o_quo, o_rem, o_shl, o_shr, o_eql, o_neq, o_lss, o_leq, o_gtr, o_geq, o_seql, o_sneq, o_slss, o_sleq, o_sgtr, o_sgeq, o_beql, o_bneq, o_scat, o_not, o_neg, o_com, o_conv, o_s2b, o_b2s, o_len, o_slen, o_inb, o_idx, o_sidx, o_sub3, o_sub2, o_ssub3, o_ssub2, o_app, o_apps, o_mk, mkE_some, consD_some, mkD_zero, mkD_int, mkD_str, mkD_sl, o_imin, o_imax, o_smin, o_smax, o_eqs, eqsE_some, eqC_nil, andE_some, eqC_int, eqC_bool, eqC_str, j1, outE_some, outE_none, outE_ite, agE_1, loopE_1, agE_2, loopE_2, agE_3, loopE_3, agE_4, loopE_4, agE_5, loopE_5, agE_6, loopE_6, agE_7, loopE_7, agE_8, loopE_8, agE_9, loopE_9, List.cons_append, List.nil_append, List.append_nil, split, List.take_succ_cons, List.take_zero, List.drop_succ_cons, List.drop_zero, h1, h2', this]
  have h2' : (k.length : Int) ≤ 64 := by omega
  by_cases hc : cErr f b s a n m = 0
  · rw [decide_eq_true hc] at k19
    cases d
    · have : iErr k false f b s a n m = 0 := by unfold iErr; rw [if_neg (by rintro (h | h | h); exact h1 h; omega; cases h.1)]; exact hc
      simp [↓den_start, ↓deb_op, ↓deb_ret, ↓deb_jump, ↓deb_itev, ↓deb_itel, ↓deb_loop, ↓deb_fail, ↓deb_nilcv, nilE_some, opE_some, debP_nil, debP_cons, pushL_nil, pushL_cons, retE_some, iteE_some, evB_nil, evB_v, evB_l, lkE_cons, consE_some, d_int, d_bool, d_str, d_nil, o_add, o_sub, o_mul, o_and, o_or, o_xor, o_andNot, o_quo, o_rem, o_shl, o_shr, o_eql, o_neq, o_lss, o_leq, o_gtr, o_geq, o_seql, o_sneq, o_slss, o_sleq, o_sgtr, o_sgeq, o_beql, o_bneq, o_scat, o_not, o_neg, o_com, o_conv, o_s2b, o_b2s, o_len, o_slen, o_inb, o_idx, o_sidx, o_sub3, o_sub2, o_ssub3, o_ssub2, o_app, o_apps, o_mk, mkE_some, consD_some, mkD_zero, mkD_int, mkD_str, mkD_sl, o_imin, o_imax, o_smin, o_smax, o_eqs, eqsE_some, eqC_nil, andE_some, eqC_int, eqC_bool, eqC_str, j1, outE_some, outE_none, outE_ite, agE_1, loopE_1, agE_2, loopE_2, agE_3, loopE_3, agE_4, loopE_4, agE_5, loopE_5, agE_6, loopE_6, agE_7, loopE_7, agE_8, loopE_8, agE_9, loopE_9, List.cons_append, List.nil_append, List.append_nil, split, List.take_succ_cons, List.take_zero, List.drop_succ_cons, List.drop_zero, h1, h2', k19, this]
    · by_cases h3 : f = false ∧ b = [] ∧ s = 0 ∧ a = 0 ∧ n = 0 ∧ m = 0
      · have : iErr k true f b s a n m = 0 := by unfold iErr; rw [if_neg (by rintro (h | h | h); exact h1 h; omega; exact h.2 h3)]; exact hc
        rw [decide_eq_true h3] at k18
        simp [↓den_start, ↓deb_op, ↓deb_ret, ↓deb_jump, ↓deb_itev, ↓deb_itel, ↓deb_loop, ↓deb_fail, ↓deb_nilcv, nilE_some, opE_some, debP_nil, debP_cons, pushL_nil, pushL_cons, retE_some, iteE_some, evB_nil, evB_v, evB_l, lkE_cons, consE_some, d_int, d_bool, d_str, d_nil, o_add, o_sub, o_mul, o_and, o_or, o_xor, o_andNot, o_quo, o_rem, o_shl, o_shr, o_eql, o_neq, o_lss, o_leq, o_gtr, o_geq, o_seql, o_sneq, o_slss, o_sleq, o_sgtr, o_sgeq, o_beql, o_bneq, o_scat, o_not, o_neg, o_com, o_conv, o_s2b, o_b2s, o_len, o_slen, o_inb, o_idx, o_sidx, o_sub3, o_sub2, o_ssub3, o_ssub2, o_app, o_apps, o_mk, mkE_some, consD_some, mkD_zero, mkD_int, mkD_str, mkD_sl, o_imin, o_imax, o_smin, o_smax, o_eqs, eqsE_some, eqC_nil, andE_some, eqC_int, eqC_bool, eqC_str, j1, outE_some, outE_none, outE_ite, agE_1, loopE_1, agE_2, loopE_2, agE_3, loopE_3, agE_4, loopE_4, agE_5, loopE_5, agE_6, loopE_6, agE_7, loopE_7, agE_8, loopE_8, agE_9, loopE_9, List.cons_append, List.nil_append, List.append_nil, split, List.take_succ_cons, List.take_zero, List.drop_succ_cons, List.drop_zero, h1, h2', k19, k18, this]
      · have : ¬ iErr k true f b s a n m = 0 := by unfold iErr; rw [if_pos (.inr (.inr ⟨rfl, h3⟩))]; omega
        rw [decide_eq_false h3] at k18
        simp [↓den_start, ↓deb_op, ↓deb_ret, ↓deb_jump, ↓deb_itev, ↓deb_itel, ↓deb_loop, ↓deb_fail, ↓deb_nilcv, nilE_some, opE_some, debP_nil, debP_cons, pushL_nil, pushL_cons, retE_some, iteE_some, evB_nil, evB_v, evB_l, lkE_cons, consE_some, d_int, d_bool, d_str, d_nil, o_add, o_sub, o_mul, o_and, o_or, o_xor, o_andNot, o_quo, o_rem, o_shl, o_shr, o_eql, o_neq, o_lss, o_leq, o_gtr, o_geq, o_seql, o_sneq, o_slss, o_sleq, o_sgtr, o_sgeq, o_beql, o_bneq, o_scat, o_not, o_neg, o_com, o_conv, o_s2b, o_b2s, o_len, o_slen, o_inb, o_idx, o_sidx, o_sub3, o_sub2, o_ssub3, o_ssub2, o_app, o_apps, o_mk, mkE_some, consD_some, mkD_zero, mkD_int, mkD_str, mkD_sl, o_imin, o_imax, o_smin, o_smax, o_eqs, eqsE_some, eqC_nil, andE_some, eqC_int, eqC_bool, eqC_str, j1, outE_some, outE_none, outE_ite, agE_1, loopE_1, agE_2, loopE_2, agE_3, loopE_3, agE_4, loopE_4, agE_5, loopE_5, agE_6, loopE_6, agE_7, loopE_7, agE_8, loopE_8, agE_9, loopE_9, List.cons_append, List.nil_append, List.append_nil, split, List.take_succ_cons, List.take_zero, List.drop_succ_cons, List.drop_zero, h1, h2', k19, k18, this]
  · rw [decide_eq_false hc] at k19
    have : ¬ iErr k d f b s a n m = 0 := by
      unfold iErr; split
      · omega
      · exact hc
    simp [↓den_start, ↓deb_op, ↓deb_ret, ↓deb_jump, ↓deb_itev, ↓deb_itel, ↓deb_loop, ↓deb_fail, ↓deb_nilcv, nilE_some, opE_some, debP_nil, debP_cons, pushL_nil, pushL_cons, retE_some, iteE_some, evB_nil, evB_v, evB_l, lkE_cons, consE_some, d_int, d_bool, d_str, d_nil, o_add, o_sub, o_mul, o_and, o_or, o_xor, o_andNot, o_quo, o_rem, o_shl, o_shr, o_eql, o_neq, o_lss, o_leq, o_gtr, o_geq, o_seql, o_sneq, o_slss, o_sleq, o_sgtr, o_sgeq, o_beql, o_bneq, o_scat, o_not, o_neg, o_com, o_conv, o_s2b, o_b2s, o_len, o_slen, o_inb, o_idx, o_sidx, o_sub3, o_sub2, o_ssub3, o_ssub2, o_app, o_apps, o_mk, mkE_some, consD_some, mkD_zero, mkD_int, mkD_str, mkD_sl, o_imin, o_imax, o_smin, o_smax, o_eqs, eqsE_some, eqC_nil, andE_some, eqC_int, eqC_bool, eqC_str, j1, outE_some, outE_none, outE_ite, agE_1, loopE_1, agE_2, loopE_2, agE_3, loopE_3, agE_4, loopE_4, agE_5, loopE_5, agE_6, loopE_6, agE_7, loopE_7, agE_8, loopE_8, agE_9, loopE_9, List.cons_append, List.nil_append, List.append_nil, split, List.take_succ_cons, List.take_zero, List.drop_succ_cons, List.drop_zero, h1, h2', k19, this]
theorem s124 {lc : List Ct} (hl0 : look (lc.map fun c => (c.sig.id, c)) 124 = some c124) : ∀ (k : List Int) (d f : Bool) (b : List Int) (s a n m : Int) (hb : b.length < 1000000000), Does1 (Phi lc) 124 [⟨.str, k⟩, ⟨.bool, d⟩, ⟨.bool, f⟩, ⟨.sl (.int .u8), b⟩, ⟨.int .i64, s⟩, ⟨.int .i64, a⟩, ⟨.int .i64, n⟩, ⟨.int .u32, m⟩] [⟨.bool, decide (iErr k d f b s a n m = 0)⟩] :=
  fun k d f b s a n m hb => Does1.of hl0 (f124 k d f b s a n m hb) rfl
theorem f76 (k : List Int) (d f : Bool) (b : List Int) (s a n m : Int) : F76 [⟨.str, k⟩, ⟨.bool, d⟩, ⟨.bool, f⟩, ⟨.sl (.int .u8), b⟩, ⟨.int .i64, s⟩, ⟨.int .i64, a⟩, ⟨.int .i64, n⟩, ⟨.int .u32, m⟩] = some [⟨.int .u8, if d = true then 1 else 0⟩] := by
  simp only [F76, Fof, ir76]
  cases d <;> simp [↓den_start, ↓deb_op, ↓deb_ret, ↓deb_jump, ↓deb_itev, ↓deb_itel, ↓deb_loop, ↓deb_fail, ↓deb_nilcv, nilE_some, opE_some, debP_nil, debP_cons, pushL_nil, pushL_cons, retE_some, iteE_some, evB_nil, evB_v, evB_l, lkE_cons, consE_some, d_int, d_bool, d_str, d_nil, o_add, o_sub, o_mul, o_and, o_or, o_xor, o_andNot, o_quo, o_rem, o_shl, o_shr, o_eql, o_neq, o_lss, o_leq, o_gtr, o_geq, o_seql, o_sneq, o_slss, o_sleq, o_sgtr, o_sgeq, o_beql, o_bneq, o_scat, o_not, o_neg, o_com, o_conv, o_s2b, o_b2s, o_len, o_slen, o_inb, o_idx, o_sidx, o_sub3, o_sub2, o_ssub3, o_ssub2, o_app, o_apps, o_mk, mkE_some, consD_some, mkD_zero, mkD_int, mkD_str, mkD_sl, o_imin, o_imax, o_smin, o_smax, o_eqs, eqsE_some, eqC_nil, andE_some, eqC_int, eqC_bool, eqC_str, j1, outE_some, outE_none, outE_ite, agE_1, loopE_1, agE_2, loopE_2, agE_3, loopE_3, agE_4, loopE_4, agE_5, loopE_5, agE_6, loopE_6, agE_7, loopE_7, agE_8, loopE_8, agE_9, loopE_9, List.cons_append, List.nil_append, List.append_nil, split, List.take_succ_cons, List.take_zero, List.drop_succ_cons, List.drop_zero]
theorem s76 {lc : List Ct} (hl0 : look (lc.map fun c => (c.sig.id, c)) 76 = some c76) : ∀ (k : List Int) (d f : Bool) (b : List Int) (s a n m : Int), Does1 (Phi lc) 76 [⟨.str, k⟩, ⟨.bool, d⟩, ⟨.bool, f⟩, ⟨.sl (.int .u8), b⟩, ⟨.int .i64, s⟩, ⟨.int .i64, a⟩, ⟨.int .i64, n⟩, ⟨.int .u32, m⟩] [⟨.int .u8, if d = true then 1 else 0⟩] :=
  fun k d f b s a n m => Does1.of hl0 (f76 k d f b s a n m) rfl

def itErr (x : It) : Int := iErr x.1 x.2.1 x.2.2.1 x.2.2.2.1 x.2.2.2.2.1 x.2.2.2.2.2.1 x.2.2.2.2.2.2.1 x.2.2.2.2.2.2.2
/-- items in order, behind a key -/
def srt : Option (List Int) → List It → Bool
  | _, [] => true
  | p, x :: r => decide (itErr x = 0) && (match p with | none => true | some k => ltL k x.1) && srt (some x.1) r
def prevK (l : List It) (i : Int) : Option (List Int) := if i ≤ 0 then none else (l[i.toNat - 1]?).map (·.1)

theorem prevK_succ {l : List It} {i : Int} (h0 : 0 ≤ i) (h1 : i < l.length) : prevK l (i + 1) = some (l[i.toNat]'(by omega)).1 := by
  unfold prevK
  rw [if_neg (by omega), show (i + 1).toNat - 1 = i.toNat by omega, List.getElem?_eq_getElem (by omega)]; rfl

theorem srt_step {l : List It} {i : Int} (h0 : 0 ≤ i) (h1 : i < l.length) : srt (prevK l i) (l.drop i.toNat) =
    (decide (itErr (l[i.toNat]'(by omega)) = 0) && (if i ≤ 0 then true else ltL ((l[i.toNat - 1]?.map (·.1)).getD []) (l[i.toNat]'(by omega)).1) && srt (prevK l (i + 1)) (l.drop (i + 1).toNat)) := by
  rw [dropI h0 h1, prevK_succ h0 h1]
  simp only [srt]
  congr 2
  unfold prevK
  by_cases h : i ≤ 0
  · rw [if_pos h, if_pos h]
  · rw [if_neg h, if_neg h, List.getElem?_eq_getElem (by omega)]; rfl

def lightL (l : List It) : Bool := decide (l.length ≤ 100) && l.all fun x => decide (x.1.length ≤ 200 ∧ x.2.2.2.1.length ≤ 200)

theorem f75 (l : List It) (hl : l.length < 1000000) : F75 [⟨.sl ItT, l⟩] = some [⟨.bool, srt none l⟩] := by
  have h98 := s98 (lc := [c98]) rfl
  simp only [F75, Fof, ir75]
  generalize Phi [c98] = Φ at *
  simp [↓den_start, ↓deb_op, ↓deb_ret, ↓deb_jump, ↓deb_itev, ↓deb_itel, ↓deb_loop, ↓deb_fail, ↓deb_nilcv, nilE_some, opE_some, debP_nil, debP_cons, pushL_nil, pushL_cons, retE_some, iteE_some, evB_nil, evB_v, evB_l, lkE_cons, consE_some, d_int, d_bool, d_str, d_nil, o_add, o_sub, o_mul, o_and, o_or, o_xor, o_andNot, o_quo, o_rem, o_shl, o_shr, o_eql, o_neq, o_lss, o_leq, o_gtr, o_geq, o_seql, o_sneq, o_slss, o_sleq, o_sgtr, o_sgeq, o_beql, o_bneq, o_scat, o_not, o_neg, o_com, o_conv, o_s2b, o_b2s, o_len, o_slen, o_inb, o_idx, o_sidx, o_sub3, o_sub2, o_ssub3, o_ssub2, o_app, o_apps, o_mk, mkE_some, consD_some, mkD_zero, mkD_int, mkD_str, mkD_sl, o_imin, o_imax, o_smin, o_smax, o_eqs, eqsE_some, eqC_nil, andE_some, eqC_int, eqC_bool, eqC_str, j1, outE_some, outE_none, outE_ite, agE_1, loopE_1, agE_2, loopE_2, agE_3, loopE_3, agE_4, loopE_4, agE_5, loopE_5, agE_6, loopE_6, agE_7, loopE_7, agE_8, loopE_8, agE_9, loopE_9, List.cons_append, List.nil_append, List.append_nil, split, List.take_succ_cons, List.take_zero, List.drop_succ_cons, List.drop_zero]
  refine (iter_meas (fun s : Int => (l.length - s).toNat) (fun s => ([⟨.bool, srt (prevK l s) (l.drop s.toNat)⟩] : List D)) (fun s => 0 ≤ s ∧ s ≤ l.length) (by exact ⟨by omega, by omega⟩) ?_).trans (by simp [prevK])
  rintro i ⟨h1, h2⟩
  by_cases hi : i < l.length
  · rw [if_pos hi, if_pos ⟨h1, hi⟩]
    have hg := getG (d := dflt ItT) h1 hi
    have hst := srt_step h1 hi
    simp only [hg]
    have hx : l[i.toNat]? = some (l[i.toNat]'(by omega)) := List.getElem?_eq_getElem (by omega)
    generalize l[i.toNat]'(by omega) = x at *
    obtain ⟨k, d, f, b, s, a, n, m⟩ := x
    have k98 := h98 k d f b s a n m
    rw [hst]
    simp only [itErr]
    have ei : IntKind.i64.wrap (i + 1) = i + 1 := wi64 _ (by omega) (by omega)
    have em : IntKind.i64.wrap (i - 1) = i - 1 := wi64 _ (by omega) (by omega)
    by_cases hz : iErr k d f b s a n m = 0
    · by_cases h0 : 0 < i
      · have hb1 : 0 ≤ i - 1 ∧ i - 1 < (l.length : Int) := by omega
        obtain ⟨y, hp⟩ : ∃ y, l[i.toNat - 1]? = some y := ⟨_, List.getElem?_eq_getElem (by omega)⟩
        have h0' : ¬ i ≤ 0 := by omega
        have hi1 : 1 ≤ i := by omega
        by_cases hlt : ltL y.1 k = true
        · refine .inl ⟨i + 1, ?_, ⟨by omega, by omega⟩, by omega, by simp [hz, h0', hp, hlt]⟩
          simp [↓den_start, ↓deb_op, ↓deb_ret, ↓deb_jump, ↓deb_itev, ↓deb_itel, ↓deb_loop, ↓deb_fail, ↓deb_nilcv, nilE_some, opE_some, debP_nil, debP_cons, pushL_nil, pushL_cons, retE_some, iteE_some, evB_nil, evB_v, evB_l, lkE_cons, consE_some, d_int, d_bool, d_str, d_nil, o_add, o_sub, o_mul, o_and, o_or, o_xor, o_andNot, o_quo, o_rem, o_shl, o_shr, o_eql, o_neq, o_lss, o_leq, o_gtr, o_geq, o_seql, o_sneq, o_slss, o_sleq, o_sgtr, o_sgeq, o_beql, o_bneq, o_scat, o_not, o_neg, o_com, o_conv, o_s2b, o_b2s, o_len, o_slen, o_inb, o_idx, o_sidx, o_sub3, o_sub2, o_ssub3, o_ssub2, o_app, o_apps, o_mk, mkE_some, consD_some, mkD_zero, mkD_int, mkD_str, mkD_sl, o_imin, o_imax, o_smin, o_smax, o_eqs, eqsE_some, eqC_nil, andE_some, eqC_int, eqC_bool, eqC_str, j1, outE_some, outE_none, outE_ite, agE_1, loopE_1, agE_2, loopE_2, agE_3, loopE_3, agE_4, loopE_4, agE_5, loopE_5, agE_6, loopE_6, agE_7, loopE_7, agE_8, loopE_8, agE_9, loopE_9, List.cons_append, List.nil_append, List.append_nil, split, List.take_succ_cons, List.take_zero, List.drop_succ_cons, List.drop_zero, k98, hz, h0, em, ei, hb1, hp, hlt, hx, hi1]
        · have hlt : ltL y.1 k = false := by simpa using hlt
          refine .inr ?_
          simp [↓den_start, ↓deb_op, ↓deb_ret, ↓deb_jump, ↓deb_itev, ↓deb_itel, ↓deb_loop, ↓deb_fail, ↓deb_nilcv, nilE_some, opE_some, debP_nil, debP_cons, pushL_nil, pushL_cons, retE_some, iteE_some, evB_nil, evB_v, evB_l, lkE_cons, consE_some, d_int, d_bool, d_str, d_nil, o_add, o_sub, o_mul, o_and, o_or, o_xor, o_andNot, o_quo, o_rem, o_shl, o_shr, o_eql, o_neq, o_lss, o_leq, o_gtr, o_geq, o_seql, o_sneq, o_slss, o_sleq, o_sgtr, o_sgeq, o_beql, o_bneq, o_scat, o_not, o_neg, o_com, o_conv, o_s2b, o_b2s, o_len, o_slen, o_inb, o_idx, o_sidx, o_sub3, o_sub2, o_ssub3, o_ssub2, o_app, o_apps, o_mk, mkE_some, consD_some, mkD_zero, mkD_int, mkD_str, mkD_sl, o_imin, o_imax, o_smin, o_smax, o_eqs, eqsE_some, eqC_nil, andE_some, eqC_int, eqC_bool, eqC_str, j1, outE_some, outE_none, outE_ite, agE_1, loopE_1, agE_2, loopE_2, agE_3, loopE_3, agE_4, loopE_4, agE_5, loopE_5, agE_6, loopE_6, agE_7, loopE_7, agE_8, loopE_8, agE_9, loopE_9, List.cons_append, List.nil_append, List.append_nil, split, List.take_succ_cons, List.take_zero, List.drop_succ_cons, List.drop_zero, k98, hz, h0, em, ei, hb1, hp, hlt, hx, h0', hi1]
      · have h0' : i ≤ 0 := by omega
        refine .inl ⟨i + 1, ?_, ⟨by omega, by omega⟩, by omega, by simp [hz, h0']⟩
        simp [↓den_start, ↓deb_op, ↓deb_ret, ↓deb_jump, ↓deb_itev, ↓deb_itel, ↓deb_loop, ↓deb_fail, ↓deb_nilcv, nilE_some, opE_some, debP_nil, debP_cons, pushL_nil, pushL_cons, retE_some, iteE_some, evB_nil, evB_v, evB_l, lkE_cons, consE_some, d_int, d_bool, d_str, d_nil, o_add, o_sub, o_mul, o_and, o_or, o_xor, o_andNot, o_quo, o_rem, o_shl, o_shr, o_eql, o_neq, o_lss, o_leq, o_gtr, o_geq, o_seql, o_sneq, o_slss, o_sleq, o_sgtr, o_sgeq, o_beql, o_bneq, o_scat, o_not, o_neg, o_com, o_conv, o_s2b, o_b2s, o_len, o_slen, o_inb, o_idx, o_sidx, o_sub3, o_sub2, o_ssub3, o_ssub2, o_app, o_apps, o_mk, mkE_some, consD_some, mkD_zero, mkD_int, mkD_str, mkD_sl, o_imin, o_imax, o_smin, o_smax, o_eqs, eqsE_some, eqC_nil, andE_some, eqC_int, eqC_bool, eqC_str, j1, outE_some, outE_none, outE_ite, agE_1, loopE_1, agE_2, loopE_2, agE_3, loopE_3, agE_4, loopE_4, agE_5, loopE_5, agE_6, loopE_6, agE_7, loopE_7, agE_8, loopE_8, agE_9, loopE_9, List.cons_append, List.nil_append, List.append_nil, split, List.take_succ_cons, List.take_zero, List.drop_succ_cons, List.drop_zero, k98, hz, h0, ei]
    · refine .inr ?_
      simp [↓den_start, ↓deb_op, ↓deb_ret, ↓deb_jump, ↓deb_itev, ↓deb_itel, ↓deb_loop, ↓deb_fail, ↓deb_nilcv, nilE_some, opE_some, debP_nil, debP_cons, pushL_nil, pushL_cons, retE_some, iteE_some, evB_nil, evB_v, evB_l, lkE_cons, consE_some, d_int, d_bool, d_str, d_nil, o_add, o_sub, o_mul, o_and, o_or, o_xor, o_andNot, o_quo, o_rem, o_shl, o_shr, o_eql, o_neq, o_lss, o_leq, o_gtr, o_geq, o_seql, o_sneq, o_slss, o_sleq, o_sgtr, o_sgeq, o_beql, o_bneq, o_scat, o_not, o_neg, o_com, o_conv, o_s2b, o_b2s, o_len, o_slen, o_inb, o_idx, o_sidx, o_sub3, o_sub2, o_ssub3, o_ssub2, o_app, o_apps, o_mk, mkE_some, consD_some, mkD_zero, mkD_int, mkD_str, mkD_sl, o_imin, o_imax, o_smin, o_smax, o_eqs, eqsE_some, eqC_nil, andE_some, eqC_int, eqC_bool, eqC_str, j1, outE_some, outE_none, outE_ite, agE_1, loopE_1, agE_2, loopE_2, agE_3, loopE_3, agE_4, loopE_4, agE_5, loopE_5, agE_6, loopE_6, agE_7, loopE_7, agE_8, loopE_8, agE_9, loopE_9, List.cons_append, List.nil_append, List.append_nil, split, List.take_succ_cons, List.take_zero, List.drop_succ_cons, List.drop_zero, k98, hz]
  · rw [if_neg hi, List.drop_eq_nil_of_le (by omega), srt]
    exact .inr rfl
theorem s75 {lc : List Ct} (hl0 : look (lc.map fun c => (c.sig.id, c)) 75 = some c75) : ∀ (l : List It) (hl : l.length < 1000000), Does1 (Phi lc) 75 [⟨.sl ItT, l⟩] [⟨.bool, srt none l⟩] :=
  fun l hl => Does1.of hl0 (f75 l hl) rfl
theorem f77 (l : List It) (hl : l.length < 1000000) (hb : ∀ x ∈ l, x.2.2.2.1.length < 1000000000) : F77 [⟨.sl ItT, l⟩] = some [⟨.bool, srt none l⟩] := by
  have h124 := s124 (lc := [c124]) rfl
  simp only [F77, Fof, ir77]
  generalize Phi [c124] = Φ at *
  simp [↓den_start, ↓deb_op, ↓deb_ret, ↓deb_jump, ↓deb_itev, ↓deb_itel, ↓deb_loop, ↓deb_fail, ↓deb_nilcv, nilE_some, opE_some, debP_nil, debP_cons, pushL_nil, pushL_cons, retE_some, iteE_some, evB_nil, evB_v, evB_l, lkE_cons, consE_some, d_int, d_bool, d_str, d_nil, o_add, o_sub, o_mul, o_and, o_or, o_xor, o_andNot, o_quo, o_rem, o_shl, o_shr, o_eql, o_neq, o_lss, o_leq, o_gtr, o_geq, o_seql, o_sneq, o_slss, o_sleq, o_sgtr, o_sgeq, o_beql, o_bneq, o_scat, o_not, o_neg, o_com, o_conv, o_s2b, o_b2s, o_len, o_slen, o_inb, o_idx, o_sidx, o_sub3, o_sub2, o_ssub3, o_ssub2, o_app, o_apps, o_mk, mkE_some, consD_some, mkD_zero, mkD_int, mkD_str, mkD_sl, o_imin, o_imax, o_smin, o_smax, o_eqs, eqsE_some, eqC_nil, andE_some, eqC_int, eqC_bool, eqC_str, j1, outE_some, outE_none, outE_ite, agE_1, loopE_1, agE_2, loopE_2, agE_3, loopE_3, agE_4, loopE_4, agE_5, loopE_5, agE_6, loopE_6, agE_7, loopE_7, agE_8, loopE_8, agE_9, loopE_9, List.cons_append, List.nil_append, List.append_nil, split, List.take_succ_cons, List.take_zero, List.drop_succ_cons, List.drop_zero]
  refine (iter_meas (fun s : Int => (l.length - s).toNat) (fun s => ([⟨.bool, srt (prevK l s) (l.drop s.toNat)⟩] : List D)) (fun s => 0 ≤ s ∧ s ≤ l.length) (by exact ⟨by omega, by omega⟩) ?_).trans (by simp [prevK])
  rintro i ⟨h1, h2⟩
  by_cases hi : i < l.length
  · rw [if_pos hi, if_pos ⟨h1, hi⟩]
    have hg := getG (d := dflt ItT) h1 hi
    have hst := srt_step h1 hi
    simp only [hg]
    have hx : l[i.toNat]? = some (l[i.toNat]'(by omega)) := List.getElem?_eq_getElem (by omega)
    have hbx := hb (l[i.toNat]'(by omega)) (List.getElem_mem _)
    generalize hxe : l[i.toNat]'(by omega) = x at *
    obtain ⟨k, d, f, b, s, a, n, m⟩ := x
    have k124 := h124 k d f b s a n m hbx
    rw [hst]
    simp only [itErr]
    have ei : IntKind.i64.wrap (i + 1) = i + 1 := wi64 _ (by omega) (by omega)
    have em : IntKind.i64.wrap (i - 1) = i - 1 := wi64 _ (by omega) (by omega)
    by_cases hz : iErr k d f b s a n m = 0
    · rw [decide_eq_true hz] at k124
      by_cases h0 : 0 < i
      · have hb1 : 0 ≤ i - 1 ∧ i - 1 < (l.length : Int) := by omega
        obtain ⟨y, hp⟩ : ∃ y, l[i.toNat - 1]? = some y := ⟨_, List.getElem?_eq_getElem (by omega)⟩
        have h0' : ¬ i ≤ 0 := by omega
        have hi1 : 1 ≤ i := by omega
        by_cases hlt : ltL y.1 k = true
        · refine .inl ⟨i + 1, ?_, ⟨by omega, by omega⟩, by omega, by simp [hz, h0', hp, hlt]⟩
          simp [↓den_start, ↓deb_op, ↓deb_ret, ↓deb_jump, ↓deb_itev, ↓deb_itel, ↓deb_loop, ↓deb_fail, ↓deb_nilcv, nilE_some, opE_some, debP_nil, debP_cons, pushL_nil, pushL_cons, retE_some, iteE_some, evB_nil, evB_v, evB_l, lkE_cons, consE_some, d_int, d_bool, d_str, d_nil, o_add, o_sub, o_mul, o_and, o_or, o_xor, o_andNot, o_quo, o_rem, o_shl, o_shr, o_eql, o_neq, o_lss, o_leq, o_gtr, o_geq, o_seql, o_sneq, o_slss, o_sleq, o_sgtr, o_sgeq, o_beql, o_bneq, o_scat, o_not, o_neg, o_com, o_conv, o_s2b, o_b2s, o_len, o_slen, o_inb, o_idx, o_sidx, o_sub3, o_sub2, o_ssub3, o_ssub2, o_app, o_apps, o_mk, mkE_some, consD_some, mkD_zero, mkD_int, mkD_str, mkD_sl, o_imin, o_imax, o_smin, o_smax, o_eqs, eqsE_some, eqC_nil, andE_some, eqC_int, eqC_bool, eqC_str, j1, outE_some, outE_none, outE_ite, agE_1, loopE_1, agE_2, loopE_2, agE_3, loopE_3, agE_4, loopE_4, agE_5, loopE_5, agE_6, loopE_6, agE_7, loopE_7, agE_8, loopE_8, agE_9, loopE_9, List.cons_append, List.nil_append, List.append_nil, split, List.take_succ_cons, List.take_zero, List.drop_succ_cons, List.drop_zero, k124, hz, h0, h1, hi, em, ei, hb1, hp, hlt, hx, hxe, hi1]
        · have hlt : ltL y.1 k = false := by simpa using hlt
          refine .inr ?_
          simp [↓den_start, ↓deb_op, ↓deb_ret, ↓deb_jump, ↓deb_itev, ↓deb_itel, ↓deb_loop, ↓deb_fail, ↓deb_nilcv, nilE_some, opE_some, debP_nil, debP_cons, pushL_nil, pushL_cons, retE_some, iteE_some, evB_nil, evB_v, evB_l, lkE_cons, consE_some, d_int, d_bool, d_str, d_nil, o_add, o_sub, o_mul, o_and, o_or, o_xor, o_andNot, o_quo, o_rem, o_shl, o_shr, o_eql, o_neq, o_lss, o_leq, o_gtr, o_geq, o_seql, o_sneq, o_slss, o_sleq, o_sgtr, o_sgeq, o_beql, o_bneq, o_scat, o_not, o_neg, o_com, o_conv, o_s2b, o_b2s, o_len, o_slen, o_inb, o_idx, o_sidx, o_sub3, o_sub2, o_ssub3, o_ssub2, o_app, o_apps, o_mk, mkE_some, consD_some, mkD_zero, mkD_int, mkD_str, mkD_sl, o_imin, o_imax, o_smin, o_smax, o_eqs, eqsE_some, eqC_nil, andE_some, eqC_int, eqC_bool, eqC_str, j1, outE_some, outE_none, outE_ite, agE_1, loopE_1, agE_2, loopE_2, agE_3, loopE_3, agE_4, loopE_4, agE_5, loopE_5, agE_6, loopE_6, agE_7, loopE_7, agE_8, loopE_8, agE_9, loopE_9, List.cons_append, List.nil_append, List.append_nil, split, List.take_succ_cons, List.take_zero, List.drop_succ_cons, List.drop_zero, k124, hz, h0, h1, hi, em, ei, hb1, hp, hlt, hx, hxe, h0', hi1]
      · have h0' : i ≤ 0 := by omega
        refine .inl ⟨i + 1, ?_, ⟨by omega, by omega⟩, by omega, by simp [hz, h0']⟩
        simp [↓den_start, ↓deb_op, ↓deb_ret, ↓deb_jump, ↓deb_itev, ↓deb_itel, ↓deb_loop, ↓deb_fail, ↓deb_nilcv, nilE_some, opE_some, debP_nil, debP_cons, pushL_nil, pushL_cons, retE_some, iteE_some, evB_nil, evB_v, evB_l, lkE_cons, consE_some, d_int, d_bool, d_str, d_nil, o_add, o_sub, o_mul, o_and, o_or, o_xor, o_andNot, o_quo, o_rem, o_shl, o_shr, o_eql, o_neq, o_lss, o_leq, o_gtr, o_geq, o_seql, o_sneq, o_slss, o_sleq, o_sgtr, o_sgeq, o_beql, o_bneq, o_scat, o_not, o_neg, o_com, o_conv, o_s2b, o_b2s, o_len, o_slen, o_inb, o_idx, o_sidx, o_sub3, o_sub2, o_ssub3, o_ssub2, o_app, o_apps, o_mk, mkE_some, consD_some, mkD_zero, mkD_int, mkD_str, mkD_sl, o_imin, o_imax, o_smin, o_smax, o_eqs, eqsE_some, eqC_nil, andE_some, eqC_int, eqC_bool, eqC_str, j1, outE_some, outE_none, outE_ite, agE_1, loopE_1, agE_2, loopE_2, agE_3, loopE_3, agE_4, loopE_4, agE_5, loopE_5, agE_6, loopE_6, agE_7, loopE_7, agE_8, loopE_8, agE_9, loopE_9, List.cons_append, List.nil_append, List.append_nil, split, List.take_succ_cons, List.take_zero, List.drop_succ_cons, List.drop_zero, k124, hz, h0, ei]
    · rw [decide_eq_false hz] at k124
      refine .inr ?_
      simp [↓den_start, ↓deb_op, ↓deb_ret, ↓deb_jump, ↓deb_itev, ↓deb_itel, ↓deb_loop, ↓deb_fail, ↓deb_nilcv, nilE_some, opE_some, debP_nil, debP_cons, pushL_nil, pushL_cons, retE_some, iteE_some, evB_nil, evB_v, evB_l, lkE_cons, consE_some, d_int, d_bool, d_str, d_nil, o_add, o_sub, o_mul, o_and, o_or, o_xor, o_andNot, o_quo, o_rem, o_shl, o_shr, o_eql, o_neq, o_lss, o_leq, o_gtr, o_geq, o_seql, o_sneq, o_slss, o_sleq, o_sgtr, o_sgeq, o_beql, o_bneq, o_scat, o_not, o_neg, o_com, o_conv, o_s2b, o_b2s, o_len, o_slen, o_inb, o_idx, o_sidx, o_sub3, o_sub2, o_ssub3, o_ssub2, o_app, o_apps, o_mk, mkE_some, consD_some, mkD_zero, mkD_int, mkD_str, mkD_sl, o_imin, o_imax, o_smin, o_smax, o_eqs, eqsE_some, eqC_nil, andE_some, eqC_int, eqC_bool, eqC_str, j1, outE_some, outE_none, outE_ite, agE_1, loopE_1, agE_2, loopE_2, agE_3, loopE_3, agE_4, loopE_4, agE_5, loopE_5, agE_6, loopE_6, agE_7, loopE_7, agE_8, loopE_8, agE_9, loopE_9, List.cons_append, List.nil_append, List.append_nil, split, List.take_succ_cons, List.take_zero, List.drop_succ_cons, List.drop_zero, k124, hz]
  · rw [if_neg hi, List.drop_eq_nil_of_le (by omega), srt]
    exact .inr rfl
theorem s77 {lc : List Ct} (hl0 : look (lc.map fun c => (c.sig.id, c)) 77 = some c77) : ∀ (l : List It) (hl : l.length < 1000000) (hb : ∀ x ∈ l, x.2.2.2.1.length < 1000000000), Does1 (Phi lc) 77 [⟨.sl ItT, l⟩] [⟨.bool, srt none l⟩] :=
  fun l hl hb => Does1.of hl0 (f77 l hl hb) rfl
theorem f33 (l : List It) (hl : l.length < 1000000) (hb : ∀ x ∈ l, x.2.2.2.1.length < 1000000000) : F33 [⟨.sl ItT, l⟩] = some [⟨.bool, decide (1 ≤ l.length ∧ l.length ≤ 256) && srt none l⟩] := by
  have h77 := s77 (lc := [c77]) rfl
  simp only [F33, Fof, ir33]
  generalize Phi [c77] = Φ at *
  have k77 := h77 l hl hb
  by_cases c1 : (1 : Int) ≤ l.length <;> by_cases c2 : (l.length : Int) ≤ 256
  · have e : 1 ≤ l.length ∧ l.length ≤ 256 := by omega
    simp [↓den_start, ↓deb_op, ↓deb_ret, ↓deb_jump, ↓deb_itev, ↓deb_itel, ↓deb_loop, ↓deb_fail, ↓deb_nilcv, nilE_some, opE_some, debP_nil, debP_cons, pushL_nil, pushL_cons, retE_some, iteE_some, evB_nil, evB_v, evB_l, lkE_cons, consE_some, d_int, d_bool, d_str, d_nil, o_add, o_sub, o_mul, o_and, o_or, o_xor, o_andNot, o_quo, o_rem, o_shl, o_shr, o_eql, o_neq, o_lss, o_leq, o_gtr, o_geq, o_seql, o_sneq, o_slss, o_sleq, o_sgtr, o_sgeq, o_beql, o_bneq, o_scat, o_not, o_neg, o_com, o_conv, o_s2b, o_b2s, o_len, o_slen, o_inb, o_idx, o_sidx, o_sub3, o_sub2, o_ssub3, o_ssub2, o_app, o_apps, o_mk, mkE_some, consD_some, mkD_zero, mkD_int, mkD_str, mkD_sl, o_imin, o_imax, o_smin, o_smax, o_eqs, eqsE_some, eqC_nil, andE_some, eqC_int, eqC_bool, eqC_str, j1, outE_some, outE_none, outE_ite, agE_1, loopE_1, agE_2, loopE_2, agE_3, loopE_3, agE_4, loopE_4, agE_5, loopE_5, agE_6, loopE_6, agE_7, loopE_7, agE_8, loopE_8, agE_9, loopE_9, List.cons_append, List.nil_append, List.append_nil, split, List.take_succ_cons, List.take_zero, List.drop_succ_cons, List.drop_zero, k77, c1, c2, e]
  · have e : ¬ (1 ≤ l.length ∧ l.length ≤ 256) := by omega
    rw [decide_eq_false e]
    simp [↓den_start, ↓deb_op, ↓deb_ret, ↓deb_jump, ↓deb_itev, ↓deb_itel, ↓deb_loop, ↓deb_fail, ↓deb_nilcv, nilE_some, opE_some, debP_nil, debP_cons, pushL_nil, pushL_cons, retE_some, iteE_some, evB_nil, evB_v, evB_l, lkE_cons, consE_some, d_int, d_bool, d_str, d_nil, o_add, o_sub, o_mul, o_and, o_or, o_xor, o_andNot, o_quo, o_rem, o_shl, o_shr, o_eql, o_neq, o_lss, o_leq, o_gtr, o_geq, o_seql, o_sneq, o_slss, o_sleq, o_sgtr, o_sgeq, o_beql, o_bneq, o_scat, o_not, o_neg, o_com, o_conv, o_s2b, o_b2s, o_len, o_slen, o_inb, o_idx, o_sidx, o_sub3, o_sub2, o_ssub3, o_ssub2, o_app, o_apps, o_mk, mkE_some, consD_some, mkD_zero, mkD_int, mkD_str, mkD_sl, o_imin, o_imax, o_smin, o_smax, o_eqs, eqsE_some, eqC_nil, andE_some, eqC_int, eqC_bool, eqC_str, j1, outE_some, outE_none, outE_ite, agE_1, loopE_1, agE_2, loopE_2, agE_3, loopE_3, agE_4, loopE_4, agE_5, loopE_5, agE_6, loopE_6, agE_7, loopE_7, agE_8, loopE_8, agE_9, loopE_9, List.cons_append, List.nil_append, List.append_nil, split, List.take_succ_cons, List.take_zero, List.drop_succ_cons, List.drop_zero, k77, c1, c2]
  · have e : ¬ (1 ≤ l.length ∧ l.length ≤ 256) := by omega
    rw [decide_eq_false e]
    simp [↓den_start, ↓deb_op, ↓deb_ret, ↓deb_jump, ↓deb_itev, ↓deb_itel, ↓deb_loop, ↓deb_fail, ↓deb_nilcv, nilE_some, opE_some, debP_nil, debP_cons, pushL_nil, pushL_cons, retE_some, iteE_some, evB_nil, evB_v, evB_l, lkE_cons, consE_some, d_int, d_bool, d_str, d_nil, o_add, o_sub, o_mul, o_and, o_or, o_xor, o_andNot, o_quo, o_rem, o_shl, o_shr, o_eql, o_neq, o_lss, o_leq, o_gtr, o_geq, o_seql, o_sneq, o_slss, o_sleq, o_sgtr, o_sgeq, o_beql, o_bneq, o_scat, o_not, o_neg, o_com, o_conv, o_s2b, o_b2s, o_len, o_slen, o_inb, o_idx, o_sidx, o_sub3, o_sub2, o_ssub3, o_ssub2, o_app, o_apps, o_mk, mkE_some, consD_some, mkD_zero, mkD_int, mkD_str, mkD_sl, o_imin, o_imax, o_smin, o_smax, o_eqs, eqsE_some, eqC_nil, andE_some, eqC_int, eqC_bool, eqC_str, j1, outE_some, outE_none, outE_ite, agE_1, loopE_1, agE_2, loopE_2, agE_3, loopE_3, agE_4, loopE_4, agE_5, loopE_5, agE_6, loopE_6, agE_7, loopE_7, agE_8, loopE_8, agE_9, loopE_9, List.cons_append, List.nil_append, List.append_nil, split, List.take_succ_cons, List.take_zero, List.drop_succ_cons, List.drop_zero, k77, c1, c2]
  · omega
theorem s33 {lc : List Ct} (hl0 : look (lc.map fun c => (c.sig.id, c)) 33 = some c33) : ∀ (l : List It) (hl : l.length < 1000000) (hb : ∀ x ∈ l, x.2.2.2.1.length < 1000000000), Does1 (Phi lc) 33 [⟨.sl ItT, l⟩] [⟨.bool, decide (1 ≤ l.length ∧ l.length ≤ 256) && srt none l⟩] :=
  fun l hl hb => Does1.of hl0 (f33 l hl hb) rfl
theorem f28 (l : List It) : F28 [⟨.sl ItT, l⟩] = some [⟨.bool, lightL l⟩] := by
  simp only [F28, Fof, ir28]
  simp [↓den_start, ↓deb_op, ↓deb_ret, ↓deb_jump, ↓deb_itev, ↓deb_itel, ↓deb_loop, ↓deb_fail, ↓deb_nilcv, nilE_some, opE_some, debP_nil, debP_cons, pushL_nil, pushL_cons, retE_some, iteE_some, evB_nil, evB_v, evB_l, lkE_cons, consE_some, d_int, d_bool, d_str, d_nil, o_add, o_sub, o_mul, o_and, o_or, o_xor, o_andNot, o_quo, o_rem, o_shl, o_shr, o_eql, o_neq, o_lss, o_leq, o_gtr, o_geq, o_seql, o_sneq, o_slss, o_sleq, o_sgtr, o_sgeq, o_beql, o_bneq, o_scat, o_not, o_neg, o_com, o_conv, o_s2b, o_b2s, o_len, o_slen, o_inb, o_idx, o_sidx, o_sub3, o_sub2, o_ssub3, o_ssub2, o_app, o_apps, o_mk, mkE_some, consD_some, mkD_zero, mkD_int, mkD_str, mkD_sl, o_imin, o_imax, o_smin, o_smax, o_eqs, eqsE_some, eqC_nil, andE_some, eqC_int, eqC_bool, eqC_str, j1, outE_some, outE_none, outE_ite, agE_1, loopE_1, agE_2, loopE_2, agE_3, loopE_3, agE_4, loopE_4, agE_5, loopE_5, agE_6, loopE_6, agE_7, loopE_7, agE_8, loopE_8, agE_9, loopE_9, List.cons_append, List.nil_append, List.append_nil, split, List.take_succ_cons, List.take_zero, List.drop_succ_cons, List.drop_zero]
  refine (iter_meas (fun s : Int => (l.length - s).toNat) (fun s => ([⟨.bool, decide (l.length ≤ 100) && (l.drop s.toNat).all fun x ↦ decide (x.1.length ≤ 200 ∧ x.2.2.2.1.length ≤ 200)⟩] : List D)) (fun s => 0 ≤ s ∧ s ≤ l.length) (by exact ⟨by omega, by omega⟩) ?_).trans (by simp [lightL])
  rintro i ⟨h1, h2⟩
  by_cases hi : i < l.length
  · by_cases h100 : i ≤ 100
    · rw [if_pos hi, if_pos h100, if_pos ⟨h1, hi⟩]
      have hg := getG (d := dflt ItT) h1 hi
      rw [dropI h1 hi]
      simp only [hg]
      generalize l[i.toNat]'(by omega) = x at *
      have ei : IntKind.i64.wrap (i + 1) = i + 1 := wi64 _ (by omega) (by omega)
      by_cases c1 : (200 : Int) < x.1.length
      · have c1' : ¬ x.1.length ≤ 200 := by omega
        exact .inr (by simp [c1, c1'])
      by_cases c2 : (200 : Int) < x.2.2.2.1.length
      · have c2' : ¬ x.2.2.2.1.length ≤ 200 := by omega
        refine .inr ?_
        rw [if_neg c1, if_pos ⟨h1, hi⟩, if_pos c2]
        simp [c2']
      · have c1' : x.1.length ≤ 200 := by omega
        have c2' : x.2.2.2.1.length ≤ 200 := by omega
        refine .inl ⟨i + 1, ?_, ⟨by omega, by omega⟩, by omega, by simp [c1', c2']⟩
        rw [if_neg c1, if_pos ⟨h1, hi⟩, if_neg c2, ei]
    · have e : ¬ (l.length : Int) ≤ 100 := by omega
      have e' : ¬ l.length ≤ 100 := by omega
      refine .inr ?_
      rw [if_pos hi, if_neg h100, decide_eq_false e, decide_eq_false e', Bool.false_and]
  · refine .inr ?_
    rw [if_neg hi, List.drop_eq_nil_of_le (by omega)]
    simp
    omega
theorem s28 {lc : List Ct} (hl0 : look (lc.map fun c => (c.sig.id, c)) 28 = some c28) : ∀ (l : List It), Does1 (Phi lc) 28 [⟨.sl ItT, l⟩] [⟨.bool, lightL l⟩] :=
  fun l => Does1.of hl0 (f28 l) rfl
end Go.Proofs.Ytdjknicjnaiomaa.Sx

/- Blocks: the bytes of items; the law BlockPuts. -/
namespace Go.Proofs.Ytdjknicjnaiomaa.Sx

def encI (last : List Int) (x : It) : List Int :=
  putL [(alike last x.1 : Int), (x.1.length : Int) - alike last x.1] ++ (x.1.drop (alike last x.1) ++
    (if x.2.1 = true then [1] else 0 :: putC x.2.2.1 x.2.2.2.1 x.2.2.2.2.1 x.2.2.2.2.2.1 x.2.2.2.2.2.2.1 x.2.2.2.2.2.2.2))
def encL : List Int → List It → List Int
  | _, [] => []
  | last, x :: r => encI last x ++ encL x.1 r

theorem srt_ok : ∀ (p : Option (List Int)) (l : List It), srt p l = true → ∀ x ∈ l, itErr x = 0
  | _, [], _, x, h => by cases h
  | p, y :: r, h, x, hx => by
    simp only [srt, Bool.and_eq_true, decide_eq_true_eq] at h
    rcases List.mem_cons.1 hx with rfl | hx
    · exact h.1.1
    · exact srt_ok _ r h.2 x hx

theorem iErr_ok {k : List Int} {d f : Bool} {b : List Int} {s a n m : Int} (h : iErr k d f b s a n m = 0) : 1 ≤ k.length ∧ k.length ≤ 64 ∧ cErr f b s a n m = 0 := by
  unfold iErr at h
  split at h
  · cases h
  · rename_i hn
    refine ⟨?_, by omega, h⟩
    cases k with
    | nil => exact absurd (.inl rfl) hn
    | cons => simp

theorem f32 (l : List It) (hl : l.length < 1000000) (hm : ∀ x ∈ l, 0 ≤ x.2.2.2.2.2.2.2 ∧ x.2.2.2.2.2.2.2 < 4294967296) : F32 [⟨.sl ItT, l⟩] = some [⟨.sl (.int .u8), if 1 ≤ l.length ∧ l.length ≤ 256 ∧ srt none l = true then putL [(l.length : Int)] ++ encL [] l else []⟩, ⟨.int .i64, if 1 ≤ l.length ∧ l.length ≤ 256 ∧ srt none l = true then 0 else 1⟩] := by
  have h75 := s75 (lc := [c75, c66, c30, c76, c16]) rfl
  have h66 := s66 (lc := [c75, c66, c30, c76, c16]) rfl
  have h30 := s30 (lc := [c75, c66, c30, c76, c16]) rfl
  have h76 := s76 (lc := [c75, c66, c30, c76, c16]) rfl
  have h16 := s16 (lc := [c75, c66, c30, c76, c16]) rfl
  simp only [F32, Fof, ir32]
  generalize Phi [c75, c66, c30, c76, c16] = Φ at *
  have k75 := h75 l hl
  by_cases c1 : (l.length : Int) < 1
  · rw [if_neg (by omega), if_neg (by omega)]; simp [↓den_start, ↓deb_op, ↓deb_ret, ↓deb_jump, ↓deb_itev, ↓deb_itel, ↓deb_loop, ↓deb_fail, ↓deb_nilcv, nilE_some, opE_some, debP_nil, debP_cons, pushL_nil, pushL_cons, retE_some, iteE_some, evB_nil, evB_v, evB_l, lkE_cons, consE_some, d_int, d_bool, d_str, d_nil, o_add, o_sub, o_mul, o_and, o_or, o_xor, o_andNot, o_quo, o_rem, o_shl, o_shr, o_eql, o_neq, o_lss, o_leq, o_gtr, o_geq, o_seql, o_sneq, o_slss, o_sleq, o_sgtr, o_sgeq, o_beql, o_bneq, o_scat, o_not, o_neg, o_com, o_conv, o_s2b, o_b2s, o_len, o_slen, o_inb, o_idx, o_sidx, o_sub3, o_sub2, o_ssub3, o_ssub2, o_app, o_apps, o_mk, mkE_some, consD_some, mkD_zero, mkD_int, mkD_str, mkD_sl, o_imin, o_imax, o_smin, o_smax, o_eqs, eqsE_some, eqC_nil, andE_some, eqC_int, eqC_bool, eqC_str, j1, outE_some, outE_none, outE_ite, agE_1, loopE_1, agE_2, loopE_2, agE_3, loopE_3, agE_4, loopE_4, agE_5, loopE_5, agE_6, loopE_6, agE_7, loopE_7, agE_8, loopE_8, agE_9, loopE_9, List.cons_append, List.nil_append, List.append_nil, split, List.take_succ_cons, List.take_zero, List.drop_succ_cons, List.drop_zero, c1]
  by_cases c2 : (256 : Int) < l.length
  · rw [if_neg (by omega), if_neg (by omega)]; simp [↓den_start, ↓deb_op, ↓deb_ret, ↓deb_jump, ↓deb_itev, ↓deb_itel, ↓deb_loop, ↓deb_fail, ↓deb_nilcv, nilE_some, opE_some, debP_nil, debP_cons, pushL_nil, pushL_cons, retE_some, iteE_some, evB_nil, evB_v, evB_l, lkE_cons, consE_some, d_int, d_bool, d_str, d_nil, o_add, o_sub, o_mul, o_and, o_or, o_xor, o_andNot, o_quo, o_rem, o_shl, o_shr, o_eql, o_neq, o_lss, o_leq, o_gtr, o_geq, o_seql, o_sneq, o_slss, o_sleq, o_sgtr, o_sgeq, o_beql, o_bneq, o_scat, o_not, o_neg, o_com, o_conv, o_s2b, o_b2s, o_len, o_slen, o_inb, o_idx, o_sidx, o_sub3, o_sub2, o_ssub3, o_ssub2, o_app, o_apps, o_mk, mkE_some, consD_some, mkD_zero, mkD_int, mkD_str, mkD_sl, o_imin, o_imax, o_smin, o_smax, o_eqs, eqsE_some, eqC_nil, andE_some, eqC_int, eqC_bool, eqC_str, j1, outE_some, outE_none, outE_ite, agE_1, loopE_1, agE_2, loopE_2, agE_3, loopE_3, agE_4, loopE_4, agE_5, loopE_5, agE_6, loopE_6, agE_7, loopE_7, agE_8, loopE_8, agE_9, loopE_9, List.cons_append, List.nil_append, List.append_nil, split, List.take_succ_cons, List.take_zero, List.drop_succ_cons, List.drop_zero, c1, c2]
  by_cases c3 : srt none l = true
  · have hc : 1 ≤ l.length ∧ l.length ≤ 256 ∧ srt none l = true := ⟨by omega, by omega, c3⟩
    rw [if_pos hc, if_pos hc]
    rw [c3] at k75
    have k66 := h66 [(l.length : Int)] (by simp; omega) (by simp)
    have hp1 := putL_len [(l.length : Int)] (by simp; omega)
    simp at hp1
    simp [↓den_start, ↓deb_op, ↓deb_ret, ↓deb_jump, ↓deb_itev, ↓deb_itel, ↓deb_loop, ↓deb_fail, ↓deb_nilcv, nilE_some, opE_some, debP_nil, debP_cons, pushL_nil, pushL_cons, retE_some, iteE_some, evB_nil, evB_v, evB_l, lkE_cons, consE_some, d_int, d_bool, d_str, d_nil, o_add, o_sub, o_mul, o_and, o_or, o_xor, o_andNot, o_quo, o_rem, o_shl, o_shr, o_eql, o_neq, o_lss, o_leq, o_gtr, o_geq, o_seql, o_sneq, o_slss, o_sleq, o_sgtr, o_sgeq, o_beql, o_bneq, o_scat, o_not, o_neg, o_com, o_conv, o_s2b, o_b2s, o_len, o_slen, o_inb, o_idx, o_sidx, o_sub3, o_sub2, o_ssub3, o_ssub2, o_app, o_apps, o_mk, mkE_some, consD_some, mkD_zero, mkD_int, mkD_str, mkD_sl, o_imin, o_imax, o_smin, o_smax, o_eqs, eqsE_some, eqC_nil, andE_some, eqC_int, eqC_bool, eqC_str, j1, outE_some, outE_none, outE_ite, agE_1, loopE_1, agE_2, loopE_2, agE_3, loopE_3, agE_4, loopE_4, agE_5, loopE_5, agE_6, loopE_6, agE_7, loopE_7, agE_8, loopE_8, agE_9, loopE_9, List.cons_append, List.nil_append, List.append_nil, split, List.take_succ_cons, List.take_zero, List.drop_succ_cons, List.drop_zero, c1, c2, k75, k66, wu64 (l.length : Int) (by omega) (by omega)]
    refine (iter_meas (fun s : List Int × List Int × Int => (l.length - s.2.2).toNat) (fun s => ([⟨.sl (.int .u8), s.1 ++ encL s.2.1 (l.drop s.2.2.toNat)⟩, ⟨.int .i64, 0⟩] : List D))
      (fun s => 0 ≤ s.2.2 ∧ s.2.2 ≤ l.length ∧ s.1.length ≤ 20 + s.2.2.toNat * 1000000100 ∧ s.2.1.length ≤ 64) (by exact ⟨by simp, by simp, by simp; omega, by simp⟩) ?_).trans (by simp)
    rintro ⟨b0, last, i⟩ ⟨h1, h2, h3, h4⟩
    simp only at h1 h2 h3 h4 ⊢
    by_cases hi : i < l.length
    · rw [if_pos hi, if_pos ⟨h1, hi⟩, dropI h1 hi]
      have hg := getG (d := dflt ItT) h1 hi
      have hxm := hm (l[i.toNat]'(by omega)) (List.getElem_mem _)
      have hxo := srt_ok _ l c3 (l[i.toNat]'(by omega)) (List.getElem_mem _)
      simp only [hg]
      generalize l[i.toNat]'(by omega) = x at *
      obtain ⟨k, d, f, b, s, a, n, m⟩ := x
      simp only [itErr] at hxo
      obtain ⟨q1, q2, q3⟩ := iErr_ok hxo
      obtain ⟨a1, a2⟩ := alike_le last k
      have hC := putC_len q3
      have k30 := h30 last k (by omega)
      have k76 := h76 k d f b s a n m
      have k16 := h16 f b s a n m hxm.1 hxm.2
      rw [if_pos q3] at k16
      have hrange : ∀ u ∈ [(alike last k : Int), (k.length : Int) - alike last k], 0 ≤ u ∧ u < 18446744073709551616 := by
        intro u hu; simp only [List.mem_cons, List.not_mem_nil, or_false] at hu; omega
      have kp := h66 [(alike last k : Int), (k.length : Int) - alike last k] hrange (by simp)
      have hP := putL_len _ hrange
      simp only [encL, encI]
      generalize hA : alike last k = A at *
      have w1 : IntKind.u64.wrap (A : Int) = A := wu64 _ (by omega) (by omega)
      have w2 : IntKind.i64.wrap ((k.length : Int) - A) = (k.length : Int) - A := wi64 _ (by omega) (by omega)
      have w3 : IntKind.u64.wrap ((k.length : Int) - A) = (k.length : Int) - A := wu64 _ (by omega) (by omega)
      have w4 : IntKind.i64.wrap (i + 1) = i + 1 := wi64 _ (by omega) (by omega)
      generalize putL [(A : Int), (k.length : Int) - A] = P at *
      generalize putC f b s a n m = C at *
      simp only [List.length_cons, List.length_nil] at hP
      have hmul : (i + 1).toNat * 1000000100 = i.toNat * 1000000100 + 1000000100 := by omega
      have hib : i.toNat * 1000000100 ≤ 256 * 1000000100 := by omega
      have bA : (A : Int) ≤ k.length := by omega
      have B1 : b0.length + P.length ≤ BIG := by simp only [BIG]; omega
      have B2 : b0.length + P.length + (k.length - A) ≤ BIG := by simp only [BIG]; omega
      have B3 : b0.length + (P.length + (k.length - A)) + 1 ≤ BIG := by simp only [BIG]; omega
      have B4 : b0.length + (P.length + (k.length - A + 1)) + C.length ≤ BIG := by simp only [BIG]; omega
      cases d
      · refine .inl ⟨(b0 ++ (P ++ (k.drop A ++ 0 :: C)), k, i + 1), ?_, ⟨by simp only; omega, by simp only; omega, ?_, by simp only; omega⟩, by simp only; omega, by simp⟩
        · simp [↓den_start, ↓deb_op, ↓deb_ret, ↓deb_jump, ↓deb_itev, ↓deb_itel, ↓deb_loop, ↓deb_fail, ↓deb_nilcv, nilE_some, opE_some, debP_nil, debP_cons, pushL_nil, pushL_cons, retE_some, iteE_some, evB_nil, evB_v, evB_l, lkE_cons, consE_some, d_int, d_bool, d_str, d_nil, o_add, o_sub, o_mul, o_and, o_or, o_xor, o_andNot, o_quo, o_rem, o_shl, o_shr, o_eql, o_neq, o_lss, o_leq, o_gtr, o_geq, o_seql, o_sneq, o_slss, o_sleq, o_sgtr, o_sgeq, o_beql, o_bneq, o_scat, o_not, o_neg, o_com, o_conv, o_s2b, o_b2s, o_len, o_slen, o_inb, o_idx, o_sidx, o_sub3, o_sub2, o_ssub3, o_ssub2, o_app, o_apps, o_mk, mkE_some, consD_some, mkD_zero, mkD_int, mkD_str, mkD_sl, o_imin, o_imax, o_smin, o_smax, o_eqs, eqsE_some, eqC_nil, andE_some, eqC_int, eqC_bool, eqC_str, j1, outE_some, outE_none, outE_ite, agE_1, loopE_1, agE_2, loopE_2, agE_3, loopE_3, agE_4, loopE_4, agE_5, loopE_5, agE_6, loopE_6, agE_7, loopE_7, agE_8, loopE_8, agE_9, loopE_9, List.cons_append, List.nil_append, List.append_nil, split, List.take_succ_cons, List.take_zero, List.drop_succ_cons, List.drop_zero, k30, kp, k76, k16, w1, w2, w3, w4, bA, a2, B1, B2, B3, B4]
          trace_state
        · simp only [List.length_append, List.length_cons, List.length_drop, hmul]; omega
      · refine .inl ⟨(b0 ++ (P ++ (k.drop A ++ [1])), k, i + 1), ?_, ⟨by simp only; omega, by simp only; omega, ?_, by simp only; omega⟩, by simp only; omega, by simp⟩
        · simp [↓den_start, ↓deb_op, ↓deb_ret, ↓deb_jump, ↓deb_itev, ↓deb_itel, ↓deb_loop, ↓deb_fail, ↓deb_nilcv, nilE_some, opE_some, debP_nil, debP_cons, pushL_nil, pushL_cons, retE_some, iteE_some, evB_nil, evB_v, evB_l, lkE_cons, consE_some, d_int, d_bool, d_str, d_nil, o_add, o_sub, o_mul, o_and, o_or, o_xor, o_andNot, o_quo, o_rem, o_shl, o_shr, o_eql, o_neq, o_lss, o_leq, o_gtr, o_geq, o_seql, o_sneq, o_slss, o_sleq, o_sgtr, o_sgeq, o_beql, o_bneq, o_scat, o_not, o_neg, o_com, o_conv, o_s2b, o_b2s, o_len, o_slen, o_inb, o_idx, o_sidx, o_sub3, o_sub2, o_ssub3, o_ssub2, o_app, o_apps, o_mk, mkE_some, consD_some, mkD_zero, mkD_int, mkD_str, mkD_sl, o_imin, o_imax, o_smin, o_smax, o_eqs, eqsE_some, eqC_nil, andE_some, eqC_int, eqC_bool, eqC_str, j1, outE_some, outE_none, outE_ite, agE_1, loopE_1, agE_2, loopE_2, agE_3, loopE_3, agE_4, loopE_4, agE_5, loopE_5, agE_6, loopE_6, agE_7, loopE_7, agE_8, loopE_8, agE_9, loopE_9, List.cons_append, List.nil_append, List.append_nil, split, List.take_succ_cons, List.take_zero, List.drop_succ_cons, List.drop_zero, k30, kp, k76, w1, w2, w3, w4, bA, a2, B1, B2, B3]
        · simp only [List.length_append, List.length_cons, List.length_nil, List.length_drop, hmul]; omega
    · refine .inr ?_
      rw [if_neg hi, List.drop_eq_nil_of_le (by omega), encL]
      simp
  · have c3' : srt none l = false := by simpa using c3
    rw [if_neg (fun h => c3 h.2.2), if_neg (fun h => c3 h.2.2)]
    rw [c3'] at k75
    simp [↓den_start, ↓deb_op, ↓deb_ret, ↓deb_jump, ↓deb_itev, ↓deb_itel, ↓deb_loop, ↓deb_fail, ↓deb_nilcv, nilE_some, opE_some, debP_nil, debP_cons, pushL_nil, pushL_cons, retE_some, iteE_some, evB_nil, evB_v, evB_l, lkE_cons, consE_some, d_int, d_bool, d_str, d_nil, o_add, o_sub, o_mul, o_and, o_or, o_xor, o_andNot, o_quo, o_rem, o_shl, o_shr, o_eql, o_neq, o_lss, o_leq, o_gtr, o_geq, o_seql, o_sneq, o_slss, o_sleq, o_sgtr, o_sgeq, o_beql, o_bneq, o_scat, o_not, o_neg, o_com, o_conv, o_s2b, o_b2s, o_len, o_slen, o_inb, o_idx, o_sidx, o_sub3, o_sub2, o_ssub3, o_ssub2, o_app, o_apps, o_mk, mkE_some, consD_some, mkD_zero, mkD_int, mkD_str, mkD_sl, o_imin, o_imax, o_smin, o_smax, o_eqs, eqsE_some, eqC_nil, andE_some, eqC_int, eqC_bool, eqC_str, j1, outE_some, outE_none, outE_ite, agE_1, loopE_1, agE_2, loopE_2, agE_3, loopE_3, agE_4, loopE_4, agE_5, loopE_5, agE_6, loopE_6, agE_7, loopE_7, agE_8, loopE_8, agE_9, loopE_9, List.cons_append, List.nil_append, List.append_nil, split, List.take_succ_cons, List.take_zero, List.drop_succ_cons, List.drop_zero, c1, c2, k75]
theorem s32 {lc : List Ct} (hl0 : look (lc.map fun c => (c.sig.id, c)) 32 = some c32) : ∀ (l : List It) (hl : l.length < 1000000) (hm : ∀ x ∈ l, 0 ≤ x.2.2.2.2.2.2.2 ∧ x.2.2.2.2.2.2.2 < 4294967296), Does1 (Phi lc) 32 [⟨.sl ItT, l⟩] [⟨.sl (.int .u8), if 1 ≤ l.length ∧ l.length ≤ 256 ∧ srt none l = true then putL [(l.length : Int)] ++ encL [] l else []⟩, ⟨.int .i64, if 1 ≤ l.length ∧ l.length ≤ 256 ∧ srt none l = true then 0 else 1⟩] :=
  fun l hl hm => Does1.of hl0 (f32 l hl hm) rfl
end Go.Proofs.Ytdjknicjnaiomaa.Sx

/- The law BlockPuts. -/
namespace Go.Proofs.Ytdjknicjnaiomaa.Sx

theorem f34 (l : List It) (hl : l.length ≤ 256) (ho : srt none l = true) (hm : ∀ x ∈ l, 0 ≤ x.2.2.2.2.2.2.2 ∧ x.2.2.2.2.2.2.2 < 4294967296) : F34 [⟨.sl ItT, l⟩] = some [⟨.sl (.int .u8), putL [(l.length : Int)] ++ encL [] l⟩] := by
  have h71 := s71 (lc := [c71, c31, c22]) rfl
  have h31 := s31 (lc := [c71, c31, c22]) rfl
  have h22 := s22 (lc := [c71, c31, c22]) rfl
  simp only [F34, Fof, ir34]
  generalize Phi [c71, c31, c22] = Φ at *
  have k71 := h71 (l.length : Int) (by omega)
  have hp1 := one_len10 l.length (by omega)
  have e1 : putL [(l.length : Int)] = one l.length := by simp [putL]
  rw [e1]
  simp [↓den_start, ↓deb_op, ↓deb_ret, ↓deb_jump, ↓deb_itev, ↓deb_itel, ↓deb_loop, ↓deb_fail, ↓deb_nilcv, nilE_some, opE_some, debP_nil, debP_cons, pushL_nil, pushL_cons, retE_some, iteE_some, evB_nil, evB_v, evB_l, lkE_cons, consE_some, d_int, d_bool, d_str, d_nil, o_add, o_sub, o_mul, o_and, o_or, o_xor, o_andNot, o_quo, o_rem, o_shl, o_shr, o_eql, o_neq, o_lss, o_leq, o_gtr, o_geq, o_seql, o_sneq, o_slss, o_sleq, o_sgtr, o_sgeq, o_beql, o_bneq, o_scat, o_not, o_neg, o_com, o_conv, o_s2b, o_b2s, o_len, o_slen, o_inb, o_idx, o_sidx, o_sub3, o_sub2, o_ssub3, o_ssub2, o_app, o_apps, o_mk, mkE_some, consD_some, mkD_zero, mkD_int, mkD_str, mkD_sl, o_imin, o_imax, o_smin, o_smax, o_eqs, eqsE_some, eqC_nil, andE_some, eqC_int, eqC_bool, eqC_str, j1, outE_some, outE_none, outE_ite, agE_1, loopE_1, agE_2, loopE_2, agE_3, loopE_3, agE_4, loopE_4, agE_5, loopE_5, agE_6, loopE_6, agE_7, loopE_7, agE_8, loopE_8, agE_9, loopE_9, List.cons_append, List.nil_append, List.append_nil, split, List.take_succ_cons, List.take_zero, List.drop_succ_cons, List.drop_zero, k71, wu64 (l.length : Int) (by omega) (by omega)]
  refine (iter_meas (fun s : List Int × Int => (l.length - s.2).toNat) (fun s => ([⟨.sl (.int .u8), s.1 ++ encL ((prevK l s.2).getD []) (l.drop s.2.toNat)⟩] : List D))
    (fun s => 0 ≤ s.2 ∧ s.2 ≤ l.length ∧ s.1.length ≤ 20 + s.2.toNat * 1000000100) (by exact ⟨by simp, by simp, by simp; omega⟩) ?_).trans (by simp [prevK])
  rintro ⟨b0, i⟩ ⟨h1, h2, h3⟩
  simp only at h1 h2 h3 ⊢
  by_cases hi : i < l.length
  · have hin : 0 ≤ i ∧ i < (l.length : Int) := ⟨h1, hi⟩
    rw [dropI h1 hi]
    have hx : l[i.toNat]? = some (l[i.toNat]'(by omega)) := List.getElem?_eq_getElem (by omega)
    have hxm := hm (l[i.toNat]'(by omega)) (List.getElem_mem _)
    have hxo := srt_ok _ l ho (l[i.toNat]'(by omega)) (List.getElem_mem _)
    have hpk := prevK_succ h1 hi
    generalize hxe : l[i.toNat]'(by omega) = x at *
    obtain ⟨k, d, f, b, s, a, n, m⟩ := x
    simp only [itErr] at hxo
    obtain ⟨q1, q2, q3⟩ := iErr_ok hxo
    have hC := putC_len q3
    have k22 := h22 f b s a n m q3 hxm.1 hxm.2
    have w4 : IntKind.i64.wrap (i + 1) = i + 1 := wi64 _ (by omega) (by omega)
    have hmul : (i + 1).toNat * 1000000100 = i.toNat * 1000000100 + 1000000100 := by omega
    have hib : i.toNat * 1000000100 ≤ 256 * 1000000100 := by omega
    simp only [encL, encI]
    generalize putC f b s a n m = C at *
    by_cases h0 : 0 < i
    · obtain ⟨y, hp⟩ : ∃ y, l[i.toNat - 1]? = some y := ⟨_, List.getElem?_eq_getElem (by omega)⟩
      have hpv : (prevK l i).getD [] = y.1 := by unfold prevK; rw [if_neg (by omega), hp]; rfl
      have hyl : y.1.length ≤ 64 := by
        have hy := srt_ok _ l ho y (List.mem_of_getElem? hp)
        exact (iErr_ok hy).2.1
      have em : IntKind.i64.wrap (i - 1) = i - 1 := wi64 _ (by omega) (by omega)
      have hb1 : 0 ≤ i - 1 ∧ i - 1 < (l.length : Int) := by omega
      have hi1 : 1 ≤ i := by omega
      obtain ⟨a1, a2⟩ := alike_le y.1 k
      have k31 := h31 y.1 k (by omega)
      rw [hpv]
      generalize hA : alike y.1 k = A at *
      have bA : (A : Int) ≤ k.length := by omega
      have w1 : IntKind.u64.wrap (A : Int) = A := wu64 _ (by omega) (by omega)
      have w2 : IntKind.i64.wrap ((k.length : Int) - A) = (k.length : Int) - A := wi64 _ (by omega) (by omega)
      have w3 : IntKind.u64.wrap ((k.length : Int) - A) = (k.length : Int) - A := wu64 _ (by omega) (by omega)
      have k1 := h71 (A : Int) (by omega)
      have k2 := h71 ((k.length : Int) - A) (by omega)
      have l1 := one_len10 (A : Int).toNat (by omega)
      have l2 := one_len10 ((k.length : Int) - A).toNat (by omega)
      have eP : putL [(A : Int), (k.length : Int) - A] = one (A : Int).toNat ++ one ((k.length : Int) - A).toNat := by simp [putL]
      rw [eP]
      generalize one (A : Int).toNat = P1 at *
      generalize one ((k.length : Int) - A).toNat = P2 at *
      have R1 : b0.length + P1.length ≤ BIG := by simp only [BIG]; omega
      have R2 : b0.length + P1.length + P2.length ≤ BIG := by simp only [BIG]; omega
      have R3 : b0.length + (P1.length + P2.length) + (k.length - A) ≤ BIG := by simp only [BIG]; omega
      have R4 : b0.length + (P1.length + (P2.length + (k.length - A))) + 1 ≤ BIG := by simp only [BIG]; omega
      have R5 : b0.length + (P1.length + (P2.length + (k.length - A + 1))) + C.length ≤ BIG := by simp only [BIG]; omega
      cases d
      · refine .inl ⟨(b0 ++ (P1 ++ (P2 ++ (k.drop A ++ 0 :: C))), i + 1), ?_, ⟨by simp only; omega, by simp only; omega, ?_⟩, by simp only; omega, by simp [hpk]⟩
        · simp [↓den_start, ↓deb_op, ↓deb_ret, ↓deb_jump, ↓deb_itev, ↓deb_itel, ↓deb_loop, ↓deb_fail, ↓deb_nilcv, nilE_some, opE_some, debP_nil, debP_cons, pushL_nil, pushL_cons, retE_some, iteE_some, evB_nil, evB_v, evB_l, lkE_cons, consE_some, d_int, d_bool, d_str, d_nil, o_add, o_sub, o_mul, o_and, o_or, o_xor, o_andNot, o_quo, o_rem, o_shl, o_shr, o_eql, o_neq, o_lss, o_leq, o_gtr, o_geq, o_seql, o_sneq, o_slss, o_sleq, o_sgtr, o_sgeq, o_beql, o_bneq, o_scat, o_not, o_neg, o_com, o_conv, o_s2b, o_b2s, o_len, o_slen, o_inb, o_idx, o_sidx, o_sub3, o_sub2, o_ssub3, o_ssub2, o_app, o_apps, o_mk, mkE_some, consD_some, mkD_zero, mkD_int, mkD_str, mkD_sl, o_imin, o_imax, o_smin, o_smax, o_eqs, eqsE_some, eqC_nil, andE_some, eqC_int, eqC_bool, eqC_str, j1, outE_some, outE_none, outE_ite, agE_1, loopE_1, agE_2, loopE_2, agE_3, loopE_3, agE_4, loopE_4, agE_5, loopE_5, agE_6, loopE_6, agE_7, loopE_7, agE_8, loopE_8, agE_9, loopE_9, List.cons_append, List.nil_append, List.append_nil, split, List.take_succ_cons, List.take_zero, List.drop_succ_cons, List.drop_zero, h0, h1, hi, hin, em, hb1, hi1, hp, hx, hxe, k31, k1, k2, k22, w1, w2, w3, w4, bA, a2, R1, R2, R3, R4, R5]
        · simp only [List.length_append, List.length_cons, List.length_drop, hmul]; omega
      · refine .inl ⟨(b0 ++ (P1 ++ (P2 ++ (k.drop A ++ [1]))), i + 1), ?_, ⟨by simp only; omega, by simp only; omega, ?_⟩, by simp only; omega, by simp [hpk]⟩
        · simp [↓den_start, ↓deb_op, ↓deb_ret, ↓deb_jump, ↓deb_itev, ↓deb_itel, ↓deb_loop, ↓deb_fail, ↓deb_nilcv, nilE_some, opE_some, debP_nil, debP_cons, pushL_nil, pushL_cons, retE_some, iteE_some, evB_nil, evB_v, evB_l, lkE_cons, consE_some, d_int, d_bool, d_str, d_nil, o_add, o_sub, o_mul, o_and, o_or, o_xor, o_andNot, o_quo, o_rem, o_shl, o_shr, o_eql, o_neq, o_lss, o_leq, o_gtr, o_geq, o_seql, o_sneq, o_slss, o_sleq, o_sgtr, o_sgeq, o_beql, o_bneq, o_scat, o_not, o_neg, o_com, o_conv, o_s2b, o_b2s, o_len, o_slen, o_inb, o_idx, o_sidx, o_sub3, o_sub2, o_ssub3, o_ssub2, o_app, o_apps, o_mk, mkE_some, consD_some, mkD_zero, mkD_int, mkD_str, mkD_sl, o_imin, o_imax, o_smin, o_smax, o_eqs, eqsE_some, eqC_nil, andE_some, eqC_int, eqC_bool, eqC_str, j1, outE_some, outE_none, outE_ite, agE_1, loopE_1, agE_2, loopE_2, agE_3, loopE_3, agE_4, loopE_4, agE_5, loopE_5, agE_6, loopE_6, agE_7, loopE_7, agE_8, loopE_8, agE_9, loopE_9, List.cons_append, List.nil_append, List.append_nil, split, List.take_succ_cons, List.take_zero, List.drop_succ_cons, List.drop_zero, h0, h1, hi, hin, em, hb1, hi1, hp, hx, hxe, k31, k1, k2, w1, w2, w3, w4, bA, a2, R1, R2, R3, R4]
        · simp only [List.length_append, List.length_cons, List.length_nil, List.length_drop, hmul]; omega
    · obtain rfl : i = 0 := by omega
      clear hmul hib w4
      have hpk' : prevK l 1 = some k := hpk
      have e01 : ((0 : Int) + 1).toNat * 1000000100 = 1000000100 := rfl
      simp only [Int.toNat_zero, Nat.zero_mul, Nat.add_zero] at h3
      have hpv : (prevK l 0).getD [] = [] := by simp [prevK]
      rw [hpv, alike_nil]
      have w1 : IntKind.u64.wrap 0 = 0 := wu64 _ (by omega) (by omega)
      have w2 : IntKind.i64.wrap (k.length : Int) = (k.length : Int) := wi64 _ (by omega) (by omega)
      have w3 : IntKind.u64.wrap (k.length : Int) = (k.length : Int) := wu64 _ (by omega) (by omega)
      have k1 := h71 0 (by omega)
      have k2 := h71 (k.length : Int) (by omega)
      have l1 := one_len10 (0 : Int).toNat (by simp)
      have l2 := one_len10 (k.length : Int).toNat (by omega)
      have eP : putL [((0 : Nat) : Int), (k.length : Int) - ((0 : Nat) : Int)] = one (0 : Int).toNat ++ one (k.length : Int).toNat := by simp [putL]
      rw [eP]
      generalize one (0 : Int).toNat = P1 at *
      generalize one (k.length : Int).toNat = P2 at *
      have R1 : b0.length + P1.length ≤ BIG := by simp only [BIG]; omega
      have R2 : b0.length + P1.length + P2.length ≤ BIG := by simp only [BIG]; omega
      have R3 : b0.length + (P1.length + P2.length) + k.length ≤ BIG := by simp only [BIG]; omega
      have R4 : b0.length + (P1.length + (P2.length + k.length)) + 1 ≤ BIG := by simp only [BIG]; omega
      have R5 : b0.length + (P1.length + (P2.length + (k.length + 1))) + C.length ≤ BIG := by simp only [BIG]; omega
      have hl0 : 0 < l.length := by omega
      simp only [Int.toNat_zero] at hx hxe
      cases d
      · refine .inl ⟨(b0 ++ (P1 ++ (P2 ++ (k ++ 0 :: C))), 0 + 1), ?_, ⟨by simp only; omega, by simp only; omega, ?_⟩, by simp only; omega, by simp [hpk']⟩
        · simp [↓den_start, ↓deb_op, ↓deb_ret, ↓deb_jump, ↓deb_itev, ↓deb_itel, ↓deb_loop, ↓deb_fail, ↓deb_nilcv, nilE_some, opE_some, debP_nil, debP_cons, pushL_nil, pushL_cons, retE_some, iteE_some, evB_nil, evB_v, evB_l, lkE_cons, consE_some, d_int, d_bool, d_str, d_nil, o_add, o_sub, o_mul, o_and, o_or, o_xor, o_andNot, o_quo, o_rem, o_shl, o_shr, o_eql, o_neq, o_lss, o_leq, o_gtr, o_geq, o_seql, o_sneq, o_slss, o_sleq, o_sgtr, o_sgeq, o_beql, o_bneq, o_scat, o_not, o_neg, o_com, o_conv, o_s2b, o_b2s, o_len, o_slen, o_inb, o_idx, o_sidx, o_sub3, o_sub2, o_ssub3, o_ssub2, o_app, o_apps, o_mk, mkE_some, consD_some, mkD_zero, mkD_int, mkD_str, mkD_sl, o_imin, o_imax, o_smin, o_smax, o_eqs, eqsE_some, eqC_nil, andE_some, eqC_int, eqC_bool, eqC_str, j1, outE_some, outE_none, outE_ite, agE_1, loopE_1, agE_2, loopE_2, agE_3, loopE_3, agE_4, loopE_4, agE_5, loopE_5, agE_6, loopE_6, agE_7, loopE_7, agE_8, loopE_8, agE_9, loopE_9, List.cons_append, List.nil_append, List.append_nil, split, List.take_succ_cons, List.take_zero, List.drop_succ_cons, List.drop_zero, hl0, hx, hxe, k1, k2, k22, w1, w2, w3, wi64, R1, R2, R3, R4, R5]
        · simp only [List.length_append, List.length_cons, e01]; omega
      · refine .inl ⟨(b0 ++ (P1 ++ (P2 ++ (k ++ [1]))), 0 + 1), ?_, ⟨by simp only; omega, by simp only; omega, ?_⟩, by simp only; omega, by simp [hpk']⟩
        · simp [↓den_start, ↓deb_op, ↓deb_ret, ↓deb_jump, ↓deb_itev, ↓deb_itel, ↓deb_loop, ↓deb_fail, ↓deb_nilcv, nilE_some, opE_some, debP_nil, debP_cons, pushL_nil, pushL_cons, retE_some, iteE_some, evB_nil, evB_v, evB_l, lkE_cons, consE_some, d_int, d_bool, d_str, d_nil, o_add, o_sub, o_mul, o_and, o_or, o_xor, o_andNot, o_quo, o_rem, o_shl, o_shr, o_eql, o_neq, o_lss, o_leq, o_gtr, o_geq, o_seql, o_sneq, o_slss, o_sleq, o_sgtr, o_sgeq, o_beql, o_bneq, o_scat, o_not, o_neg, o_com, o_conv, o_s2b, o_b2s, o_len, o_slen, o_inb, o_idx, o_sidx, o_sub3, o_sub2, o_ssub3, o_ssub2, o_app, o_apps, o_mk, mkE_some, consD_some, mkD_zero, mkD_int, mkD_str, mkD_sl, o_imin, o_imax, o_smin, o_smax, o_eqs, eqsE_some, eqC_nil, andE_some, eqC_int, eqC_bool, eqC_str, j1, outE_some, outE_none, outE_ite, agE_1, loopE_1, agE_2, loopE_2, agE_3, loopE_3, agE_4, loopE_4, agE_5, loopE_5, agE_6, loopE_6, agE_7, loopE_7, agE_8, loopE_8, agE_9, loopE_9, List.cons_append, List.nil_append, List.append_nil, split, List.take_succ_cons, List.take_zero, List.drop_succ_cons, List.drop_zero, hl0, hx, hxe, k1, k2, w1, w2, w3, wi64, R1, R2, R3, R4]
        · simp only [List.length_append, List.length_cons, List.length_nil, e01]; omega
  · refine .inr ?_
    rw [if_neg hi, List.drop_eq_nil_of_le (by omega), encL]
    simp
theorem s34 {lc : List Ct} (hl0 : look (lc.map fun c => (c.sig.id, c)) 34 = some c34) (l : List It) (hl : l.length ≤ 256) (ho : srt none l = true) (hm : ∀ x ∈ l, 0 ≤ x.2.2.2.2.2.2.2 ∧ x.2.2.2.2.2.2.2 < 4294967296) :
    Does1 (Phi lc) 34 [⟨.sl ItT, l⟩] [⟨.sl (.int .u8), putL [(l.length : Int)] ++ encL [] l⟩] :=
  have e : c34.F = F34 := rfl
  Does1.of hl0 (by rw [e]; exact f34 l hl ho hm) rfl
end Go.Proofs.Ytdjknicjnaiomaa.Sx

/- The law BlockPuts. -/
namespace Go.Proofs.Ytdjknicjnaiomaa.Sx

theorem putC_len2 {far : Bool} {b : List Int} {s a n m : Int} (h : cErr far b s a n m = 0) : (putC far b s a n m).length ≤ 50 := by
  cases far
  · simp only [cErr, Bool.false_eq_true, if_false] at h
    split at h
    · cases h
    · have := one_len10 b.length (by omega)
      simp [putC]; omega
  · simp only [cErr, if_true] at h
    split at h
    · cases h
    · split at h
      · rename_i hp
        have hp' : 1 ≤ s ∧ s ≤ 2147483647 ∧ 0 ≤ a ∧ a ≤ 2147483647 ∧ 0 ≤ n ∧ n ≤ 4096 := by simpa [pOk] using hp
        have := putL_len [s, a, n] (by intro u hu; simp only [List.mem_cons, List.not_mem_nil, or_false] at hu; omega)
        simp at this
        simp [putC, sum4]; omega
      · cases h

theorem encL_len : ∀ (last : List Int) (l : List It), (∀ x ∈ l, itErr x = 0) → (encL last l).length ≤ 200 * l.length
  | _, [], _ => by simp [encL]
  | last, x :: r, h => by
    have hx := h x (by simp)
    obtain ⟨k, d, f, b, s, a, n, m⟩ := x
    simp only [itErr] at hx
    obtain ⟨q1, q2, q3⟩ := iErr_ok hx
    obtain ⟨a1, a2⟩ := alike_le last k
    have hC := putC_len2 q3
    have hP := putL_len [(alike last k : Int), (k.length : Int) - alike last k] (by intro u hu; simp only [List.mem_cons, List.not_mem_nil, or_false] at hu; omega)
    have ih := encL_len k r (fun x hx => h x (by simp [hx]))
    simp only [List.length_cons, List.length_nil] at hP
    simp only [encL, encI, List.length_append, List.length_drop, List.length_cons]
    split
    · simp only [List.length_cons, List.length_nil]; omega
    · simp only [List.length_cons]; omega

abbrev two : List It := [([97, 98], true, false, [], 0, 0, 0, 0), ([97, 99], true, false, [], 0, 0, 0, 0)]
theorem two_enc : putL [((two.length : Nat) : Int)] ++ encL [] two = [2, 0, 2, 97, 98, 1, 1, 1, 99, 1] := by
  simp [putL, encL, encI, alike, one_small]
theorem two_srt : srt none two = true := by decide

theorem f29  : F29 [] = some [⟨.bool, true⟩] := by
  have h32 := s32 (lc := [c32, c21, c30]) rfl
  have h21 := s21 (lc := [c32, c21, c30]) rfl
  have h30 := s30 (lc := [c32, c21, c30]) rfl
  simp only [F29, Fof, ir29]
  generalize Phi [c32, c21, c30] = Φ at *
  have k32 := h32 two (by decide) (by intro x hx; simp only [two, List.mem_cons, List.not_mem_nil, or_false] at hx; rcases hx with rfl | rfl <;> simp)
  have hc : 1 ≤ two.length ∧ two.length ≤ 256 ∧ srt none two = true := ⟨by decide, by decide, two_srt⟩
  rw [if_pos hc, if_pos hc, two_enc] at k32
  have k21 := h21 [2, 0, 2, 97, 98, 1, 1, 1, 99, 1] [2, 0, 2, 97, 98, 1, 1, 1, 99, 1] (by decide)
  have k30 := h30 [97, 98] [97, 99] (by decide)
  have ea : alike [97, 98] [97, 99] = 1 := by decide
  rw [ea] at k30
  have hmk : mkD ItT 2 [⟨.str, [97, 98]⟩, ⟨.bool, true⟩, ⟨.bool, false⟩, ⟨.sl (.int .u8), []⟩, ⟨.int .i64, 0⟩, ⟨.int .i64, 0⟩, ⟨.int .i64, 0⟩, ⟨.int .u32, 0⟩, ⟨.str, [97, 99]⟩, ⟨.bool, true⟩, ⟨.bool, false⟩, ⟨.sl (.int .u8), []⟩, ⟨.int .i64, 0⟩, ⟨.int .i64, 0⟩, ⟨.int .i64, 0⟩, ⟨.int .u32, 0⟩] = some ⟨.sl ItT, two⟩ := rfl
  simp [↓den_start, ↓deb_op, ↓deb_ret, ↓deb_jump, ↓deb_itev, ↓deb_itel, ↓deb_loop, ↓deb_fail, ↓deb_nilcv, nilE_some, opE_some, debP_nil, debP_cons, pushL_nil, pushL_cons, retE_some, iteE_some, evB_nil, evB_v, evB_l, lkE_cons, consE_some, d_int, d_bool, d_str, d_nil, o_add, o_sub, o_mul, o_and, o_or, o_xor, o_andNot, o_quo, o_rem, o_shl, o_shr, o_eql, o_neq, o_lss, o_leq, o_gtr, o_geq, o_seql, o_sneq, o_slss, o_sleq, o_sgtr, o_sgeq, o_beql, o_bneq, o_scat, o_not, o_neg, o_com, o_conv, o_s2b, o_b2s, o_len, o_slen, o_inb, o_idx, o_sidx, o_sub3, o_sub2, o_ssub3, o_ssub2, o_app, o_apps, o_mk, mkE_some, consD_some, mkD_zero, mkD_int, mkD_str, mkD_sl, o_imin, o_imax, o_smin, o_smax, o_eqs, eqsE_some, eqC_nil, andE_some, eqC_int, eqC_bool, eqC_str, j1, outE_some, outE_none, outE_ite, agE_1, loopE_1, agE_2, loopE_2, agE_3, loopE_3, agE_4, loopE_4, agE_5, loopE_5, agE_6, loopE_6, agE_7, loopE_7, agE_8, loopE_8, agE_9, loopE_9, List.cons_append, List.nil_append, List.append_nil, split, List.take_succ_cons, List.take_zero, List.drop_succ_cons, List.drop_zero, hmk, k32, k21, k30]
theorem s29 {lc : List Ct} (hl0 : look (lc.map fun c => (c.sig.id, c)) 29 = some c29) : ∀ _u : Unit, Does1 (Phi lc) 29 [] [⟨.bool, true⟩] :=
  fun _ => Does1.of hl0 f29 rfl
theorem f5 (l : List It) (x y : List Int) (hm : ∀ x ∈ l, 0 ≤ x.2.2.2.2.2.2.2 ∧ x.2.2.2.2.2.2.2 < 4294967296) : F5 [⟨.sl ItT, l⟩, ⟨.str, x⟩, ⟨.str, y⟩] = some [⟨.bool, true⟩] := by
  have h28 := s28 (lc := [c28, c29, c30, c31, c32, c33, c34, c21]) rfl
  have h29 := s29 (lc := [c28, c29, c30, c31, c32, c33, c34, c21]) rfl
  have h30 := s30 (lc := [c28, c29, c30, c31, c32, c33, c34, c21]) rfl
  have h31 := s31 (lc := [c28, c29, c30, c31, c32, c33, c34, c21]) rfl
  have h32 := s32 (lc := [c28, c29, c30, c31, c32, c33, c34, c21]) rfl
  have h33 := s33 (lc := [c28, c29, c30, c31, c32, c33, c34, c21]) rfl
  have h34 := s34 (lc := [c28, c29, c30, c31, c32, c33, c34, c21]) rfl
  have h21 := s21 (lc := [c28, c29, c30, c31, c32, c33, c34, c21]) rfl
  simp only [F5, Fof, ir5]
  generalize Phi [c28, c29, c30, c31, c32, c33, c34, c21] = Φ at *
  have h29 := h29 ()
  have k28 := h28 l
  by_cases hl : lightL l = true
  · rw [hl] at k28
    by_cases g1 : (300 : Int) < x.length
    · simp [↓den_start, ↓deb_op, ↓deb_ret, ↓deb_jump, ↓deb_itev, ↓deb_itel, ↓deb_loop, ↓deb_fail, ↓deb_nilcv, nilE_some, opE_some, debP_nil, debP_cons, pushL_nil, pushL_cons, retE_some, iteE_some, evB_nil, evB_v, evB_l, lkE_cons, consE_some, d_int, d_bool, d_str, d_nil, o_add, o_sub, o_mul, o_and, o_or, o_xor, o_andNot, o_quo, o_rem, o_shl, o_shr, o_eql, o_neq, o_lss, o_leq, o_gtr, o_geq, o_seql, o_sneq, o_slss, o_sleq, o_sgtr, o_sgeq, o_beql, o_bneq, o_scat, o_not, o_neg, o_com, o_conv, o_s2b, o_b2s, o_len, o_slen, o_inb, o_idx, o_sidx, o_sub3, o_sub2, o_ssub3, o_ssub2, o_app, o_apps, o_mk, mkE_some, consD_some, mkD_zero, mkD_int, mkD_str, mkD_sl, o_imin, o_imax, o_smin, o_smax, o_eqs, eqsE_some, eqC_nil, andE_some, eqC_int, eqC_bool, eqC_str, j1, outE_some, outE_none, outE_ite, agE_1, loopE_1, agE_2, loopE_2, agE_3, loopE_3, agE_4, loopE_4, agE_5, loopE_5, agE_6, loopE_6, agE_7, loopE_7, agE_8, loopE_8, agE_9, loopE_9, List.cons_append, List.nil_append, List.append_nil, split, List.take_succ_cons, List.take_zero, List.drop_succ_cons, List.drop_zero, k28, h29, g1]
    by_cases g2 : (300 : Int) < y.length
    · simp [↓den_start, ↓deb_op, ↓deb_ret, ↓deb_jump, ↓deb_itev, ↓deb_itel, ↓deb_loop, ↓deb_fail, ↓deb_nilcv, nilE_some, opE_some, debP_nil, debP_cons, pushL_nil, pushL_cons, retE_some, iteE_some, evB_nil, evB_v, evB_l, lkE_cons, consE_some, d_int, d_bool, d_str, d_nil, o_add, o_sub, o_mul, o_and, o_or, o_xor, o_andNot, o_quo, o_rem, o_shl, o_shr, o_eql, o_neq, o_lss, o_leq, o_gtr, o_geq, o_seql, o_sneq, o_slss, o_sleq, o_sgtr, o_sgeq, o_beql, o_bneq, o_scat, o_not, o_neg, o_com, o_conv, o_s2b, o_b2s, o_len, o_slen, o_inb, o_idx, o_sidx, o_sub3, o_sub2, o_ssub3, o_ssub2, o_app, o_apps, o_mk, mkE_some, consD_some, mkD_zero, mkD_int, mkD_str, mkD_sl, o_imin, o_imax, o_smin, o_smax, o_eqs, eqsE_some, eqC_nil, andE_some, eqC_int, eqC_bool, eqC_str, j1, outE_some, outE_none, outE_ite, agE_1, loopE_1, agE_2, loopE_2, agE_3, loopE_3, agE_4, loopE_4, agE_5, loopE_5, agE_6, loopE_6, agE_7, loopE_7, agE_8, loopE_8, agE_9, loopE_9, List.cons_append, List.nil_append, List.append_nil, split, List.take_succ_cons, List.take_zero, List.drop_succ_cons, List.drop_zero, k28, h29, g1, g2]
    simp only [lightL, Bool.and_eq_true, decide_eq_true_eq, List.all_eq_true] at hl
    have k30 := h30 x y (by omega)
    have k31 := h31 x y (by omega)
    have k33 := h33 l (by omega) (fun x hx => by have := (hl.2 x hx).2; omega)
    have k32 := h32 l (by omega) hm
    by_cases hc : 1 ≤ l.length ∧ l.length ≤ 256 ∧ srt none l = true
    · have e33 : (decide (1 ≤ l.length ∧ l.length ≤ 256) && srt none l) = true := by simp [hc.1, hc.2.1, hc.2.2]
      rw [e33] at k33
      rw [if_pos hc, if_pos hc] at k32
      have k34 := h34 l hc.2.1 hc.2.2 hm
      have hlen := encL_len [] l (srt_ok _ l hc.2.2)
      have hP := putL_len [(l.length : Int)] (by simp; omega)
      simp only [List.length_cons, List.length_nil] at hP
      have k21 := h21 (putL [(l.length : Int)] ++ encL [] l) (putL [(l.length : Int)] ++ encL [] l) (by rw [List.length_append]; omega)
      generalize putL [(l.length : Int)] ++ encL [] l = X at *
      simp [↓den_start, ↓deb_op, ↓deb_ret, ↓deb_jump, ↓deb_itev, ↓deb_itel, ↓deb_loop, ↓deb_fail, ↓deb_nilcv, nilE_some, opE_some, debP_nil, debP_cons, pushL_nil, pushL_cons, retE_some, iteE_some, evB_nil, evB_v, evB_l, lkE_cons, consE_some, d_int, d_bool, d_str, d_nil, o_add, o_sub, o_mul, o_and, o_or, o_xor, o_andNot, o_quo, o_rem, o_shl, o_shr, o_eql, o_neq, o_lss, o_leq, o_gtr, o_geq, o_seql, o_sneq, o_slss, o_sleq, o_sgtr, o_sgeq, o_beql, o_bneq, o_scat, o_not, o_neg, o_com, o_conv, o_s2b, o_b2s, o_len, o_slen, o_inb, o_idx, o_sidx, o_sub3, o_sub2, o_ssub3, o_ssub2, o_app, o_apps, o_mk, mkE_some, consD_some, mkD_zero, mkD_int, mkD_str, mkD_sl, o_imin, o_imax, o_smin, o_smax, o_eqs, eqsE_some, eqC_nil, andE_some, eqC_int, eqC_bool, eqC_str, j1, outE_some, outE_none, outE_ite, agE_1, loopE_1, agE_2, loopE_2, agE_3, loopE_3, agE_4, loopE_4, agE_5, loopE_5, agE_6, loopE_6, agE_7, loopE_7, agE_8, loopE_8, agE_9, loopE_9, List.cons_append, List.nil_append, List.append_nil, split, List.take_succ_cons, List.take_zero, List.drop_succ_cons, List.drop_zero, k28, h29, g1, g2, k30, k31, k33, k32, k34, k21]
    · have e33 : (decide (1 ≤ l.length ∧ l.length ≤ 256) && srt none l) = false := by
        cases hb : (decide (1 ≤ l.length ∧ l.length ≤ 256) && srt none l)
        · rfl
        · simp only [Bool.and_eq_true, decide_eq_true_eq] at hb
          exact absurd ⟨hb.1.1, hb.1.2, hb.2⟩ hc
      rw [e33] at k33
      rw [if_neg hc, if_neg hc] at k32
      simp [↓den_start, ↓deb_op, ↓deb_ret, ↓deb_jump, ↓deb_itev, ↓deb_itel, ↓deb_loop, ↓deb_fail, ↓deb_nilcv, nilE_some, opE_some, debP_nil, debP_cons, pushL_nil, pushL_cons, retE_some, iteE_some, evB_nil, evB_v, evB_l, lkE_cons, consE_some, d_int, d_bool, d_str, d_nil, o_add, o_sub, o_mul, o_and, o_or, o_xor, o_andNot, o_quo, o_rem, o_shl, o_shr, o_eql, o_neq, o_lss, o_leq, o_gtr, o_geq, o_seql, o_sneq, o_slss, o_sleq, o_sgtr, o_sgeq, o_beql, o_bneq, o_scat, o_not, o_neg, o_com, o_conv, o_s2b, o_b2s, o_len, o_slen, o_inb, o_idx, o_sidx, o_sub3, o_sub2, o_ssub3, o_ssub2, o_app, o_apps, o_mk, mkE_some, consD_some, mkD_zero, mkD_int, mkD_str, mkD_sl, o_imin, o_imax, o_smin, o_smax, o_eqs, eqsE_some, eqC_nil, andE_some, eqC_int, eqC_bool, eqC_str, j1, outE_some, outE_none, outE_ite, agE_1, loopE_1, agE_2, loopE_2, agE_3, loopE_3, agE_4, loopE_4, agE_5, loopE_5, agE_6, loopE_6, agE_7, loopE_7, agE_8, loopE_8, agE_9, loopE_9, List.cons_append, List.nil_append, List.append_nil, split, List.take_succ_cons, List.take_zero, List.drop_succ_cons, List.drop_zero, k28, h29, g1, g2, k30, k31, k33, k32]
  · have hl : lightL l = false := by simpa using hl
    rw [hl] at k28
    simp [↓den_start, ↓deb_op, ↓deb_ret, ↓deb_jump, ↓deb_itev, ↓deb_itel, ↓deb_loop, ↓deb_fail, ↓deb_nilcv, nilE_some, opE_some, debP_nil, debP_cons, pushL_nil, pushL_cons, retE_some, iteE_some, evB_nil, evB_v, evB_l, lkE_cons, consE_some, d_int, d_bool, d_str, d_nil, o_add, o_sub, o_mul, o_and, o_or, o_xor, o_andNot, o_quo, o_rem, o_shl, o_shr, o_eql, o_neq, o_lss, o_leq, o_gtr, o_geq, o_seql, o_sneq, o_slss, o_sleq, o_sgtr, o_sgeq, o_beql, o_bneq, o_scat, o_not, o_neg, o_com, o_conv, o_s2b, o_b2s, o_len, o_slen, o_inb, o_idx, o_sidx, o_sub3, o_sub2, o_ssub3, o_ssub2, o_app, o_apps, o_mk, mkE_some, consD_some, mkD_zero, mkD_int, mkD_str, mkD_sl, o_imin, o_imax, o_smin, o_smax, o_eqs, eqsE_some, eqC_nil, andE_some, eqC_int, eqC_bool, eqC_str, j1, outE_some, outE_none, outE_ite, agE_1, loopE_1, agE_2, loopE_2, agE_3, loopE_3, agE_4, loopE_4, agE_5, loopE_5, agE_6, loopE_6, agE_7, loopE_7, agE_8, loopE_8, agE_9, loopE_9, List.cons_append, List.nil_append, List.append_nil, split, List.take_succ_cons, List.take_zero, List.drop_succ_cons, List.drop_zero, k28, h29]
theorem s5 {lc : List Ct} (hl0 : look (lc.map fun c => (c.sig.id, c)) 5 = some c5) : ∀ (l : List It) (x y : List Int) (hm : ∀ x ∈ l, 0 ≤ x.2.2.2.2.2.2.2 ∧ x.2.2.2.2.2.2.2 < 4294967296), Does1 (Phi lc) 5 [⟨.sl ItT, l⟩, ⟨.str, x⟩, ⟨.str, y⟩] [⟨.bool, true⟩] :=
  fun l x y hm => Does1.of hl0 (f5 l x y hm) rfl

theorem wf_items {l : List It} (h : Wf (.sl ItT) l) : ∀ x ∈ l, 0 ≤ x.2.2.2.2.2.2.2 ∧ x.2.2.2.2.2.2.2 < 4294967296 := fun x hx => wf_u32 (h.2 x hx).2.2.2.2.2.2.2
end Go.Proofs.Ytdjknicjnaiomaa.Sx
