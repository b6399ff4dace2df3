/-
  Items and blocks read back from bytes: what is read was put so, and what was put is read.
-/
import Derived.Test.YtdjknicjnaiomaaD4
set_option linter.unusedVariables false
set_option linter.unusedSimpArgs false
/- The texts of the functions that BlockGets and BlockReads reach. -/
namespace Go.Proofs.Ytdjknicjnaiomaa.Sx
def sig97 : Sig := { id := 97, ins := [(false, (Ty.int .u8).sl), (false, Ty.str)], outs := [(true, [(Ty.str, none), (Ty.bool, none), (Ty.bool, none), ((Ty.int .u8).sl, none), (Ty.int .i64, none), (Ty.int .i64, none), (Ty.int .i64, none), (Ty.int .u32, none)]), (false, [((Ty.int .u8).sl, none)]), (false, [(Ty.bool, none)])] }
def ir97 : IR := .op (.call 129) [.v 0, .l (.int .i64 2)] (.op (.icmp .neq) [.v 4, .l (.int .i64 0)] (.ite (.v 5) (.ret [.l (.str []), .l (.bool false), .l (.bool false), .l (.nil (Ty.int .u8)), .l (.int .i64 0), .l (.int .i64 0), .l (.int .i64 0), .l (.int .u32 0), .l (.nil (Ty.int .u8)), .l (.bool false)]) (.op .inb [.v 2, .l (.int .i64 0)] (.op (.idx (Ty.int .u64)) [.v 2, .l (.int .i64 0)] (.op .len [.v 1] (.op (.conv .u64) [.v 7] (.op (.icmp .gtr) [.v 6, .v 8] (.ite (.v 9) (.ret [.l (.str []), .l (.bool false), .l (.bool false), .l (.nil (Ty.int .u8)), .l (.int .i64 0), .l (.int .i64 0), .l (.int .i64 0), .l (.int .u32 0), .l (.nil (Ty.int .u8)), .l (.bool false)]) (.op .inb [.v 2, .l (.int .i64 1)] (.op (.idx (Ty.int .u64)) [.v 2, .l (.int .i64 1)] (.op (.icmp .gtr) [.v 10, .l (.int .u64 64)] (.ite (.v 11) (.ret [.l (.str []), .l (.bool false), .l (.bool false), .l (.nil (Ty.int .u8)), .l (.int .i64 0), .l (.int .i64 0), .l (.int .i64 0), .l (.int .u32 0), .l (.nil (Ty.int .u8)), .l (.bool false)]) (.op .len [.v 0] (.op (.ibin .sub .i64) [.v 12, .v 3] (.op .inb [.v 2, .l (.int .i64 1)] (.op (.idx (Ty.int .u64)) [.v 2, .l (.int .i64 1)] (.op (.conv .i64) [.v 14] (.op (.ibin .add .i64) [.v 15, .l (.int .i64 1)] (.op (.icmp .lss) [.v 13, .v 16] (.ite (.v 17) (.ret [.l (.str []), .l (.bool false), .l (.bool false), .l (.nil (Ty.int .u8)), .l (.int .i64 0), .l (.int .i64 0), .l (.int .i64 0), .l (.int .u32 0), .l (.nil (Ty.int .u8)), .l (.bool false)]) (.op .inb [.v 2, .l (.int .i64 0)] (.op (.idx (Ty.int .u64)) [.v 2, .l (.int .i64 0)] (.op (.conv .i64) [.v 18] (.op .inb [.v 2, .l (.int .i64 1)] (.op (.idx (Ty.int .u64)) [.v 2, .l (.int .i64 1)] (.op (.conv .i64) [.v 20] (.op (.ibin .add .i64) [.v 3, .v 21] (.op .ssub [.v 1, .l (.int .i64 0), .v 19] (.op .sub [.v 0, .v 3, .v 22] (.op .b2s [.v 24] (.op .scat [.v 23, .v 25] (.op .inb [.v 0, .v 22] (.op (.idx (Ty.int .u8)) [.v 0, .v 22] (.op (.icmp .eql) [.v 27, .l (.int .u8 1)] (.op .inb [.v 0, .v 22] (.op (.idx (Ty.int .u8)) [.v 0, .v 22] (.op (.icmp .gtr) [.v 29, .l (.int .u8 1)] (.ite (.v 30) (.ret [.l (.str []), .l (.bool false), .l (.bool false), .l (.nil (Ty.int .u8)), .l (.int .i64 0), .l (.int .i64 0), .l (.int .i64 0), .l (.int .u32 0), .l (.nil (Ty.int .u8)), .l (.bool false)]) (.op (.call 30) [.v 1, .v 26] (.op (.icmp .neq) [.v 31, .v 19] (.ite (.v 32) (.ret [.l (.str []), .l (.bool false), .l (.bool false), .l (.nil (Ty.int .u8)), .l (.int .i64 0), .l (.int .i64 0), .l (.int .i64 0), .l (.int .u32 0), .l (.nil (Ty.int .u8)), .l (.bool false)]) (.op (.scmp .leq) [.v 26, .v 1] (.ite (.v 33) (.ret [.l (.str []), .l (.bool false), .l (.bool false), .l (.nil (Ty.int .u8)), .l (.int .i64 0), .l (.int .i64 0), .l (.int .i64 0), .l (.int .u32 0), .l (.nil (Ty.int .u8)), .l (.bool false)]) (.op (.ibin .add .i64) [.v 22, .l (.int .i64 1)] (.op .sub [.v 0, .v 34] (.op .not [.v 28] (.ite (.v 36) (.op (.call 43) [.v 35] (.op (.icmp .neq) [.v 44, .l (.int .i64 0)] (.ite (.v 45) (.ret [.l (.str []), .l (.bool false), .l (.bool false), .l (.nil (Ty.int .u8)), .l (.int .i64 0), .l (.int .i64 0), .l (.int .i64 0), .l (.int .u32 0), .l (.nil (Ty.int .u8)), .l (.bool false)]) (.op .sub [.v 35, .v 43] (.ret [.v 26, .v 28, .v 37, .v 38, .v 39, .v 40, .v 41, .v 42, .v 46, .l (.bool true)]))))) (.ret [.v 26, .v 28, .l (.bool false), .l (.nil (Ty.int .u8)), .l (.int .i64 0), .l (.int .i64 0), .l (.int .i64 0), .l (.int .u32 0), .v 35, .l (.bool true)]))))))))))))))))))))))))))))))))))))))))))))))))
def sig47 : Sig := { id := 47, ins := [(false, (Ty.int .u8).sl)], outs := [(false, [((Ty.str.pair (Ty.bool.pair (Ty.bool.pair ((Ty.int .u8).sl.pair ((Ty.int .i64).pair ((Ty.int .i64).pair ((Ty.int .i64).pair (Ty.int .u32)))))))).sl, some 77)]), (false, [(Ty.int .i64, none)])] }
def ir47 : IR := .op (.call 90) [.v 0] (.op (.icmp .neq) [.v 3, .l (.int .i64 0)] (.ite (.v 4) (.ret [.l (.nil (Ty.str.pair (Ty.bool.pair (Ty.bool.pair ((Ty.int .u8).sl.pair ((Ty.int .i64).pair ((Ty.int .i64).pair ((Ty.int .i64).pair (Ty.int .u32))))))))), .l (.int .i64 2)]) (.op (.icmp .lss) [.v 1, .l (.int .u64 1)] (.ite (.v 5) (.ret [.l (.nil (Ty.str.pair (Ty.bool.pair (Ty.bool.pair ((Ty.int .u8).sl.pair ((Ty.int .i64).pair ((Ty.int .i64).pair ((Ty.int .i64).pair (Ty.int .u32))))))))), .l (.int .i64 2)]) (.op (.icmp .gtr) [.v 1, .l (.int .u64 256)] (.ite (.v 6) (.ret [.l (.nil (Ty.str.pair (Ty.bool.pair (Ty.bool.pair ((Ty.int .u8).sl.pair ((Ty.int .i64).pair ((Ty.int .i64).pair ((Ty.int .i64).pair (Ty.int .u32))))))))), .l (.int .i64 2)]) (.op .sub [.v 0, .v 2] (.loop [.v 7, .l (.nil (Ty.str.pair (Ty.bool.pair (Ty.bool.pair ((Ty.int .u8).sl.pair ((Ty.int .i64).pair ((Ty.int .i64).pair ((Ty.int .i64).pair (Ty.int .u32))))))))), .l (.str []), .l (.int .u64 0)] [(Ty.int .u8).sl, (Ty.str.pair (Ty.bool.pair (Ty.bool.pair ((Ty.int .u8).sl.pair ((Ty.int .i64).pair ((Ty.int .i64).pair ((Ty.int .i64).pair (Ty.int .u32)))))))).sl, Ty.str, Ty.int .u64] (.op (.icmp .lss) [.v 11, .v 1] (.ite (.v 12) (.op (.call 97) [.v 8, .v 10] (.op .not [.v 22] (.ite (.v 23) (.ret [.l (.nil (Ty.str.pair (Ty.bool.pair (Ty.bool.pair ((Ty.int .u8).sl.pair ((Ty.int .i64).pair ((Ty.int .i64).pair ((Ty.int .i64).pair (Ty.int .u32))))))))), .l (.int .i64 2)]) (.op (.call 98) [.v 13, .v 14, .v 15, .v 16, .v 17, .v 18, .v 19, .v 20] (.op (.icmp .neq) [.v 24, .l (.int .i64 0)] (.ite (.v 25) (.ret [.l (.nil (Ty.str.pair (Ty.bool.pair (Ty.bool.pair ((Ty.int .u8).sl.pair ((Ty.int .i64).pair ((Ty.int .i64).pair ((Ty.int .i64).pair (Ty.int .u32))))))))), .l (.int .i64 2)]) (.op (.mk (Ty.str.pair (Ty.bool.pair (Ty.bool.pair ((Ty.int .u8).sl.pair ((Ty.int .i64).pair ((Ty.int .i64).pair ((Ty.int .i64).pair (Ty.int .u32)))))))) 1) [.v 13, .v 14, .v 15, .v 16, .v 17, .v 18, .v 19, .v 20] (.op .app [.v 9, .v 26] (.op (.ibin .add .u64) [.v 11, .l (.int .u64 1)] (.jump 0 [.v 21, .v 27, .v 13, .v 28])))))))))) (.op .len [.v 8] (.op (.icmp .gtr) [.v 13, .l (.int .i64 0)] (.ite (.v 14) (.ret [.l (.nil (Ty.str.pair (Ty.bool.pair (Ty.bool.pair ((Ty.int .u8).sl.pair ((Ty.int .i64).pair ((Ty.int .i64).pair ((Ty.int .i64).pair (Ty.int .u32))))))))), .l (.int .i64 2)]) (.ret [.v 9, .l (.int .i64 0)]))))))))))))))
def sig48 : Sig := { id := 48, ins := [(false, (Ty.int .u8).sl)], outs := [(false, [((Ty.str.pair (Ty.bool.pair (Ty.bool.pair ((Ty.int .u8).sl.pair ((Ty.int .i64).pair ((Ty.int .i64).pair ((Ty.int .i64).pair (Ty.int .u32)))))))).sl, some 77)])] }
def ir48 : IR := .op (.call 92) [.v 0] (.op (.icmp .eql) [.v 2, .l (.int .i64 0)] (.ite (.v 3) (.ret [.l (.nil (Ty.str.pair (Ty.bool.pair (Ty.bool.pair ((Ty.int .u8).sl.pair ((Ty.int .i64).pair ((Ty.int .i64).pair ((Ty.int .i64).pair (Ty.int .u32)))))))))]) (.op (.icmp .gtr) [.v 1, .l (.int .u64 256)] (.ite (.v 4) (.ret [.l (.nil (Ty.str.pair (Ty.bool.pair (Ty.bool.pair ((Ty.int .u8).sl.pair ((Ty.int .i64).pair ((Ty.int .i64).pair ((Ty.int .i64).pair (Ty.int .u32)))))))))]) (.op (.mk (Ty.str.pair (Ty.bool.pair (Ty.bool.pair ((Ty.int .u8).sl.pair ((Ty.int .i64).pair ((Ty.int .i64).pair ((Ty.int .i64).pair (Ty.int .u32)))))))) 0) [] (.loop [.v 2, .v 5, .l (.str []), .l (.int .i64 0)] [Ty.int .i64, (Ty.str.pair (Ty.bool.pair (Ty.bool.pair ((Ty.int .u8).sl.pair ((Ty.int .i64).pair ((Ty.int .i64).pair ((Ty.int .i64).pair (Ty.int .u32)))))))).sl, Ty.str, Ty.int .i64] (.op (.conv .i64) [.v 1] (.op (.icmp .lss) [.v 9, .v 10] (.ite (.v 11) (.op .sub [.v 0, .v 6] (.op (.call 92) [.v 12] (.op (.ibin .add .i64) [.v 6, .v 14] (.op .sub [.v 0, .v 15] (.op (.call 92) [.v 16] (.op (.icmp .eql) [.v 14, .l (.int .i64 0)] (.ite (.v 19) (.ret [.l (.nil (Ty.str.pair (Ty.bool.pair (Ty.bool.pair ((Ty.int .u8).sl.pair ((Ty.int .i64).pair ((Ty.int .i64).pair ((Ty.int .i64).pair (Ty.int .u32)))))))))]) (.op (.icmp .eql) [.v 18, .l (.int .i64 0)] (.ite (.v 20) (.ret [.l (.nil (Ty.str.pair (Ty.bool.pair (Ty.bool.pair ((Ty.int .u8).sl.pair ((Ty.int .i64).pair ((Ty.int .i64).pair ((Ty.int .i64).pair (Ty.int .u32)))))))))]) (.op .len [.v 8] (.op (.conv .u64) [.v 21] (.op (.icmp .gtr) [.v 13, .v 22] (.ite (.v 23) (.ret [.l (.nil (Ty.str.pair (Ty.bool.pair (Ty.bool.pair ((Ty.int .u8).sl.pair ((Ty.int .i64).pair ((Ty.int .i64).pair ((Ty.int .i64).pair (Ty.int .u32)))))))))]) (.op (.icmp .gtr) [.v 17, .l (.int .u64 64)] (.ite (.v 24) (.ret [.l (.nil (Ty.str.pair (Ty.bool.pair (Ty.bool.pair ((Ty.int .u8).sl.pair ((Ty.int .i64).pair ((Ty.int .i64).pair ((Ty.int .i64).pair (Ty.int .u32)))))))))]) (.op (.ibin .add .i64) [.v 6, .v 14] (.op (.ibin .add .i64) [.v 25, .v 18] (.op (.conv .i64) [.v 17] (.op (.ibin .add .i64) [.v 26, .v 27] (.op .len [.v 0] (.op (.icmp .geq) [.v 28, .v 29] (.ite (.v 30) (.ret [.l (.nil (Ty.str.pair (Ty.bool.pair (Ty.bool.pair ((Ty.int .u8).sl.pair ((Ty.int .i64).pair ((Ty.int .i64).pair ((Ty.int .i64).pair (Ty.int .u32)))))))))]) (.op (.conv .i64) [.v 13] (.op .ssub [.v 8, .l (.int .i64 0), .v 31] (.op .sub [.v 0, .v 26, .v 28] (.op .b2s [.v 33] (.op .scat [.v 32, .v 34] (.op .inb [.v 0, .v 28] (.op (.idx (Ty.int .u8)) [.v 0, .v 28] (.op (.icmp .eql) [.v 36, .l (.int .u8 1)] (.op (.ibin .add .i64) [.v 28, .l (.int .i64 1)] (.op .not [.v 37] (.ite (.v 39) (.op .sub [.v 0, .v 38] (.op (.call 44) [.v 40] (.op (.icmp .eql) [.v 47, .l (.int .i64 0)] (.ite (.v 48) (.ret [.l (.nil (Ty.str.pair (Ty.bool.pair (Ty.bool.pair ((Ty.int .u8).sl.pair ((Ty.int .i64).pair ((Ty.int .i64).pair ((Ty.int .i64).pair (Ty.int .u32)))))))))]) (.op (.ibin .add .i64) [.v 38, .v 47] (.op (.mk (Ty.str.pair (Ty.bool.pair (Ty.bool.pair ((Ty.int .u8).sl.pair ((Ty.int .i64).pair ((Ty.int .i64).pair ((Ty.int .i64).pair (Ty.int .u32)))))))) 1) [.v 35, .v 37, .v 41, .v 42, .v 43, .v 44, .v 45, .v 46] (.op .app [.v 7, .v 50] (.op (.ibin .add .i64) [.v 9, .l (.int .i64 1)] (.jump 0 [.v 49, .v 51, .v 35, .v 52]))))))))) (.op (.mk (Ty.str.pair (Ty.bool.pair (Ty.bool.pair ((Ty.int .u8).sl.pair ((Ty.int .i64).pair ((Ty.int .i64).pair ((Ty.int .i64).pair (Ty.int .u32)))))))) 1) [.v 35, .v 37, .l (.bool false), .l (.nil (Ty.int .u8)), .l (.int .i64 0), .l (.int .i64 0), .l (.int .i64 0), .l (.int .u32 0)] (.op .app [.v 7, .v 40] (.op (.ibin .add .i64) [.v 9, .l (.int .i64 1)] (.jump 0 [.v 38, .v 41, .v 35, .v 42]))))))))))))))))))))))))))))))))))))) (.op .len [.v 0] (.op (.icmp .neq) [.v 6, .v 12] (.ite (.v 13) (.ret [.l (.nil (Ty.str.pair (Ty.bool.pair (Ty.bool.pair ((Ty.int .u8).sl.pair ((Ty.int .i64).pair ((Ty.int .i64).pair ((Ty.int .i64).pair (Ty.int .u32)))))))))]) (.op (.call 33) [.v 7] (.op .not [.v 14] (.ite (.v 15) (.ret [.l (.nil (Ty.str.pair (Ty.bool.pair (Ty.bool.pair ((Ty.int .u8).sl.pair ((Ty.int .i64).pair ((Ty.int .i64).pair ((Ty.int .i64).pair (Ty.int .u32)))))))))]) (.op (.call 34) [.v 7] (.op (.call 21) [.v 16, .v 0] (.op .not [.v 17] (.ite (.v 18) (.ret [.l (.nil (Ty.str.pair (Ty.bool.pair (Ty.bool.pair ((Ty.int .u8).sl.pair ((Ty.int .i64).pair ((Ty.int .i64).pair ((Ty.int .i64).pair (Ty.int .u32)))))))))]) (.ret [.v 7]))))))))))))))))))))
def sig49 : Sig := { id := 49, ins := [(false, (Ty.int .u8).sl), (false, Ty.str)], outs := [(true, [(Ty.str, none), (Ty.bool, none), (Ty.bool, none), ((Ty.int .u8).sl, none), (Ty.int .i64, none), (Ty.int .i64, none), (Ty.int .i64, none), (Ty.int .u32, none)]), (false, [(Ty.bool, none)]), (false, [(Ty.int .i64, none)])] }
def ir49 : IR := .op (.call 47) [.v 0] (.op (.icmp .neq) [.v 3, .l (.int .i64 0)] (.ite (.v 4) (.ret [.l (.str []), .l (.bool false), .l (.bool false), .l (.nil (Ty.int .u8)), .l (.int .i64 0), .l (.int .i64 0), .l (.int .i64 0), .l (.int .u32 0), .l (.bool false), .v 3]) (.op .len [.v 2] (.loop [.l (.int .i64 0)] [Ty.int .i64] (.op (.icmp .lss) [.v 6, .v 5] (.ite (.v 7) (.op .inb [.v 2, .v 6] (.op (.idx (Ty.str.pair (Ty.bool.pair (Ty.bool.pair ((Ty.int .u8).sl.pair ((Ty.int .i64).pair ((Ty.int .i64).pair ((Ty.int .i64).pair (Ty.int .u32))))))))) [.v 2, .v 6] (.op (.scmp .eql) [.v 8, .v 1] (.ite (.v 16) (.op (.icmp .lss) [.v 6, .l (.int .i64 0)] (.ite (.v 17) (.ret [.l (.str []), .l (.bool false), .l (.bool false), .l (.nil (Ty.int .u8)), .l (.int .i64 0), .l (.int .i64 0), .l (.int .i64 0), .l (.int .u32 0), .l (.bool false), .l (.int .i64 0)]) (.op .inb [.v 2, .v 6] (.op (.idx (Ty.str.pair (Ty.bool.pair (Ty.bool.pair ((Ty.int .u8).sl.pair ((Ty.int .i64).pair ((Ty.int .i64).pair ((Ty.int .i64).pair (Ty.int .u32))))))))) [.v 2, .v 6] (.ret [.v 18, .v 19, .v 20, .v 21, .v 22, .v 23, .v 24, .v 25, .l (.bool true), .l (.int .i64 0)]))))) (.op (.ibin .add .i64) [.v 6, .l (.int .i64 1)] (.jump 0 [.v 17])))))) (.op (.icmp .lss) [.l (.int .i64 (-1)), .l (.int .i64 0)] (.ite (.v 8) (.ret [.l (.str []), .l (.bool false), .l (.bool false), .l (.nil (Ty.int .u8)), .l (.int .i64 0), .l (.int .i64 0), .l (.int .i64 0), .l (.int .u32 0), .l (.bool false), .l (.int .i64 0)]) (.op .inb [.v 2, .l (.int .i64 (-1))] (.op (.idx (Ty.str.pair (Ty.bool.pair (Ty.bool.pair ((Ty.int .u8).sl.pair ((Ty.int .i64).pair ((Ty.int .i64).pair ((Ty.int .i64).pair (Ty.int .u32))))))))) [.v 2, .l (.int .i64 (-1))] (.ret [.v 9, .v 10, .v 11, .v 12, .v 13, .v 14, .v 15, .v 16, .l (.bool true), .l (.int .i64 0)])))))))))))
def sig52 : Sig := { id := 52, ins := [(true, Ty.str.pair (Ty.bool.pair (Ty.bool.pair ((Ty.int .u8).sl.pair ((Ty.int .i64).pair ((Ty.int .i64).pair ((Ty.int .i64).pair (Ty.int .u32)))))))), (true, Ty.str.pair (Ty.bool.pair (Ty.bool.pair ((Ty.int .u8).sl.pair ((Ty.int .i64).pair ((Ty.int .i64).pair ((Ty.int .i64).pair (Ty.int .u32))))))))], outs := [(false, [(Ty.bool, none)])] }
def ir52 : IR := .op (.scmp .eql) [.v 0, .v 8] (.ite (.v 16) (.op (.bcmp .eql) [.v 1, .v 9] (.ite (.v 17) (.op (.call 18) [.v 2, .v 3, .v 4, .v 5, .v 6, .v 7, .v 10, .v 11, .v 12, .v 13, .v 14, .v 15] (.ret [.v 18])) (.ret [.l (.bool false)]))) (.ret [.l (.bool false)]))
def sig50 : Sig := { id := 50, ins := [(false, (Ty.str.pair (Ty.bool.pair (Ty.bool.pair ((Ty.int .u8).sl.pair ((Ty.int .i64).pair ((Ty.int .i64).pair ((Ty.int .i64).pair (Ty.int .u32)))))))).sl), (false, (Ty.str.pair (Ty.bool.pair (Ty.bool.pair ((Ty.int .u8).sl.pair ((Ty.int .i64).pair ((Ty.int .i64).pair ((Ty.int .i64).pair (Ty.int .u32)))))))).sl)], outs := [(false, [(Ty.bool, none)])] }
def ir50 : IR := .op .len [.v 0] (.op .len [.v 1] (.op (.icmp .neq) [.v 2, .v 3] (.ite (.v 4) (.ret [.l (.bool false)]) (.loop [.l (.int .i64 0)] [Ty.int .i64] (.op .len [.v 0] (.op (.icmp .lss) [.v 5, .v 6] (.ite (.v 7) (.op .inb [.v 0, .v 5] (.op (.idx (Ty.str.pair (Ty.bool.pair (Ty.bool.pair ((Ty.int .u8).sl.pair ((Ty.int .i64).pair ((Ty.int .i64).pair ((Ty.int .i64).pair (Ty.int .u32))))))))) [.v 0, .v 5] (.op .inb [.v 1, .v 5] (.op (.idx (Ty.str.pair (Ty.bool.pair (Ty.bool.pair ((Ty.int .u8).sl.pair ((Ty.int .i64).pair ((Ty.int .i64).pair ((Ty.int .i64).pair (Ty.int .u32))))))))) [.v 1, .v 5] (.op (.call 52) [.v 8, .v 9, .v 10, .v 11, .v 12, .v 13, .v 14, .v 15, .v 16, .v 17, .v 18, .v 19, .v 20, .v 21, .v 22, .v 23] (.op .not [.v 24] (.ite (.v 25) (.ret [.l (.bool false)]) (.op (.ibin .add .i64) [.v 5, .l (.int .i64 1)] (.jump 0 [.v 26]))))))))) (.ret [.l (.bool true)]))))))))
def sig51 : Sig := { id := 51, ins := [(false, (Ty.str.pair (Ty.bool.pair (Ty.bool.pair ((Ty.int .u8).sl.pair ((Ty.int .i64).pair ((Ty.int .i64).pair ((Ty.int .i64).pair (Ty.int .u32)))))))).sl), (false, Ty.str)], outs := [(true, [(Ty.str, none), (Ty.bool, none), (Ty.bool, none), ((Ty.int .u8).sl, none), (Ty.int .i64, none), (Ty.int .i64, none), (Ty.int .i64, none), (Ty.int .u32, none)])] }
def ir51 : IR := .loop [.l (.int .i64 0)] [Ty.int .i64] (.op .len [.v 0] (.op (.icmp .lss) [.v 2, .v 3] (.ite (.v 4) (.op .inb [.v 0, .v 2] (.op (.idx (Ty.str.pair (Ty.bool.pair (Ty.bool.pair ((Ty.int .u8).sl.pair ((Ty.int .i64).pair ((Ty.int .i64).pair ((Ty.int .i64).pair (Ty.int .u32))))))))) [.v 0, .v 2] (.op (.scmp .eql) [.v 5, .v 1] (.ite (.v 13) (.op .inb [.v 0, .v 2] (.op (.idx (Ty.str.pair (Ty.bool.pair (Ty.bool.pair ((Ty.int .u8).sl.pair ((Ty.int .i64).pair ((Ty.int .i64).pair ((Ty.int .i64).pair (Ty.int .u32))))))))) [.v 0, .v 2] (.ret [.v 14, .v 15, .v 16, .v 17, .v 18, .v 19, .v 20, .v 21]))) (.op (.ibin .add .i64) [.v 2, .l (.int .i64 1)] (.jump 0 [.v 14])))))) (.ret [.l (.str []), .l (.bool false), .l (.bool false), .l (.nil (Ty.int .u8)), .l (.int .i64 0), .l (.int .i64 0), .l (.int .i64 0), .l (.int .u32 0)]))))
def sig11 : Sig := { id := 11, ins := [(false, (Ty.int .u8).sl), (false, Ty.str)], outs := [(false, [(Ty.bool, none)])] }
def ir11 : IR := .op .len [.v 0] (.op (.icmp .gtr) [.v 2, .l (.int .i64 2000)] (.ite (.v 3) (.op (.call 29) [] (.ret [.v 4])) (.op .len [.v 1] (.op (.icmp .gtr) [.v 4, .l (.int .i64 200)] (.ite (.v 5) (.op (.call 29) [] (.ret [.v 6])) (.op (.mk (Ty.int .u8) 0) [] (.op .app [.v 6, .v 0] (.op (.call 47) [.v 7] (.op (.call 48) [.v 0] (.op (.call 49) [.v 0, .v 1] (.op (.call 50) [.v 8, .v 10] (.op .not [.v 21] (.ite (.v 22) (.ret [.l (.bool false)]) (.op (.icmp .neq) [.v 9, .v 20] (.ite (.v 23) (.ret [.l (.bool false)]) (.op (.icmp .eql) [.v 9, .l (.int .i64 0)] (.op .len [.v 10] (.op (.icmp .gtr) [.v 25, .l (.int .i64 0)] (.op (.bcmp .neq) [.v 24, .v 26] (.ite (.v 27) (.ret [.l (.bool false)]) (.op (.icmp .eql) [.v 9, .l (.int .i64 2)] (.op .len [.v 10] (.op (.icmp .eql) [.v 29, .l (.int .i64 0)] (.op (.bcmp .neq) [.v 28, .v 30] (.ite (.v 31) (.ret [.l (.bool false)]) (.op (.call 51) [.v 10, .v 1] (.op (.call 52) [.v 11, .v 12, .v 13, .v 14, .v 15, .v 16, .v 17, .v 18, .v 32, .v 33, .v 34, .v 35, .v 36, .v 37, .v 38, .v 39] (.ite (.v 40) (.op (.scmp .neq) [.v 32, .l (.str [])] (.op (.bcmp .eql) [.v 19, .v 41] (.ite (.v 42) (.op (.call 29) [] (.ret [.v 43])) (.ret [.l (.bool false)])))) (.ret [.l (.bool false)])))))))))))))))))))))))))))))
def sig12 : Sig := { id := 12, ins := [(false, (Ty.str.pair (Ty.bool.pair (Ty.bool.pair ((Ty.int .u8).sl.pair ((Ty.int .i64).pair ((Ty.int .i64).pair ((Ty.int .i64).pair (Ty.int .u32)))))))).sl), (false, (Ty.int .u8).sl)], outs := [(false, [(Ty.bool, none)])] }
def ir12 : IR := .op (.call 28) [.v 0] (.op .not [.v 2] (.ite (.v 3) (.op (.call 29) [] (.ret [.v 4])) (.op (.call 33) [.v 0] (.op .not [.v 4] (.ite (.v 5) (.op (.call 29) [] (.ret [.v 6])) (.op .len [.v 1] (.op (.icmp .gtr) [.v 6, .l (.int .i64 2000)] (.ite (.v 7) (.op (.call 29) [] (.ret [.v 8])) (.op (.call 32) [.v 0] (.op (.call 47) [.v 8] (.op (.icmp .neq) [.v 9, .l (.int .i64 0)] (.ite (.v 12) (.ret [.l (.bool false)]) (.op (.icmp .neq) [.v 11, .l (.int .i64 0)] (.ite (.v 13) (.ret [.l (.bool false)]) (.op (.call 50) [.v 10, .v 0] (.op .not [.v 14] (.ite (.v 15) (.ret [.l (.bool false)]) (.loop [.l (.int .i64 0)] [Ty.int .i64] (.op .len [.v 0] (.op (.icmp .lss) [.v 16, .v 17] (.ite (.v 18) (.op .inb [.v 0, .v 16] (.op (.idx (Ty.str.pair (Ty.bool.pair (Ty.bool.pair ((Ty.int .u8).sl.pair ((Ty.int .i64).pair ((Ty.int .i64).pair ((Ty.int .i64).pair (Ty.int .u32))))))))) [.v 0, .v 16] (.op (.call 49) [.v 8, .v 19] (.op (.icmp .neq) [.v 36, .l (.int .i64 0)] (.ite (.v 37) (.ret [.l (.bool false)]) (.op .not [.v 35] (.ite (.v 38) (.ret [.l (.bool false)]) (.op .inb [.v 0, .v 16] (.op (.idx (Ty.str.pair (Ty.bool.pair (Ty.bool.pair ((Ty.int .u8).sl.pair ((Ty.int .i64).pair ((Ty.int .i64).pair ((Ty.int .i64).pair (Ty.int .u32))))))))) [.v 0, .v 16] (.op (.call 52) [.v 27, .v 28, .v 29, .v 30, .v 31, .v 32, .v 33, .v 34, .v 39, .v 40, .v 41, .v 42, .v 43, .v 44, .v 45, .v 46] (.op .not [.v 47] (.ite (.v 48) (.ret [.l (.bool false)]) (.op (.ibin .add .i64) [.v 16, .l (.int .i64 1)] (.jump 0 [.v 49])))))))))))))) (.op (.call 47) [.v 1] (.op (.icmp .neq) [.v 20, .l (.int .i64 0)] (.ite (.v 21) (.op (.call 29) [] (.ret [.v 22])) (.op (.call 50) [.v 19, .v 0] (.op .not [.v 22] (.ite (.v 23) (.op (.call 29) [] (.ret [.v 24])) (.op (.call 21) [.v 1, .v 8] (.ite (.v 24) (.op (.call 29) [] (.ret [.v 25])) (.ret [.l (.bool false)]))))))))))))))))))))))))))))))
noncomputable def F97 : List D → Option (List D) := Fof [c129, c30, c43] ir97
noncomputable def c97 : Ct := ⟨sig97, F97⟩
noncomputable def F47 : List D → Option (List D) := Fof [c90, c97, c98] ir47
noncomputable def c47 : Ct := ⟨sig47, F47⟩
noncomputable def F48 : List D → Option (List D) := Fof [c92, c44, c33, c34, c21] ir48
noncomputable def c48 : Ct := ⟨sig48, F48⟩
noncomputable def F49 : List D → Option (List D) := Fof [c47] ir49
noncomputable def c49 : Ct := ⟨sig49, F49⟩
noncomputable def F52 : List D → Option (List D) := Fof [c18] ir52
noncomputable def c52 : Ct := ⟨sig52, F52⟩
noncomputable def F50 : List D → Option (List D) := Fof [c52] ir50
noncomputable def c50 : Ct := ⟨sig50, F50⟩
noncomputable def F51 : List D → Option (List D) := Fof [] ir51
noncomputable def c51 : Ct := ⟨sig51, F51⟩
noncomputable def F11 : List D → Option (List D) := Fof [c29, c47, c48, c49, c50, c51, c52] ir11
noncomputable def c11 : Ct := ⟨sig11, F11⟩
noncomputable def F12 : List D → Option (List D) := Fof [c28, c29, c33, c32, c47, c50, c49, c52, c21] ir12
noncomputable def c12 : Ct := ⟨sig12, F12⟩
end Go.Proofs.Ytdjknicjnaiomaa.Sx

/- An item read back from bytes. -/
namespace Go.Proofs.Ytdjknicjnaiomaa.Sx

def nextI (last b : List Int) : Option (It × List Int) := match allL 2 b with
  | some [u, v] =>
    if (last.length : Int) < u ∨ 64 < v ∨ (b.length : Int) - allA 2 b < v + 1 then none else
    match b.drop (allA 2 b + v.toNat) with
    | c :: r =>
      if 1 < c ∨ ¬ ((alike last (last.take u.toNat ++ (b.drop (allA 2 b)).take v.toNat) : Int) = u) ∨ ltL (last.take u.toNat ++ (b.drop (allA 2 b)).take v.toNat) last = true ∨ last.take u.toNat ++ (b.drop (allA 2 b)).take v.toNat = last then none
      else if c = 1 then some ((last.take u.toNat ++ (b.drop (allA 2 b)).take v.toNat, true, false, [], 0, 0, 0, 0), r)
      else match getC r with
        | some (f, y, s, a, n, m, k) => some ((last.take u.toNat ++ (b.drop (allA 2 b)).take v.toNat, false, f, y, s, a, n, m), r.drop k)
        | none => none
    | [] => none
  | _ => none
def resN : Option (It × List Int) → List D
  | some ((k, d, f, b, s, a, n, m), r) => [⟨.str, k⟩, ⟨.bool, d⟩, ⟨.bool, f⟩, ⟨.sl (.int .u8), b⟩, ⟨.int .i64, s⟩, ⟨.int .i64, a⟩, ⟨.int .i64, n⟩, ⟨.int .u32, m⟩, ⟨.sl (.int .u8), r⟩, ⟨.bool, true⟩]
  | none => [⟨.str, []⟩, ⟨.bool, false⟩, ⟨.bool, false⟩, ⟨.sl (.int .u8), []⟩, ⟨.int .i64, 0⟩, ⟨.int .i64, 0⟩, ⟨.int .i64, 0⟩, ⟨.int .u32, 0⟩, ⟨.sl (.int .u8), []⟩, ⟨.bool, false⟩]

theorem getC_le {x : List Int} (hb : ∀ c ∈ x, 0 ≤ c ∧ c < 256) {f : Bool} {b : List Int} {s a n m : Int} {k : Nat} (h : getC x = some (f, b, s, a, n, m, k)) : k ≤ x.length := by
  unfold getC at h
  split at h
  · cases h
  · rename_i c t
    have hr := gv_range (b := t) (fun d hd => hb d (by simp [hd]))
    split at h
    · cases h
    · split at h
      · split at h
        · rename_i hp
          have := (getP_k hp).1
          simp only [Option.some.injEq, Cl, Prod.mk.injEq] at h
          obtain ⟨_, _, _, _, _, _, rfl⟩ := h
          simp only [List.length_cons]; omega
        · cases h
      · split at h
        · cases h
        · simp only [Option.some.injEq, Cl, Prod.mk.injEq] at h
          obtain ⟨_, _, _, _, _, _, rfl⟩ := h
          simp only [List.length_cons]; omega

theorem f97 (b last : List Int) (hb : ∀ c ∈ b, 0 ≤ c ∧ c < 256) (hl : b.length < 10000000000) (hk : last.length ≤ 1000) : F97 [⟨.sl (.int .u8), b⟩, ⟨.str, last⟩] = some (resN (nextI last b)) := by
  have h129 := s129 (lc := [c129, c30, c43]) rfl
  have h30 := s30 (lc := [c129, c30, c43]) rfl
  have h43 := s43 (lc := [c129, c30, c43]) rfl
  simp only [F97, Fof, ir97]
  generalize Phi [c129, c30, c43] = Φ at *
  have k129 := h129 b 2 hb (by omega) (by omega) (by omega)
  have hle := allA_le 2 b hb
  rw [show (2 : Int).toNat = 2 from rfl] at k129
  unfold nextI
  cases ha : allL 2 b with
  | none =>
    simp only [ha, resA] at k129
    simp [↓den_start, ↓deb_op, ↓deb_ret, ↓deb_jump, ↓deb_itev, ↓deb_itel, ↓deb_loop, ↓deb_fail, ↓deb_nilcv, nilE_some, opE_some, debP_nil, debP_cons, pushL_nil, pushL_cons, retE_some, iteE_some, evB_nil, evB_v, evB_l, lkE_cons, consE_some, d_int, d_bool, d_str, d_nil, o_add, o_sub, o_mul, o_and, o_or, o_xor, o_andNot, o_quo, o_rem, o_shl, o_shr, o_eql, o_neq, o_lss, o_leq, o_gtr, o_geq, o_seql, o_sneq, o_slss, o_sleq, o_sgtr, o_sgeq, o_beql, o_bneq, o_scat, o_not, o_neg, o_com, o_conv, o_s2b, o_b2s, o_len, o_slen, o_inb, o_idx, o_sidx, o_sub3, o_sub2, o_ssub3, o_ssub2, o_app, o_apps, o_mk, mkE_some, consD_some, mkD_zero, mkD_int, mkD_str, mkD_sl, o_imin, o_imax, o_smin, o_smax, o_eqs, eqsE_some, eqC_nil, andE_some, eqC_int, eqC_bool, eqC_str, j1, outE_some, outE_none, outE_ite, agE_1, loopE_1, agE_2, loopE_2, agE_3, loopE_3, agE_4, loopE_4, agE_5, loopE_5, agE_6, loopE_6, agE_7, loopE_7, agE_8, loopE_8, agE_9, loopE_9, List.cons_append, List.nil_append, List.append_nil, split, List.take_succ_cons, List.take_zero, List.drop_succ_cons, List.drop_zero, k129, resN]
  | some r =>
    have hr := allL_range 2 b r hb ha
    have hlen := allL_len 2 b r ha
    match r, hlen, hr, ha with
    | [u, v], _, hr, ha =>
      simp only [ha, resA, List.nil_append] at k129
      have hu := hr u (by simp)
      have hv := hr v (by simp)
      generalize allA 2 b = N at *
      have wl : IntKind.u64.wrap (last.length : Int) = last.length := wu64 _ (by omega) (by omega)
      have wN : IntKind.i64.wrap ((b.length : Int) - N) = b.length - N := wi64 _ (by omega) (by omega)
      by_cases c1 : (last.length : Int) < u
      · have hcond : ((last.length : Int) < u ∨ 64 < v ∨ (b.length : Int) - N < v + 1) := .inl c1
        simp only [if_pos hcond]
        simp [↓den_start, ↓deb_op, ↓deb_ret, ↓deb_jump, ↓deb_itev, ↓deb_itel, ↓deb_loop, ↓deb_fail, ↓deb_nilcv, nilE_some, opE_some, debP_nil, debP_cons, pushL_nil, pushL_cons, retE_some, iteE_some, evB_nil, evB_v, evB_l, lkE_cons, consE_some, d_int, d_bool, d_str, d_nil, o_add, o_sub, o_mul, o_and, o_or, o_xor, o_andNot, o_quo, o_rem, o_shl, o_shr, o_eql, o_neq, o_lss, o_leq, o_gtr, o_geq, o_seql, o_sneq, o_slss, o_sleq, o_sgtr, o_sgeq, o_beql, o_bneq, o_scat, o_not, o_neg, o_com, o_conv, o_s2b, o_b2s, o_len, o_slen, o_inb, o_idx, o_sidx, o_sub3, o_sub2, o_ssub3, o_ssub2, o_app, o_apps, o_mk, mkE_some, consD_some, mkD_zero, mkD_int, mkD_str, mkD_sl, o_imin, o_imax, o_smin, o_smax, o_eqs, eqsE_some, eqC_nil, andE_some, eqC_int, eqC_bool, eqC_str, j1, outE_some, outE_none, outE_ite, agE_1, loopE_1, agE_2, loopE_2, agE_3, loopE_3, agE_4, loopE_4, agE_5, loopE_5, agE_6, loopE_6, agE_7, loopE_7, agE_8, loopE_8, agE_9, loopE_9, List.cons_append, List.nil_append, List.append_nil, split, List.take_succ_cons, List.take_zero, List.drop_succ_cons, List.drop_zero, k129, resN, wl, c1]
      by_cases c2 : 64 < v
      · have hcond : ((last.length : Int) < u ∨ 64 < v ∨ (b.length : Int) - N < v + 1) := .inr (.inl c2)
        simp only [if_pos hcond]
        simp [↓den_start, ↓deb_op, ↓deb_ret, ↓deb_jump, ↓deb_itev, ↓deb_itel, ↓deb_loop, ↓deb_fail, ↓deb_nilcv, nilE_some, opE_some, debP_nil, debP_cons, pushL_nil, pushL_cons, retE_some, iteE_some, evB_nil, evB_v, evB_l, lkE_cons, consE_some, d_int, d_bool, d_str, d_nil, o_add, o_sub, o_mul, o_and, o_or, o_xor, o_andNot, o_quo, o_rem, o_shl, o_shr, o_eql, o_neq, o_lss, o_leq, o_gtr, o_geq, o_seql, o_sneq, o_slss, o_sleq, o_sgtr, o_sgeq, o_beql, o_bneq, o_scat, o_not, o_neg, o_com, o_conv, o_s2b, o_b2s, o_len, o_slen, o_inb, o_idx, o_sidx, o_sub3, o_sub2, o_ssub3, o_ssub2, o_app, o_apps, o_mk, mkE_some, consD_some, mkD_zero, mkD_int, mkD_str, mkD_sl, o_imin, o_imax, o_smin, o_smax, o_eqs, eqsE_some, eqC_nil, andE_some, eqC_int, eqC_bool, eqC_str, j1, outE_some, outE_none, outE_ite, agE_1, loopE_1, agE_2, loopE_2, agE_3, loopE_3, agE_4, loopE_4, agE_5, loopE_5, agE_6, loopE_6, agE_7, loopE_7, agE_8, loopE_8, agE_9, loopE_9, List.cons_append, List.nil_append, List.append_nil, split, List.take_succ_cons, List.take_zero, List.drop_succ_cons, List.drop_zero, k129, resN, wl, c1, c2]
      have wv : IntKind.i64.wrap v = v := wi64 _ (by omega) (by omega)
      have wu : IntKind.i64.wrap u = u := wi64 _ (by omega) (by omega)
      have wv1 : IntKind.i64.wrap (v + 1) = v + 1 := wi64 _ (by omega) (by omega)
      by_cases c3 : (b.length : Int) - N < v + 1
      · have hcond : ((last.length : Int) < u ∨ 64 < v ∨ (b.length : Int) - N < v + 1) := .inr (.inr c3)
        simp only [if_pos hcond]
        simp [↓den_start, ↓deb_op, ↓deb_ret, ↓deb_jump, ↓deb_itev, ↓deb_itel, ↓deb_loop, ↓deb_fail, ↓deb_nilcv, nilE_some, opE_some, debP_nil, debP_cons, pushL_nil, pushL_cons, retE_some, iteE_some, evB_nil, evB_v, evB_l, lkE_cons, consE_some, d_int, d_bool, d_str, d_nil, o_add, o_sub, o_mul, o_and, o_or, o_xor, o_andNot, o_quo, o_rem, o_shl, o_shr, o_eql, o_neq, o_lss, o_leq, o_gtr, o_geq, o_seql, o_sneq, o_slss, o_sleq, o_sgtr, o_sgeq, o_beql, o_bneq, o_scat, o_not, o_neg, o_com, o_conv, o_s2b, o_b2s, o_len, o_slen, o_inb, o_idx, o_sidx, o_sub3, o_sub2, o_ssub3, o_ssub2, o_app, o_apps, o_mk, mkE_some, consD_some, mkD_zero, mkD_int, mkD_str, mkD_sl, o_imin, o_imax, o_smin, o_smax, o_eqs, eqsE_some, eqC_nil, andE_some, eqC_int, eqC_bool, eqC_str, j1, outE_some, outE_none, outE_ite, agE_1, loopE_1, agE_2, loopE_2, agE_3, loopE_3, agE_4, loopE_4, agE_5, loopE_5, agE_6, loopE_6, agE_7, loopE_7, agE_8, loopE_8, agE_9, loopE_9, List.cons_append, List.nil_append, List.append_nil, split, List.take_succ_cons, List.take_zero, List.drop_succ_cons, List.drop_zero, k129, resN, wl, wN, wv, wv1, c1, c2, c3]
      have hcond : ¬ ((last.length : Int) < u ∨ 64 < v ∨ (b.length : Int) - N < v + 1) := by omega
      simp only [if_neg hcond]
      have hd : b.drop (N + v.toNat) = b[N + v.toNat]'(by omega) :: b.drop (N + v.toNat + 1) := List.drop_eq_getElem_cons (by omega)
      have hx : b[N + v.toNat]? = some (b[N + v.toNat]'(by omega)) := List.getElem?_eq_getElem (by omega)
      have hcb := hb (b[N + v.toNat]'(by omega)) (List.getElem_mem _)
      rw [hd]
      generalize b[N + v.toNat]'(by omega) = c at *
      have wNv : IntKind.i64.wrap ((N : Int) + v) = N + v := wi64 _ (by omega) (by omega)
      have wNv1 : IntKind.i64.wrap ((N : Int) + v + 1) = N + v + 1 := wi64 _ (by omega) (by omega)
      have t1 : ((N : Int) + v).toNat = N + v.toNat := by omega
      have t2 : ((N : Int) + v + 1).toNat = N + v.toNat + 1 := by omega
      have b1 : (0 : Int) ≤ u ∧ u ≤ last.length := by omega
      have b2 : (N : Int) ≤ N + v ∧ (N : Int) + v ≤ b.length := by omega
      have b3 : (0 : Int) ≤ (N : Int) + v ∧ (N : Int) + v < b.length := by omega
      have b4 : (0 : Int) ≤ (N : Int) + v + 1 ∧ (N : Int) + v + 1 ≤ b.length := by omega
      have hkey : (b.take (N + v.toNat)).drop N = (b.drop N).take v.toNat := by rw [List.drop_take]; congr 1; omega
      have B1 : u.toNat + min v.toNat (b.length - N) ≤ BIG := by simp only [BIG]; omega
      have k30 := h30 last (last.take u.toNat ++ (b.drop N).take v.toNat) (by omega)
      generalize hkeyd : last.take u.toNat ++ (b.drop N).take v.toNat = key at *
      by_cases c4 : 1 < c
      · simp only [if_pos (show (1 < c ∨ ¬ ((alike last key : Int) = u) ∨ ltL key last = true ∨ key = last) from .inl c4)]
        simp [↓den_start, ↓deb_op, ↓deb_ret, ↓deb_jump, ↓deb_itev, ↓deb_itel, ↓deb_loop, ↓deb_fail, ↓deb_nilcv, nilE_some, opE_some, debP_nil, debP_cons, pushL_nil, pushL_cons, retE_some, iteE_some, evB_nil, evB_v, evB_l, lkE_cons, consE_some, d_int, d_bool, d_str, d_nil, o_add, o_sub, o_mul, o_and, o_or, o_xor, o_andNot, o_quo, o_rem, o_shl, o_shr, o_eql, o_neq, o_lss, o_leq, o_gtr, o_geq, o_seql, o_sneq, o_slss, o_sleq, o_sgtr, o_sgeq, o_beql, o_bneq, o_scat, o_not, o_neg, o_com, o_conv, o_s2b, o_b2s, o_len, o_slen, o_inb, o_idx, o_sidx, o_sub3, o_sub2, o_ssub3, o_ssub2, o_app, o_apps, o_mk, mkE_some, consD_some, mkD_zero, mkD_int, mkD_str, mkD_sl, o_imin, o_imax, o_smin, o_smax, o_eqs, eqsE_some, eqC_nil, andE_some, eqC_int, eqC_bool, eqC_str, j1, outE_some, outE_none, outE_ite, agE_1, loopE_1, agE_2, loopE_2, agE_3, loopE_3, agE_4, loopE_4, agE_5, loopE_5, agE_6, loopE_6, agE_7, loopE_7, agE_8, loopE_8, agE_9, loopE_9, List.cons_append, List.nil_append, List.append_nil, split, List.take_succ_cons, List.take_zero, List.drop_succ_cons, List.drop_zero, k129, resN, wl, wN, wv, wu, wv1, wNv, t1, c1, c2, c3, b1, b2, b3, hkey, B1, hkeyd, hx, c4]
      by_cases c5 : ¬ (alike last key : Int) = u
      · simp only [if_pos (show (1 < c ∨ ¬ ((alike last key : Int) = u) ∨ ltL key last = true ∨ key = last) from .inr (.inl c5))]
        simp [↓den_start, ↓deb_op, ↓deb_ret, ↓deb_jump, ↓deb_itev, ↓deb_itel, ↓deb_loop, ↓deb_fail, ↓deb_nilcv, nilE_some, opE_some, debP_nil, debP_cons, pushL_nil, pushL_cons, retE_some, iteE_some, evB_nil, evB_v, evB_l, lkE_cons, consE_some, d_int, d_bool, d_str, d_nil, o_add, o_sub, o_mul, o_and, o_or, o_xor, o_andNot, o_quo, o_rem, o_shl, o_shr, o_eql, o_neq, o_lss, o_leq, o_gtr, o_geq, o_seql, o_sneq, o_slss, o_sleq, o_sgtr, o_sgeq, o_beql, o_bneq, o_scat, o_not, o_neg, o_com, o_conv, o_s2b, o_b2s, o_len, o_slen, o_inb, o_idx, o_sidx, o_sub3, o_sub2, o_ssub3, o_ssub2, o_app, o_apps, o_mk, mkE_some, consD_some, mkD_zero, mkD_int, mkD_str, mkD_sl, o_imin, o_imax, o_smin, o_smax, o_eqs, eqsE_some, eqC_nil, andE_some, eqC_int, eqC_bool, eqC_str, j1, outE_some, outE_none, outE_ite, agE_1, loopE_1, agE_2, loopE_2, agE_3, loopE_3, agE_4, loopE_4, agE_5, loopE_5, agE_6, loopE_6, agE_7, loopE_7, agE_8, loopE_8, agE_9, loopE_9, List.cons_append, List.nil_append, List.append_nil, split, List.take_succ_cons, List.take_zero, List.drop_succ_cons, List.drop_zero, k129, resN, wl, wN, wv, wu, wv1, wNv, t1, c1, c2, c3, b1, b2, b3, hkey, B1, hkeyd, hx, c4, k30, c5]
      have c5 : (alike last key : Int) = u := Decidable.not_not.1 c5
      by_cases c6 : ltL key last = true ∨ key = last
      · simp only [if_pos (show (1 < c ∨ ¬ ((alike last key : Int) = u) ∨ ltL key last = true ∨ key = last) from .inr (.inr c6))]
        simp [↓den_start, ↓deb_op, ↓deb_ret, ↓deb_jump, ↓deb_itev, ↓deb_itel, ↓deb_loop, ↓deb_fail, ↓deb_nilcv, nilE_some, opE_some, debP_nil, debP_cons, pushL_nil, pushL_cons, retE_some, iteE_some, evB_nil, evB_v, evB_l, lkE_cons, consE_some, d_int, d_bool, d_str, d_nil, o_add, o_sub, o_mul, o_and, o_or, o_xor, o_andNot, o_quo, o_rem, o_shl, o_shr, o_eql, o_neq, o_lss, o_leq, o_gtr, o_geq, o_seql, o_sneq, o_slss, o_sleq, o_sgtr, o_sgeq, o_beql, o_bneq, o_scat, o_not, o_neg, o_com, o_conv, o_s2b, o_b2s, o_len, o_slen, o_inb, o_idx, o_sidx, o_sub3, o_sub2, o_ssub3, o_ssub2, o_app, o_apps, o_mk, mkE_some, consD_some, mkD_zero, mkD_int, mkD_str, mkD_sl, o_imin, o_imax, o_smin, o_smax, o_eqs, eqsE_some, eqC_nil, andE_some, eqC_int, eqC_bool, eqC_str, j1, outE_some, outE_none, outE_ite, agE_1, loopE_1, agE_2, loopE_2, agE_3, loopE_3, agE_4, loopE_4, agE_5, loopE_5, agE_6, loopE_6, agE_7, loopE_7, agE_8, loopE_8, agE_9, loopE_9, List.cons_append, List.nil_append, List.append_nil, split, List.take_succ_cons, List.take_zero, List.drop_succ_cons, List.drop_zero, k129, resN, wl, wN, wv, wu, wv1, wNv, t1, c1, c2, c3, b1, b2, b3, hkey, B1, hkeyd, hx, c4, k30, c5, c6]
      simp only [if_neg (show ¬ (1 < c ∨ ¬ ((alike last key : Int) = u) ∨ ltL key last = true ∨ key = last) from by rintro (h | h | h); exact c4 h; exact h c5; exact c6 h)]
      by_cases c7 : c = 1
      · simp only [if_pos c7]
        subst c7
        simp [↓den_start, ↓deb_op, ↓deb_ret, ↓deb_jump, ↓deb_itev, ↓deb_itel, ↓deb_loop, ↓deb_fail, ↓deb_nilcv, nilE_some, opE_some, debP_nil, debP_cons, pushL_nil, pushL_cons, retE_some, iteE_some, evB_nil, evB_v, evB_l, lkE_cons, consE_some, d_int, d_bool, d_str, d_nil, o_add, o_sub, o_mul, o_and, o_or, o_xor, o_andNot, o_quo, o_rem, o_shl, o_shr, o_eql, o_neq, o_lss, o_leq, o_gtr, o_geq, o_seql, o_sneq, o_slss, o_sleq, o_sgtr, o_sgeq, o_beql, o_bneq, o_scat, o_not, o_neg, o_com, o_conv, o_s2b, o_b2s, o_len, o_slen, o_inb, o_idx, o_sidx, o_sub3, o_sub2, o_ssub3, o_ssub2, o_app, o_apps, o_mk, mkE_some, consD_some, mkD_zero, mkD_int, mkD_str, mkD_sl, o_imin, o_imax, o_smin, o_smax, o_eqs, eqsE_some, eqC_nil, andE_some, eqC_int, eqC_bool, eqC_str, j1, outE_some, outE_none, outE_ite, agE_1, loopE_1, agE_2, loopE_2, agE_3, loopE_3, agE_4, loopE_4, agE_5, loopE_5, agE_6, loopE_6, agE_7, loopE_7, agE_8, loopE_8, agE_9, loopE_9, List.cons_append, List.nil_append, List.append_nil, split, List.take_succ_cons, List.take_zero, List.drop_succ_cons, List.drop_zero, k129, resN, wl, wN, wv, wu, wv1, wNv, wNv1, t1, t2, c1, c2, c3, b1, b2, b3, b4, hkey, B1, hkeyd, hx, k30, c5, c6]
      · simp only [if_neg c7]
        have hbr : ∀ c ∈ b.drop (N + v.toNat + 1), 0 ≤ c ∧ c < 256 := fun c hc => hb c (List.mem_of_mem_drop hc)
        have k43 := h43 (b.drop (N + v.toNat + 1)) hbr (by rw [List.length_drop]; omega)
        have hle43 := fun f y s a n m k => getC_le hbr (f := f) (b := y) (s := s) (a := a) (n := n) (m := m) (k := k)
        have hlr : (b.drop (N + v.toNat + 1)).length = b.length - (N + v.toNat + 1) := List.length_drop
        cases hg : getC (b.drop (N + v.toNat + 1)) with
        | none =>
          simp only [hg, resCe] at k43
          simp [↓den_start, ↓deb_op, ↓deb_ret, ↓deb_jump, ↓deb_itev, ↓deb_itel, ↓deb_loop, ↓deb_fail, ↓deb_nilcv, nilE_some, opE_some, debP_nil, debP_cons, pushL_nil, pushL_cons, retE_some, iteE_some, evB_nil, evB_v, evB_l, lkE_cons, consE_some, d_int, d_bool, d_str, d_nil, o_add, o_sub, o_mul, o_and, o_or, o_xor, o_andNot, o_quo, o_rem, o_shl, o_shr, o_eql, o_neq, o_lss, o_leq, o_gtr, o_geq, o_seql, o_sneq, o_slss, o_sleq, o_sgtr, o_sgeq, o_beql, o_bneq, o_scat, o_not, o_neg, o_com, o_conv, o_s2b, o_b2s, o_len, o_slen, o_inb, o_idx, o_sidx, o_sub3, o_sub2, o_ssub3, o_ssub2, o_app, o_apps, o_mk, mkE_some, consD_some, mkD_zero, mkD_int, mkD_str, mkD_sl, o_imin, o_imax, o_smin, o_smax, o_eqs, eqsE_some, eqC_nil, andE_some, eqC_int, eqC_bool, eqC_str, j1, outE_some, outE_none, outE_ite, agE_1, loopE_1, agE_2, loopE_2, agE_3, loopE_3, agE_4, loopE_4, agE_5, loopE_5, agE_6, loopE_6, agE_7, loopE_7, agE_8, loopE_8, agE_9, loopE_9, List.cons_append, List.nil_append, List.append_nil, split, List.take_succ_cons, List.take_zero, List.drop_succ_cons, List.drop_zero, k129, resN, wl, wN, wv, wu, wv1, wNv, wNv1, t1, t2, c1, c2, c3, c4, c7, b1, b2, b3, b4, hkey, B1, hkeyd, hx, k30, c5, c6, k43]
        | some y =>
          obtain ⟨f, y, s, a, n, m, k⟩ := y
          have hk43 := hle43 f y s a n m k hg
          rw [hlr] at hk43
          simp only [hg, resCe] at k43
          have b5 : (k : Int) ≤ ((b.length - (N + v.toNat + 1) : Nat) : Int) := by omega
          simp [↓den_start, ↓deb_op, ↓deb_ret, ↓deb_jump, ↓deb_itev, ↓deb_itel, ↓deb_loop, ↓deb_fail, ↓deb_nilcv, nilE_some, opE_some, debP_nil, debP_cons, pushL_nil, pushL_cons, retE_some, iteE_some, evB_nil, evB_v, evB_l, lkE_cons, consE_some, d_int, d_bool, d_str, d_nil, o_add, o_sub, o_mul, o_and, o_or, o_xor, o_andNot, o_quo, o_rem, o_shl, o_shr, o_eql, o_neq, o_lss, o_leq, o_gtr, o_geq, o_seql, o_sneq, o_slss, o_sleq, o_sgtr, o_sgeq, o_beql, o_bneq, o_scat, o_not, o_neg, o_com, o_conv, o_s2b, o_b2s, o_len, o_slen, o_inb, o_idx, o_sidx, o_sub3, o_sub2, o_ssub3, o_ssub2, o_app, o_apps, o_mk, mkE_some, consD_some, mkD_zero, mkD_int, mkD_str, mkD_sl, o_imin, o_imax, o_smin, o_smax, o_eqs, eqsE_some, eqC_nil, andE_some, eqC_int, eqC_bool, eqC_str, j1, outE_some, outE_none, outE_ite, agE_1, loopE_1, agE_2, loopE_2, agE_3, loopE_3, agE_4, loopE_4, agE_5, loopE_5, agE_6, loopE_6, agE_7, loopE_7, agE_8, loopE_8, agE_9, loopE_9, List.cons_append, List.nil_append, List.append_nil, split, List.take_succ_cons, List.take_zero, List.drop_succ_cons, List.drop_zero, k129, resN, wl, wN, wv, wu, wv1, wNv, wNv1, t1, t2, c1, c2, c3, c4, c7, b1, b2, b3, b4, b5, hk43, hkey, B1, hkeyd, hx, k30, c5, c6, k43]
theorem s97 {lc : List Ct} (hl0 : look (lc.map fun c => (c.sig.id, c)) 97 = some c97) : ∀ (b last : List Int) (hb : ∀ c ∈ b, 0 ≤ c ∧ c < 256) (hl : b.length < 10000000000) (hk : last.length ≤ 1000), Does1 (Phi lc) 97 [⟨.sl (.int .u8), b⟩, ⟨.str, last⟩] (resN (nextI last b)) :=
  fun b last hb hl hk => Does1.of hl0 (f97 b last hb hl hk) (by unfold resN; split <;> rfl)
end Go.Proofs.Ytdjknicjnaiomaa.Sx

/- Blocks read back from bytes. -/
namespace Go.Proofs.Ytdjknicjnaiomaa.Sx

def items : Nat → List Int → List Int → Option (List It × List Int)
  | 0, _, b => some ([], b)
  | n + 1, last, b => match nextI last b with
    | some (x, r) => if itErr x = 0 then (match items n x.1 r with
      | some (xs, r') => some (x :: xs, r')
      | none => none) else none
    | none => none
def blkGet (b : List Int) : Option (List It) := if gvN b = 0 ∨ gvV b < 1 ∨ 256 < gvV b then none else
  match items (gvV b).toNat [] (b.drop (gvN b)) with
  | some (l, []) => some l
  | _ => none
def resB : Option (List It) → List D
  | some l => [⟨.sl ItT, l⟩, ⟨.int .i64, 0⟩]
  | none => [⟨.sl ItT, ([] : List It)⟩, ⟨.int .i64, 2⟩]
def fin47 (o : Option (List It × List Int)) (l : List It) : List D := match o with
  | some (xs, []) => [⟨.sl ItT, l ++ xs⟩, ⟨.int .i64, 0⟩]
  | _ => [⟨.sl ItT, ([] : List It)⟩, ⟨.int .i64, 2⟩]

theorem next_sub {last b : List Int} {x : It} {r : List Int} (h : nextI last b = some (x, r)) : (∀ c ∈ r, c ∈ b) ∧ r.length ≤ b.length := by
  unfold nextI at h
  split at h
  · split at h
    · cases h
    · split at h
      · rename_i c r' hd
        have hsub : ∀ d ∈ c :: r', d ∈ b := by rw [← hd]; exact fun d h => List.mem_of_mem_drop h
        have hmem : ∀ c ∈ r', c ∈ b := fun d hd' => hsub d (List.mem_cons_of_mem _ hd')
        have hlen : r'.length ≤ b.length := by
          have := congrArg List.length hd
          rw [List.length_drop, List.length_cons] at this
          omega
        split at h
        · cases h
        · split at h
          · simp only [Option.some.injEq, Prod.mk.injEq] at h
            obtain ⟨_, rfl⟩ := h
            exact ⟨hmem, hlen⟩
          · split at h
            · simp only [Option.some.injEq, Prod.mk.injEq] at h
              obtain ⟨_, rfl⟩ := h
              exact ⟨fun c hc => hmem c (List.mem_of_mem_drop hc), by rw [List.length_drop]; omega⟩
            · cases h
      · cases h
  · cases h

theorem f47 (b : List Int) (hb : ∀ c ∈ b, 0 ≤ c ∧ c < 256) (hl : b.length < 10000000000) : F47 [⟨.sl (.int .u8), b⟩] = some (resB (blkGet b)) := by
  have h90 := s90 (lc := [c90, c97, c98]) rfl
  have h97 := s97 (lc := [c90, c97, c98]) rfl
  have h98 := s98 (lc := [c90, c97, c98]) rfl
  simp only [F47, Fof, ir47]
  generalize Phi [c90, c97, c98] = Φ at *
  have k90 := h90 b hb
  have hr := gv_range hb
  unfold blkGet
  by_cases c1 : gvN b = 0
  · rw [if_pos c1] at k90
    rw [if_pos (.inl c1)]
    simp [↓den_start, ↓deb_op, ↓deb_ret, ↓deb_jump, ↓deb_itev, ↓deb_itel, ↓deb_loop, ↓deb_fail, ↓deb_nilcv, nilE_some, opE_some, debP_nil, debP_cons, pushL_nil, pushL_cons, retE_some, iteE_some, evB_nil, evB_v, evB_l, lkE_cons, consE_some, d_int, d_bool, d_str, d_nil, o_add, o_sub, o_mul, o_and, o_or, o_xor, o_andNot, o_quo, o_rem, o_shl, o_shr, o_eql, o_neq, o_lss, o_leq, o_gtr, o_geq, o_seql, o_sneq, o_slss, o_sleq, o_sgtr, o_sgeq, o_beql, o_bneq, o_scat, o_not, o_neg, o_com, o_conv, o_s2b, o_b2s, o_len, o_slen, o_inb, o_idx, o_sidx, o_sub3, o_sub2, o_ssub3, o_ssub2, o_app, o_apps, o_mk, mkE_some, consD_some, mkD_zero, mkD_int, mkD_str, mkD_sl, o_imin, o_imax, o_smin, o_smax, o_eqs, eqsE_some, eqC_nil, andE_some, eqC_int, eqC_bool, eqC_str, j1, outE_some, outE_none, outE_ite, agE_1, loopE_1, agE_2, loopE_2, agE_3, loopE_3, agE_4, loopE_4, agE_5, loopE_5, agE_6, loopE_6, agE_7, loopE_7, agE_8, loopE_8, agE_9, loopE_9, List.cons_append, List.nil_append, List.append_nil, split, List.take_succ_cons, List.take_zero, List.drop_succ_cons, List.drop_zero, k90, resB]
  rw [if_neg c1] at k90
  by_cases c2 : gvV b < 1
  · rw [if_pos (.inr (.inl c2))]
    simp [↓den_start, ↓deb_op, ↓deb_ret, ↓deb_jump, ↓deb_itev, ↓deb_itel, ↓deb_loop, ↓deb_fail, ↓deb_nilcv, nilE_some, opE_some, debP_nil, debP_cons, pushL_nil, pushL_cons, retE_some, iteE_some, evB_nil, evB_v, evB_l, lkE_cons, consE_some, d_int, d_bool, d_str, d_nil, o_add, o_sub, o_mul, o_and, o_or, o_xor, o_andNot, o_quo, o_rem, o_shl, o_shr, o_eql, o_neq, o_lss, o_leq, o_gtr, o_geq, o_seql, o_sneq, o_slss, o_sleq, o_sgtr, o_sgeq, o_beql, o_bneq, o_scat, o_not, o_neg, o_com, o_conv, o_s2b, o_b2s, o_len, o_slen, o_inb, o_idx, o_sidx, o_sub3, o_sub2, o_ssub3, o_ssub2, o_app, o_apps, o_mk, mkE_some, consD_some, mkD_zero, mkD_int, mkD_str, mkD_sl, o_imin, o_imax, o_smin, o_smax, o_eqs, eqsE_some, eqC_nil, andE_some, eqC_int, eqC_bool, eqC_str, j1, outE_some, outE_none, outE_ite, agE_1, loopE_1, agE_2, loopE_2, agE_3, loopE_3, agE_4, loopE_4, agE_5, loopE_5, agE_6, loopE_6, agE_7, loopE_7, agE_8, loopE_8, agE_9, loopE_9, List.cons_append, List.nil_append, List.append_nil, split, List.take_succ_cons, List.take_zero, List.drop_succ_cons, List.drop_zero, k90, resB, c2]
  by_cases c3 : 256 < gvV b
  · rw [if_pos (.inr (.inr c3))]
    simp [↓den_start, ↓deb_op, ↓deb_ret, ↓deb_jump, ↓deb_itev, ↓deb_itel, ↓deb_loop, ↓deb_fail, ↓deb_nilcv, nilE_some, opE_some, debP_nil, debP_cons, pushL_nil, pushL_cons, retE_some, iteE_some, evB_nil, evB_v, evB_l, lkE_cons, consE_some, d_int, d_bool, d_str, d_nil, o_add, o_sub, o_mul, o_and, o_or, o_xor, o_andNot, o_quo, o_rem, o_shl, o_shr, o_eql, o_neq, o_lss, o_leq, o_gtr, o_geq, o_seql, o_sneq, o_slss, o_sleq, o_sgtr, o_sgeq, o_beql, o_bneq, o_scat, o_not, o_neg, o_com, o_conv, o_s2b, o_b2s, o_len, o_slen, o_inb, o_idx, o_sidx, o_sub3, o_sub2, o_ssub3, o_ssub2, o_app, o_apps, o_mk, mkE_some, consD_some, mkD_zero, mkD_int, mkD_str, mkD_sl, o_imin, o_imax, o_smin, o_smax, o_eqs, eqsE_some, eqC_nil, andE_some, eqC_int, eqC_bool, eqC_str, j1, outE_some, outE_none, outE_ite, agE_1, loopE_1, agE_2, loopE_2, agE_3, loopE_3, agE_4, loopE_4, agE_5, loopE_5, agE_6, loopE_6, agE_7, loopE_7, agE_8, loopE_8, agE_9, loopE_9, List.cons_append, List.nil_append, List.append_nil, split, List.take_succ_cons, List.take_zero, List.drop_succ_cons, List.drop_zero, k90, resB, c2, c3]
  rw [if_neg (by rintro (h | h | h); exact c1 h; exact c2 h; exact c3 h)]
  have b1 : (gvN b : Int) ≤ b.length := by omega
  have hfin : resB (match items (gvV b).toNat [] (b.drop (gvN b)) with | some (l, []) => some l | _ => none) = fin47 (items (gvV b).toNat [] (b.drop (gvN b))) [] := by
    unfold fin47 resB
    split <;> rename_i h <;> split at h <;> simp_all
  rw [hfin]
  generalize hgN : gvN b = g at *
  generalize gvV b = n at *
  simp [↓den_start, ↓deb_op, ↓deb_ret, ↓deb_jump, ↓deb_itev, ↓deb_itel, ↓deb_loop, ↓deb_fail, ↓deb_nilcv, nilE_some, opE_some, debP_nil, debP_cons, pushL_nil, pushL_cons, retE_some, iteE_some, evB_nil, evB_v, evB_l, lkE_cons, consE_some, d_int, d_bool, d_str, d_nil, o_add, o_sub, o_mul, o_and, o_or, o_xor, o_andNot, o_quo, o_rem, o_shl, o_shr, o_eql, o_neq, o_lss, o_leq, o_gtr, o_geq, o_seql, o_sneq, o_slss, o_sleq, o_sgtr, o_sgeq, o_beql, o_bneq, o_scat, o_not, o_neg, o_com, o_conv, o_s2b, o_b2s, o_len, o_slen, o_inb, o_idx, o_sidx, o_sub3, o_sub2, o_ssub3, o_ssub2, o_app, o_apps, o_mk, mkE_some, consD_some, mkD_zero, mkD_int, mkD_str, mkD_sl, o_imin, o_imax, o_smin, o_smax, o_eqs, eqsE_some, eqC_nil, andE_some, eqC_int, eqC_bool, eqC_str, j1, outE_some, outE_none, outE_ite, agE_1, loopE_1, agE_2, loopE_2, agE_3, loopE_3, agE_4, loopE_4, agE_5, loopE_5, agE_6, loopE_6, agE_7, loopE_7, agE_8, loopE_8, agE_9, loopE_9, List.cons_append, List.nil_append, List.append_nil, split, List.take_succ_cons, List.take_zero, List.drop_succ_cons, List.drop_zero, k90, c2, c3, b1, hr]
  have hn : 0 ≤ n ∧ n ≤ 256 := by omega
  refine (iter_meas (fun s : List Int × List It × List Int × Int => (n - s.2.2.2).toNat) (fun s => fin47 (items (n - s.2.2.2).toNat s.2.2.1 s.1) s.2.1)
    (fun s => (∀ c ∈ s.1, 0 ≤ c ∧ c < 256) ∧ s.1.length < 10000000000 ∧ s.2.2.1.length ≤ 64 ∧ 0 ≤ s.2.2.2 ∧ s.2.2.2 ≤ n ∧ s.2.1.length ≤ s.2.2.2.toNat)
    (by exact ⟨fun c hc => hb c (List.mem_of_mem_drop hc), by simp only [List.length_drop]; omega, by simp, by simp, by simp; omega, by simp⟩) ?_).trans (by simp)
  rintro ⟨b0, l0, last, i⟩ ⟨i1, i2, i3, i4, i5, i6⟩
  simp only at i1 i2 i3 i4 i5 i6 ⊢
  by_cases hi : i < n
  · have k97 := h97 b0 last i1 i2 (by omega)
    rw [show (n - i).toNat = (n - (i + 1)).toNat + 1 by omega]
    have wi : IntKind.u64.wrap (i + 1) = i + 1 := wu64 _ (by omega) (by omega)
    simp only [items]
    cases hx : nextI last b0 with
    | none =>
      simp only [hx, resN] at k97
      refine .inr ?_
      simp [↓den_start, ↓deb_op, ↓deb_ret, ↓deb_jump, ↓deb_itev, ↓deb_itel, ↓deb_loop, ↓deb_fail, ↓deb_nilcv, nilE_some, opE_some, debP_nil, debP_cons, pushL_nil, pushL_cons, retE_some, iteE_some, evB_nil, evB_v, evB_l, lkE_cons, consE_some, d_int, d_bool, d_str, d_nil, o_add, o_sub, o_mul, o_and, o_or, o_xor, o_andNot, o_quo, o_rem, o_shl, o_shr, o_eql, o_neq, o_lss, o_leq, o_gtr, o_geq, o_seql, o_sneq, o_slss, o_sleq, o_sgtr, o_sgeq, o_beql, o_bneq, o_scat, o_not, o_neg, o_com, o_conv, o_s2b, o_b2s, o_len, o_slen, o_inb, o_idx, o_sidx, o_sub3, o_sub2, o_ssub3, o_ssub2, o_app, o_apps, o_mk, mkE_some, consD_some, mkD_zero, mkD_int, mkD_str, mkD_sl, o_imin, o_imax, o_smin, o_smax, o_eqs, eqsE_some, eqC_nil, andE_some, eqC_int, eqC_bool, eqC_str, j1, outE_some, outE_none, outE_ite, agE_1, loopE_1, agE_2, loopE_2, agE_3, loopE_3, agE_4, loopE_4, agE_5, loopE_5, agE_6, loopE_6, agE_7, loopE_7, agE_8, loopE_8, agE_9, loopE_9, List.cons_append, List.nil_append, List.append_nil, split, List.take_succ_cons, List.take_zero, List.drop_succ_cons, List.drop_zero, hi, k97, fin47]
    | some y =>
      obtain ⟨⟨k, d, f, y, s, a, m, w⟩, r⟩ := y
      obtain ⟨n1, n2⟩ := next_sub hx
      simp only [hx, resN] at k97
      have k98 := h98 k d f y s a m w
      have hmk : mkD ItT 1 [⟨.str, k⟩, ⟨.bool, d⟩, ⟨.bool, f⟩, ⟨.sl (.int .u8), y⟩, ⟨.int .i64, s⟩, ⟨.int .i64, a⟩, ⟨.int .i64, m⟩, ⟨.int .u32, w⟩] = some ⟨.sl ItT, [(k, d, f, y, s, a, m, w)]⟩ := rfl
      by_cases hz : iErr k d f y s a m w = 0
      · have hbig : l0.length + 1 ≤ BIG := by simp only [BIG]; omega
        have hk := (iErr_ok hz).2.1
        refine .inl ⟨(r, l0 ++ [(k, d, f, y, s, a, m, w)], k, i + 1), ?_, ⟨fun c hc => i1 c (n1 c hc), by simp only; omega, by simp only; omega, by simp only; omega, by simp only; omega, by simp; omega⟩, by simp only; omega, ?_⟩
        · simp [↓den_start, ↓deb_op, ↓deb_ret, ↓deb_jump, ↓deb_itev, ↓deb_itel, ↓deb_loop, ↓deb_fail, ↓deb_nilcv, nilE_some, opE_some, debP_nil, debP_cons, pushL_nil, pushL_cons, retE_some, iteE_some, evB_nil, evB_v, evB_l, lkE_cons, consE_some, d_int, d_bool, d_str, d_nil, o_add, o_sub, o_mul, o_and, o_or, o_xor, o_andNot, o_quo, o_rem, o_shl, o_shr, o_eql, o_neq, o_lss, o_leq, o_gtr, o_geq, o_seql, o_sneq, o_slss, o_sleq, o_sgtr, o_sgeq, o_beql, o_bneq, o_scat, o_not, o_neg, o_com, o_conv, o_s2b, o_b2s, o_len, o_slen, o_inb, o_idx, o_sidx, o_sub3, o_sub2, o_ssub3, o_ssub2, o_app, o_apps, o_mk, mkE_some, consD_some, mkD_zero, mkD_int, mkD_str, mkD_sl, o_imin, o_imax, o_smin, o_smax, o_eqs, eqsE_some, eqC_nil, andE_some, eqC_int, eqC_bool, eqC_str, j1, outE_some, outE_none, outE_ite, agE_1, loopE_1, agE_2, loopE_2, agE_3, loopE_3, agE_4, loopE_4, agE_5, loopE_5, agE_6, loopE_6, agE_7, loopE_7, agE_8, loopE_8, agE_9, loopE_9, List.cons_append, List.nil_append, List.append_nil, split, List.take_succ_cons, List.take_zero, List.drop_succ_cons, List.drop_zero, hi, k97, k98, hz, hmk, hbig, wi]
        · simp only [itErr, hz, if_true]
          cases items (n - (i + 1)).toNat k r with
          | none => rfl
          | some z =>
            obtain ⟨xs, r'⟩ := z
            cases r' <;> simp [fin47]
      · refine .inr ?_
        simp only [itErr, if_neg hz]
        simp [↓den_start, ↓deb_op, ↓deb_ret, ↓deb_jump, ↓deb_itev, ↓deb_itel, ↓deb_loop, ↓deb_fail, ↓deb_nilcv, nilE_some, opE_some, debP_nil, debP_cons, pushL_nil, pushL_cons, retE_some, iteE_some, evB_nil, evB_v, evB_l, lkE_cons, consE_some, d_int, d_bool, d_str, d_nil, o_add, o_sub, o_mul, o_and, o_or, o_xor, o_andNot, o_quo, o_rem, o_shl, o_shr, o_eql, o_neq, o_lss, o_leq, o_gtr, o_geq, o_seql, o_sneq, o_slss, o_sleq, o_sgtr, o_sgeq, o_beql, o_bneq, o_scat, o_not, o_neg, o_com, o_conv, o_s2b, o_b2s, o_len, o_slen, o_inb, o_idx, o_sidx, o_sub3, o_sub2, o_ssub3, o_ssub2, o_app, o_apps, o_mk, mkE_some, consD_some, mkD_zero, mkD_int, mkD_str, mkD_sl, o_imin, o_imax, o_smin, o_smax, o_eqs, eqsE_some, eqC_nil, andE_some, eqC_int, eqC_bool, eqC_str, j1, outE_some, outE_none, outE_ite, agE_1, loopE_1, agE_2, loopE_2, agE_3, loopE_3, agE_4, loopE_4, agE_5, loopE_5, agE_6, loopE_6, agE_7, loopE_7, agE_8, loopE_8, agE_9, loopE_9, List.cons_append, List.nil_append, List.append_nil, split, List.take_succ_cons, List.take_zero, List.drop_succ_cons, List.drop_zero, hi, k97, k98, hz, fin47]
  · refine .inr ?_
    rw [if_neg hi, show (n - i).toNat = 0 by omega]
    simp only [items]
    cases b0 <;> simp [fin47]
theorem s47 {lc : List Ct} (hl0 : look (lc.map fun c => (c.sig.id, c)) 47 = some c47) : ∀ (b : List Int) (hb : ∀ c ∈ b, 0 ≤ c ∧ c < 256) (hl : b.length < 10000000000), Does1 (Phi lc) 47 [⟨.sl (.int .u8), b⟩] (resB (blkGet b)) :=
  fun b hb hl => Does1.of hl0 (f47 b hb hl) (by unfold resB; split <;> rfl)
end Go.Proofs.Ytdjknicjnaiomaa.Sx

/- What is read was put so: the inverse of reading. -/
namespace Go.Proofs.Ytdjknicjnaiomaa.Sx

theorem gv_inv {b : List Int} (hb : ∀ c ∈ b, 0 ≤ c ∧ c < 256) (h : gvN b ≠ 0) : b.take (gvN b) = one (gvV b).toNat ∧ gvN b = (one (gvV b).toNat).length := by
  cases hg : getv b with
  | none => exact absurd (gv_none hg).2 h
  | some y =>
    obtain ⟨v, n⟩ := y
    obtain ⟨h1, h2⟩ := gv_some hg
    obtain ⟨k1, k2, k3, _⟩ := getv_inv hb hg
    rw [h1, h2, Int.toNat_natCast]
    exact ⟨k2, k3⟩

theorem allL_inv : ∀ (n : Nat) (b r : List Int), (∀ c ∈ b, 0 ≤ c ∧ c < 256) → allL n b = some r → b.take (allA n b) = putL r
  | 0, b, r, _, h => by simp only [allL, Option.some.injEq] at h; subst h; simp [allA, putL]
  | n + 1, b, r, hb, h => by
    simp only [allL] at h
    split at h
    · cases h
    · rename_i hz
      split at h
      · rename_i r' h'
        simp only [Option.some.injEq] at h
        subst h
        have ih := allL_inv n _ r' (fun c hc => hb c (List.mem_of_mem_drop hc)) h'
        simp only [allA, if_neg hz]
        rw [List.take_add, (gv_inv hb hz).1, ih, putL_cons]
      · cases h

theorem sum4_sumv {p q r t : Int} (hp : 0 ≤ p ∧ p < 256) (hq : 0 ≤ q ∧ q < 256) (hr : 0 ≤ r ∧ r < 256) (ht : 0 ≤ t ∧ t < 256) : sum4 (p + q * 256 + r * 65536 + t * 16777216) = [p, q, r, t] := by
  have e1 : (p + q * 256 + r * 65536 + t * 16777216) % 256 = p := by omega
  have e2 : (p + q * 256 + r * 65536 + t * 16777216) / 256 % 256 = q := by omega
  have e3 : (p + q * 256 + r * 65536 + t * 16777216) / 65536 % 256 = r := by omega
  have e4 : (p + q * 256 + r * 65536 + t * 16777216) / 16777216 % 256 = t := by omega
  simp only [sum4, e1, e2, e3, e4]

theorem getP_inv {x : List Int} (hb : ∀ c ∈ x, 0 ≤ c ∧ c < 256) {s a n m : Int} {k : Nat} (h : getP x = some (s, a, n, m, k)) :
    pOk s a n = true ∧ x.take k = putL [s, a, n] ++ sum4 m ∧ 0 ≤ m ∧ m < 4294967296 := by
  unfold getP at h
  split at h
  · rename_i s' a' n' ha
    split at h
    · rename_i hc
      simp only [Option.some.injEq, Prod.mk.injEq] at h
      obtain ⟨rfl, rfl, rfl, rfl, rfl⟩ := h
      obtain ⟨p, q, r, t, w, hd⟩ := four (l := x.drop (allA 3 x)) (by rw [List.length_drop]; omega)
      have hbd : ∀ c ∈ x.drop (allA 3 x), 0 ≤ c ∧ c < 256 := fun c hc => hb c (List.mem_of_mem_drop hc)
      have hinv := allL_inv 3 x _ hb ha
      rw [hd] at hbd
      have hp0 := hbd p (by simp); have hq0 := hbd q (by simp); have hr0 := hbd r (by simp); have ht0 := hbd t (by simp)
      rw [List.take_add, hinv, hd]
      refine ⟨hc.2, ?_, ?_, ?_⟩
      · simp only [sumv]
        rw [sum4_sumv hp0 hq0 hr0 ht0]; rfl
      · simp only [sumv]; omega
      · simp only [sumv]; omega
    · cases h
  · cases h

theorem getC_inv {x : List Int} (hb : ∀ c ∈ x, 0 ≤ c ∧ c < 256) {f : Bool} {b : List Int} {s a n m : Int} {k : Nat} (h : getC x = some (f, b, s, a, n, m, k)) :
    cErr f b s a n m = 0 ∧ x.take k = putC f b s a n m ∧ 0 ≤ m ∧ m < 4294967296 := by
  unfold getC at h
  split at h
  · cases h
  · rename_i c t
    have hbt : ∀ d ∈ t, 0 ≤ d ∧ d < 256 := fun d hd => hb d (by simp [hd])
    have hc0 := hb c (by simp)
    split at h
    · cases h
    · split at h
      · rename_i hc1
        split at h
        · rename_i s' a' n' m' k' hp
          simp only [Option.some.injEq, Cl, Prod.mk.injEq] at h
          obtain ⟨rfl, rfl, rfl, rfl, rfl, rfl, rfl⟩ := h
          obtain ⟨q1, q2, q3, q4⟩ := getP_inv hbt hp
          subst hc1
          refine ⟨by simp [cErr, q1], ?_, q3, q4⟩
          simp only [List.take_succ_cons, q2, putC, if_true]
        · cases h
      · split at h
        · cases h
        · rename_i hc1 hcond
          simp only [Option.some.injEq, Cl, Prod.mk.injEq] at h
          obtain ⟨rfl, rfl, rfl, rfl, rfl, rfl, rfl⟩ := h
          have hz : gvN t ≠ 0 := by omega
          have hr := gv_range hbt
          obtain ⟨g1, g2⟩ := gv_inv hbt hz
          have hc00 : c = 0 := by omega
          have hl : ((t.drop (gvN t)).take (gvV t).toNat).length = (gvV t).toNat := by rw [List.length_take, List.length_drop]; omega
          refine ⟨?_, ?_, by omega, by omega⟩
          · simp only [cErr, Bool.false_eq_true, if_false, hl]
            rw [if_neg (by omega)]
          · simp only [putC, Bool.false_eq_true, if_false, hl]
            rw [show 1 + gvN t + (gvV t).toNat = gvN t + (gvV t).toNat + 1 by omega, List.take_succ_cons, List.take_add, g1, hc00]
end Go.Proofs.Ytdjknicjnaiomaa.Sx

/- What is read of a block was put so. -/
namespace Go.Proofs.Ytdjknicjnaiomaa.Sx

theorem ltL_total : ∀ (x y : List Int), ltL x y = false → x ≠ y → ltL y x = true
  | [], [], _, h => absurd rfl h
  | [], _ :: _, h, _ => by simp [ltL] at h
  | _ :: _, [], _, _ => by simp [ltL]
  | a :: x, b :: y, h, hne => by
    simp only [ltL, Bool.or_eq_false_iff, decide_eq_false_iff_not, Bool.and_eq_false_iff] at h
    simp only [ltL, Bool.or_eq_true, decide_eq_true_eq, Bool.and_eq_true]
    by_cases hab : a = b
    · subst hab
      rcases h.2 with h2 | h2
      · exact absurd rfl h2
      · exact .inr ⟨rfl, ltL_total x y h2 (fun e => hne (by rw [e]))⟩
    · exact .inl (by omega)

theorem nextI_inv {last b : List Int} (hb : ∀ c ∈ b, 0 ≤ c ∧ c < 256) {x : It} {r : List Int} (h : nextI last b = some (x, r)) :
    b = encI last x ++ r ∧ ltL last x.1 = true ∧ 0 ≤ x.2.2.2.2.2.2.2 ∧ x.2.2.2.2.2.2.2 < 4294967296 := by
  unfold nextI at h
  split at h
  · rename_i u v ha
    have hr := allL_range 2 b _ hb ha
    have hu := hr u (by simp)
    have hv := hr v (by simp)
    have hinv := allL_inv 2 b _ hb ha
    split at h
    · cases h
    · rename_i hcond
      generalize allA 2 b = N at *
      split at h
      · rename_i c r' hd
        have hsub : ∀ d ∈ c :: r', d ∈ b := by rw [← hd]; exact fun d h => List.mem_of_mem_drop h
        have hc0 := hb c (hsub c (by simp))
        have hbr : ∀ d ∈ r', 0 ≤ d ∧ d < 256 := fun d hd' => hb d (hsub d (List.mem_cons_of_mem _ hd'))
        have hb3 : b = putL [u, v] ++ ((b.drop N).take v.toNat ++ c :: r') := by
          rw [← hinv, ← hd, ← List.drop_drop, List.take_append_drop, List.take_append_drop]
        have hmid : ((b.drop N).take v.toNat).length = v.toNat := by rw [List.length_take, List.length_drop]; omega
        have hpre : (last.take u.toNat).length = u.toNat := by rw [List.length_take]; omega
        have hkd : (last.take u.toNat ++ (b.drop N).take v.toNat).drop u.toNat = (b.drop N).take v.toNat := List.drop_left' hpre
        have hkl : (last.take u.toNat ++ (b.drop N).take v.toNat).length = u.toNat + v.toNat := by rw [List.length_append, hpre, hmid]
        generalize last.take u.toNat ++ (b.drop N).take v.toNat = key at *
        generalize (b.drop N).take v.toNat = mid at *
        split at h
        · cases h
        · rename_i hn
          have c5 : (alike last key : Int) = u := Decidable.not_not.1 (fun e => hn (.inr (.inl e)))
          have c6 : ltL key last = false := by cases hq : ltL key last; rfl; exact absurd (.inr (.inr (.inl hq))) hn
          have c7 : key ≠ last := fun e => hn (.inr (.inr (.inr e)))
          have hlt := ltL_total key last c6 c7
          have hal : alike last key = u.toNat := by omega
          have hP : putL [(alike last key : Int), (key.length : Int) - alike last key] = putL [u, v] := by
            rw [hkl, hal]
            congr 2
            · omega
            · congr 1; omega
          rw [hal] at hP
          split at h
          · rename_i hc1
            simp only [Option.some.injEq, Prod.mk.injEq] at h
            obtain ⟨rfl, rfl⟩ := h
            refine ⟨?_, hlt, by simp, by simp⟩
            simp only [encI, hP, hal, hkd, if_true]
            rw [hb3, hc1]; simp
          · rename_i hc1
            split at h
            · rename_i f y s a n m k hg
              simp only [Option.some.injEq, Prod.mk.injEq] at h
              obtain ⟨rfl, rfl⟩ := h
              obtain ⟨g1, g2, g3, g4⟩ := getC_inv hbr hg
              refine ⟨?_, hlt, g3, g4⟩
              simp only [encI, hP, hal, hkd, Bool.false_eq_true, if_false, ← g2]
              have hc00 : c = 0 := by omega
              rw [hb3, hc00]; simp
            · cases h
      · cases h
  · cases h

theorem items_inv : ∀ (n : Nat) (last b : List Int) (l : List It) (r : List Int), (∀ c ∈ b, 0 ≤ c ∧ c < 256) → items n last b = some (l, r) →
    b = encL last l ++ r ∧ l.length = n ∧ srt (some last) l = true ∧ ∀ x ∈ l, 0 ≤ x.2.2.2.2.2.2.2 ∧ x.2.2.2.2.2.2.2 < 4294967296
  | 0, last, b, l, r, _, h => by
    simp only [items, Option.some.injEq, Prod.mk.injEq] at h
    obtain ⟨rfl, rfl⟩ := h
    exact ⟨by simp [encL], rfl, rfl, fun x hx => by cases hx⟩
  | n + 1, last, b, l, r, hb, h => by
    simp only [items] at h
    split at h
    · rename_i x r1 hx
      split at h
      · rename_i hz
        split at h
        · rename_i xs r2 hi
          simp only [Option.some.injEq, Prod.mk.injEq] at h
          obtain ⟨rfl, rfl⟩ := h
          obtain ⟨k1, k2, k3⟩ := nextI_inv hb hx
          have hsub := (next_sub hx).1
          obtain ⟨j1, j2, j3, j4⟩ := items_inv n x.1 r1 xs r2 (fun c hc => hb c (hsub c hc)) hi
          refine ⟨?_, by simp [j2], ?_, ?_⟩
          · rw [encL, List.append_assoc, ← j1, ← k1]
          · simp only [srt, hz, decide_true, k2, j3, Bool.and_self]
          · intro y hy
            rcases List.mem_cons.1 hy with rfl | hy
            · exact k3
            · exact j4 y hy
        · cases h
      · cases h
    · cases h

theorem srt_none {p : List Int} {l : List It} (h : srt (some p) l = true) : srt none l = true := by
  cases l with
  | nil => rfl
  | cons x r =>
    simp only [srt, Bool.and_eq_true] at h ⊢
    exact ⟨⟨h.1.1, trivial⟩, h.2⟩

theorem blkGet_inv {b : List Int} (hb : ∀ c ∈ b, 0 ≤ c ∧ c < 256) {l : List It} (h : blkGet b = some l) :
    b = putL [(l.length : Int)] ++ encL [] l ∧ 1 ≤ l.length ∧ l.length ≤ 256 ∧ srt none l = true ∧ ∀ x ∈ l, 0 ≤ x.2.2.2.2.2.2.2 ∧ x.2.2.2.2.2.2.2 < 4294967296 := by
  unfold blkGet at h
  split at h
  · cases h
  · rename_i hc
    split at h
    · rename_i l' hi
      simp only [Option.some.injEq] at h
      subst h
      have hz : gvN b ≠ 0 := fun e => hc (.inl e)
      have hr := gv_range hb
      obtain ⟨g1, g2⟩ := gv_inv hb hz
      obtain ⟨j1, j2, j3, j4⟩ := items_inv _ _ _ _ _ (fun c hc => hb c (List.mem_of_mem_drop hc)) hi
      refine ⟨?_, by omega, by omega, srt_none j3, j4⟩
      rw [List.append_nil] at j1
      rw [← j1, show (l'.length : Int) = gvV b by omega]
      have e : putL [gvV b] = one (gvV b).toNat := by simp [putL]
      rw [e, ← g1, List.take_append_drop]
    · cases h
end Go.Proofs.Ytdjknicjnaiomaa.Sx

/- What was put of a block is read. -/
namespace Go.Proofs.Ytdjknicjnaiomaa.Sx

theorem ltL_asymm : ∀ (x y : List Int), ltL x y = true → ltL y x = false ∧ y ≠ x
  | x, [], h => by cases x <;> simp [ltL] at h
  | [], b :: y, h => by simp [ltL]
  | a :: x, b :: y, h => by
    simp only [ltL, Bool.or_eq_true, decide_eq_true_eq, Bool.and_eq_true] at h
    simp only [ltL, Bool.or_eq_false_iff, decide_eq_false_iff_not, Bool.and_eq_false_iff]
    rcases h with h | ⟨h1, h2⟩
    · exact ⟨⟨by omega, .inl (by omega)⟩, fun e => by simp only [List.cons.injEq] at e; omega⟩
    · obtain ⟨k1, k2⟩ := ltL_asymm x y h2
      exact ⟨⟨by omega, .inr k1⟩, fun e => by simp only [List.cons.injEq] at e; exact k2 e.2⟩

theorem alike_take : ∀ (x y : List Int), x.take (alike x y) = y.take (alike x y)
  | [], y => by simp [alike]
  | _ :: _, [] => by simp [alike]
  | a :: x, b :: y => by
    simp only [alike]
    split
    · rename_i h; rw [List.take_succ_cons, List.take_succ_cons, alike_take x y, h]
    · simp

theorem all2 (s a : Int) (r : List Int) (hs : 0 ≤ s ∧ s < 18446744073709551616) (ha : 0 ≤ a ∧ a < 18446744073709551616) :
    allL 2 (putL [s, a] ++ r) = some [s, a] ∧ allA 2 (putL [s, a] ++ r) = (putL [s, a]).length := by
  have e : putL [s, a] ++ r = one s.toNat ++ (one a.toNat ++ r) := by simp [putL]
  have p1 := one_pos s.toNat; have p2 := one_pos a.toNat
  obtain ⟨v1, n1⟩ := gv_one s.toNat (one a.toNat ++ r) (by omega)
  obtain ⟨v2, n2⟩ := gv_one a.toNat r (by omega)
  rw [e]
  simp only [allL, allA, v1, n1, List.drop_left, v2, n2]
  rw [if_neg (by omega), if_neg (by omega), if_neg (by omega), if_neg (by omega)]
  refine ⟨?_, by simp [putL]⟩
  simp only
  congr 2
  · omega
  · congr 1; omega

theorem nextI_enc {last : List Int} {x : It} {r : List Int} (hx : itErr x = 0) (hlt : ltL last x.1 = true) (hm : 0 ≤ x.2.2.2.2.2.2.2 ∧ x.2.2.2.2.2.2.2 < 4294967296) : nextI last (encI last x ++ r) = some (x, r) := by
  obtain ⟨k, d, f, b, s, a, n, m⟩ := x
  simp only [itErr] at hx
  obtain ⟨q1, q2, q3⟩ := iErr_ok hx
  obtain ⟨a1, a2⟩ := alike_le last k
  obtain ⟨t1, t2⟩ := ltL_asymm _ _ hlt
  simp only at hlt hm t1 t2
  have htk := alike_take last k
  simp only [encI]
  generalize hA : alike last k = A at *
  generalize hR : (if d = true then [1] else 0 :: putC f b s a n m) ++ r = R
  have hR' : putL [(A : Int), (k.length : Int) - A] ++ (k.drop A ++ (if d = true then [1] else 0 :: putC f b s a n m)) ++ r = putL [(A : Int), (k.length : Int) - A] ++ (k.drop A ++ R) := by rw [← hR]; simp only [List.append_assoc]
  rw [hR']
  obtain ⟨e1, e2⟩ := all2 (A : Int) ((k.length : Int) - A) (k.drop A ++ R) (by omega) (by omega)
  have hkl : (k.drop A).length = ((k.length : Int) - A).toNat := by rw [List.length_drop]; omega
  have hRne : 1 ≤ R.length := by rw [← hR]; cases d <;> simp
  unfold nextI
  simp only [e1, e2]
  rw [if_neg (by simp only [List.length_append, hkl]; omega)]
  have d1 : (putL [(A : Int), (k.length : Int) - A] ++ (k.drop A ++ R)).drop ((putL [(A : Int), (k.length : Int) - A]).length + ((k.length : Int) - A).toNat) = R := by
    rw [← List.drop_drop, List.drop_left, ← hkl, List.drop_left]
  have d2 : ((putL [(A : Int), (k.length : Int) - A] ++ (k.drop A ++ R)).drop (putL [(A : Int), (k.length : Int) - A]).length).take ((k.length : Int) - A).toNat = k.drop A := by
    rw [List.drop_left, ← hkl, List.take_left]
  have hkey : last.take (A : Int).toNat ++ k.drop A = k := by
    rw [Int.toNat_natCast, htk, List.take_append_drop]
  rw [d1, d2, hkey, hA]
  cases d
  · simp only [Bool.false_eq_true, if_false, List.cons_append] at hR
    subst hR
    have hg := getC_putC f b s a n m r q3 hm.1 hm.2
    simp only [t1, t2, hg]
    simp
  · simp only [if_true, List.cons_append, List.nil_append] at hR
    subst hR
    have hz : f = false ∧ b = [] ∧ s = 0 ∧ a = 0 ∧ n = 0 ∧ m = 0 := by
      unfold iErr at hx
      split at hx
      · cases hx
      · rename_i hn
        exact Decidable.not_not.1 (fun h => hn (.inr (.inr ⟨rfl, h⟩)))
    obtain ⟨rfl, rfl, rfl, rfl, rfl, rfl⟩ := hz
    simp [t1, t2]

theorem items_enc : ∀ (l : List It) (last r : List Int), srt (some last) l = true → (∀ x ∈ l, 0 ≤ x.2.2.2.2.2.2.2 ∧ x.2.2.2.2.2.2.2 < 4294967296) → items l.length last (encL last l ++ r) = some (l, r)
  | [], last, r, _, _ => by simp [items, encL]
  | x :: l, last, r, h, hm => by
    simp only [srt, Bool.and_eq_true, decide_eq_true_eq] at h
    obtain ⟨⟨h1, h2⟩, h3⟩ := h
    have hn := nextI_enc (last := last) (x := x) (r := encL x.1 l ++ r) h1 h2 (hm x (by simp))
    have ih := items_enc l x.1 r h3 (fun y hy => hm y (by simp [hy]))
    simp only [List.length_cons, items, encL, List.append_assoc, hn, if_pos h1, ih]

theorem srt_some {l : List It} (h : srt none l = true) : srt (some []) l = true := by
  cases l with
  | nil => rfl
  | cons x r =>
    simp only [srt, Bool.and_eq_true, decide_eq_true_eq] at h ⊢
    obtain ⟨k, d, f, b, s, a, n, m⟩ := x
    have h1 : itErr (k, d, f, b, s, a, n, m) = 0 := h.1.1
    simp only [itErr] at h1
    have hk := (iErr_ok h1).1
    refine ⟨⟨h.1.1, ?_⟩, h.2⟩
    cases k with
    | nil => simp at hk
    | cons => simp [ltL]

theorem blkGet_enc {l : List It} (h1 : 1 ≤ l.length) (h2 : l.length ≤ 256) (h : srt none l = true) (hm : ∀ x ∈ l, 0 ≤ x.2.2.2.2.2.2.2 ∧ x.2.2.2.2.2.2.2 < 4294967296) :
    blkGet (putL [(l.length : Int)] ++ encL [] l) = some l := by
  have e : putL [(l.length : Int)] = one l.length := by simp [putL]
  have p := one_pos l.length
  obtain ⟨v1, n1⟩ := gv_one l.length (encL [] l) (by omega)
  have hi := items_enc l [] [] (srt_some h) hm
  rw [List.append_nil] at hi
  rw [e]
  unfold blkGet
  rw [v1, n1, if_neg (by omega), List.drop_left, Int.toNat_natCast, hi]
end Go.Proofs.Ytdjknicjnaiomaa.Sx
