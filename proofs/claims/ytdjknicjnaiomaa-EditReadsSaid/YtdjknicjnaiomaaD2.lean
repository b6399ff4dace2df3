/-
  More functions: sums of bytes, and numbers read back from bytes.
-/
import Derived.Test.YtdjknicjnaiomaaD1
set_option linter.unusedVariables false
set_option linter.unusedSimpArgs false
/- The texts of the functions that the other cell laws reach. -/
namespace Go.Proofs.Ytdjknicjnaiomaa.Sx
def sig72 : Sig := { id := 72, ins := [(false, (Ty.int .u8).sl)], outs := [(false, [((Ty.int .u8).sl, some 5)])] }
def ir72 : IR := .nilc (.v 0) (.ret [.l (.nil (Ty.int .u8))]) (.op (.mk (Ty.int .u8) 0) [] (.op .app [.v 1, .v 0] (.ret [.v 2])))
def sig23 : Sig := { id := 23, ins := [(false, (Ty.int .u8).sl), (false, Ty.int .i64)], outs := [(true, [(Ty.bool, none), ((Ty.int .u8).sl, some 5), (Ty.int .i64, none), (Ty.int .i64, none), (Ty.int .i64, none), (Ty.int .u32, none)]), (false, [(Ty.bool, none)])] }
def ir23 : IR := .op .len [.v 0] (.op (.icmp .gtr) [.v 2, .v 1] (.ite (.v 3) (.ret [.l (.bool false), .l (.nil (Ty.int .u8)), .l (.int .i64 0), .l (.int .i64 0), .l (.int .i64 0), .l (.int .u32 0), .l (.bool false)]) (.op .len [.v 0] (.op (.icmp .gtr) [.v 4, .l (.int .i64 32)] (.ite (.v 5) (.ret [.l (.bool false), .l (.nil (Ty.int .u8)), .l (.int .i64 0), .l (.int .i64 0), .l (.int .i64 0), .l (.int .u32 0), .l (.bool false)]) (.op (.call 72) [.v 0] (.ret [.l (.bool false), .v 6, .l (.int .i64 0), .l (.int .i64 0), .l (.int .i64 0), .l (.int .u32 0), .l (.bool true)])))))))
def sig122 : Sig := { id := 122, ins := [(false, Ty.int .u32), (false, (Ty.int .u8).sl)], outs := [(false, [(Ty.int .u32, none)])] }
def ir122 : IR := .op (.com .u32) [.v 0] (.op .len [.v 1] (.loop [.v 2, .l (.int .i64 0)] [Ty.int .u32, Ty.int .i64] (.op (.icmp .lss) [.v 5, .v 3] (.ite (.v 6) (.op .inb [.v 1, .v 5] (.op (.idx (Ty.int .u8)) [.v 1, .v 5] (.op (.conv .u32) [.v 7] (.op (.ibin .xor .u32) [.v 4, .v 8] (.loop [.v 9, .l (.int .i64 0)] [Ty.int .u32, Ty.int .i64] (.op (.icmp .lss) [.v 11, .l (.int .i64 8)] (.ite (.v 12) (.op (.ibin .and .u32) [.v 10, .l (.int .u32 1)] (.op (.ibin .shr .u32) [.v 10, .l (.int .u64 1)] (.op (.neg .u32) [.v 13] (.op (.ibin .and .u32) [.l (.int .u32 2197175160), .v 15] (.op (.ibin .xor .u32) [.v 14, .v 16] (.op (.ibin .add .i64) [.v 11, .l (.int .i64 1)] (.jump 1 [.v 17, .v 18]))))))) (.op (.ibin .add .i64) [.v 5, .l (.int .i64 1)] (.jump 0 [.v 10, .v 13]))))))))) (.op (.com .u32) [.v 4] (.ret [.v 7]))))))
def sig73 : Sig := { id := 73, ins := [(false, (Ty.int .u8).sl)], outs := [(false, [(Ty.int .u32, none)])] }
def ir73 : IR := .op (.call 122) [.l (.int .u32 0), .v 0] (.ret [.v 1])
def sig24 : Sig := { id := 24, ins := [(true, (Ty.int .i64).pair ((Ty.int .i64).pair ((Ty.int .i64).pair (Ty.int .u32)))), (false, (Ty.int .u8).sl)], outs := [(false, [(Ty.bool, none)])] }
def ir24 : IR := .op .len [.v 4] (.op (.icmp .eql) [.v 2, .v 5] (.ite (.v 6) (.op (.call 73) [.v 4] (.op (.icmp .eql) [.v 3, .v 7] (.ret [.v 8]))) (.ret [.l (.bool false)])))
def sig143 : Sig := { id := 143, ins := [(false, Ty.int .u32), (false, Ty.int .i64)], outs := [(false, [(Ty.int .i64, none)])] }
def ir143 : IR := .loop [.v 0, .l (.int .i64 0)] [Ty.int .u32, Ty.int .i64] (.op (.icmp .lss) [.v 3, .v 1] (.ite (.v 4) (.op (.ibin .quo .u32) [.v 2, .l (.int .u32 2)] (.op (.ibin .add .i64) [.v 3, .l (.int .i64 1)] (.jump 0 [.v 5, .v 6]))) (.op (.ibin .rem .u32) [.v 2, .l (.int .u32 2)] (.op (.conv .i64) [.v 5] (.ret [.v 6])))))
def sig142 : Sig := { id := 142, ins := [(false, Ty.int .u32), (false, Ty.int .i64)], outs := [(false, [(Ty.int .u32, none)])] }
def ir142 : IR := .op (.call 143) [.v 0, .l (.int .i64 0)] (.op (.icmp .neq) [.v 2, .v 1] (.ite (.v 3) (.op (.ibin .quo .u32) [.v 0, .l (.int .u32 2)] (.op (.ibin .xor .u32) [.v 4, .l (.int .u32 2197175160)] (.ret [.v 5]))) (.op (.ibin .quo .u32) [.v 0, .l (.int .u32 2)] (.ret [.v 4]))))
def sig123 : Sig := { id := 123, ins := [(false, Ty.int .u32), (false, (Ty.int .u8).sl)], outs := [(false, [(Ty.int .u32, none)])] }
def ir123 : IR := .loop [.v 0, .l (.int .i64 0)] [Ty.int .u32, Ty.int .i64] (.op .len [.v 1] (.op (.icmp .lss) [.v 3, .v 4] (.ite (.v 5) (.loop [.v 2, .l (.int .i64 0)] [Ty.int .u32, Ty.int .i64] (.op (.icmp .lss) [.v 7, .l (.int .i64 8)] (.ite (.v 8) (.op .inb [.v 1, .v 3] (.op (.idx (Ty.int .u8)) [.v 1, .v 3] (.op (.conv .u32) [.v 9] (.op (.call 143) [.v 10, .v 7] (.op (.call 142) [.v 6, .v 11] (.op (.ibin .add .i64) [.v 7, .l (.int .i64 1)] (.jump 1 [.v 12, .v 13]))))))) (.op (.ibin .add .i64) [.v 3, .l (.int .i64 1)] (.jump 0 [.v 6, .v 9]))))) (.ret [.v 2]))))
def sig74 : Sig := { id := 74, ins := [(false, (Ty.int .u8).sl)], outs := [(false, [(Ty.int .u32, none)])] }
def ir74 : IR := .op (.call 123) [.l (.int .u32 4294967295), .v 0] (.op (.ibin .xor .u32) [.l (.int .u32 4294967295), .v 1] (.ret [.v 2]))
def sig25 : Sig := { id := 25, ins := [(true, (Ty.int .i64).pair ((Ty.int .i64).pair ((Ty.int .i64).pair (Ty.int .u32)))), (false, (Ty.int .u8).sl)], outs := [(false, [(Ty.bool, none)])] }
def ir25 : IR := .op .len [.v 4] (.op (.icmp .eql) [.v 2, .v 5] (.ite (.v 6) (.op (.call 74) [.v 4] (.op (.icmp .eql) [.v 3, .v 7] (.ret [.v 8]))) (.ret [.l (.bool false)])))
def sig26 : Sig := { id := 26, ins := [(false, Ty.int .i64), (false, Ty.int .i64), (false, (Ty.int .u8).sl)], outs := [(true, [(Ty.bool, none), ((Ty.int .u8).sl, some 5), (Ty.int .i64, none), (Ty.int .i64, none), (Ty.int .i64, none), (Ty.int .u32, none)]), (false, [(Ty.int .i64, none)])] }
def ir26 : IR := .op .len [.v 2] (.op (.call 73) [.v 2] (.op (.call 20) [.l (.bool true), .l (.nil (Ty.int .u8)), .v 0, .v 1, .v 3, .v 4] (.op (.icmp .neq) [.v 5, .l (.int .i64 0)] (.ite (.v 6) (.ret [.l (.bool false), .l (.nil (Ty.int .u8)), .l (.int .i64 0), .l (.int .i64 0), .l (.int .i64 0), .l (.int .u32 0), .v 5]) (.ret [.l (.bool true), .l (.nil (Ty.int .u8)), .v 0, .v 1, .v 3, .v 4, .l (.int .i64 0)])))))
def sig4 : Sig := { id := 4, ins := [(false, (Ty.int .u8).sl), (true, (Ty.int .i64).pair ((Ty.int .i64).pair ((Ty.int .i64).pair (Ty.int .u32)))), (false, Ty.int .i64)], outs := [(false, [(Ty.bool, none)])] }
def ir4 : IR := .op .len [.v 0] (.op (.icmp .gtr) [.v 6, .l (.int .i64 5000)] (.ite (.v 7) (.op (.call 15) [] (.ret [.v 8])) (.op (.mk (Ty.int .u8) 0) [] (.op .app [.v 8, .v 0] (.op (.call 23) [.v 9, .v 5] (.op .len [.v 0] (.op (.icmp .leq) [.v 17, .v 5] (.ite (.v 18) (.op .len [.v 0] (.op (.icmp .leq) [.v 19, .l (.int .i64 32)] (.op (.bcmp .neq) [.v 16, .v 20] (.ite (.v 21) (.ret [.l (.bool false)]) (.ite (.v 16) (.op (.call 18) [.v 10, .v 11, .v 12, .v 13, .v 14, .v 15, .l (.bool false), .v 0, .l (.int .i64 0), .l (.int .i64 0), .l (.int .i64 0), .l (.int .u32 0)] (.op .not [.v 22] (.ite (.v 23) (.ret [.l (.bool false)]) (.op .not [.v 16] (.ite (.v 24) (.op (.call 18) [.v 10, .v 11, .v 12, .v 13, .v 14, .v 15, .l (.bool false), .l (.nil (Ty.int .u8)), .l (.int .i64 0), .l (.int .i64 0), .l (.int .i64 0), .l (.int .u32 0)] (.op .not [.v 25] (.ite (.v 26) (.ret [.l (.bool false)]) (.op (.call 24) [.v 1, .v 2, .v 3, .v 4, .v 0] (.op (.call 25) [.v 1, .v 2, .v 3, .v 4, .v 0] (.op (.bcmp .neq) [.v 27, .v 28] (.ite (.v 29) (.ret [.l (.bool false)]) (.op (.call 26) [.v 1, .v 2, .v 0] (.op .len [.v 0] (.op (.call 27) [.v 1, .v 2, .v 37, .l (.int .u32 0)] (.op .not [.v 38] (.ite (.v 39) (.op (.icmp .eql) [.v 36, .l (.int .i64 1)] (.ite (.v 40) (.op (.call 18) [.v 30, .v 31, .v 32, .v 33, .v 34, .v 35, .l (.bool false), .l (.nil (Ty.int .u8)), .l (.int .i64 0), .l (.int .i64 0), .l (.int .i64 0), .l (.int .u32 0)] (.ite (.v 41) (.op (.call 15) [] (.ret [.v 42])) (.ret [.l (.bool false)]))) (.ret [.l (.bool false)]))) (.op (.icmp .eql) [.v 36, .l (.int .i64 0)] (.ite (.v 40) (.ite (.v 30) (.op (.icmp .eql) [.v 32, .v 1] (.ite (.v 41) (.op (.icmp .eql) [.v 33, .v 2] (.ite (.v 42) (.op (.call 25) [.v 32, .v 33, .v 34, .v 35, .v 0] (.ite (.v 43) (.op (.call 24) [.v 32, .v 33, .v 34, .v 35, .v 0] (.ite (.v 44) (.op (.call 15) [] (.ret [.v 45])) (.ret [.l (.bool false)]))) (.ret [.l (.bool false)]))) (.ret [.l (.bool false)]))) (.ret [.l (.bool false)]))) (.ret [.l (.bool false)])) (.ret [.l (.bool false)]))))))))))))))) (.op (.call 24) [.v 1, .v 2, .v 3, .v 4, .v 0] (.op (.call 25) [.v 1, .v 2, .v 3, .v 4, .v 0] (.op (.bcmp .neq) [.v 25, .v 26] (.ite (.v 27) (.ret [.l (.bool false)]) (.op (.call 26) [.v 1, .v 2, .v 0] (.op .len [.v 0] (.op (.call 27) [.v 1, .v 2, .v 35, .l (.int .u32 0)] (.op .not [.v 36] (.ite (.v 37) (.op (.icmp .eql) [.v 34, .l (.int .i64 1)] (.ite (.v 38) (.op (.call 18) [.v 28, .v 29, .v 30, .v 31, .v 32, .v 33, .l (.bool false), .l (.nil (Ty.int .u8)), .l (.int .i64 0), .l (.int .i64 0), .l (.int .i64 0), .l (.int .u32 0)] (.ite (.v 39) (.op (.call 15) [] (.ret [.v 40])) (.ret [.l (.bool false)]))) (.ret [.l (.bool false)]))) (.op (.icmp .eql) [.v 34, .l (.int .i64 0)] (.ite (.v 38) (.ite (.v 28) (.op (.icmp .eql) [.v 30, .v 1] (.ite (.v 39) (.op (.icmp .eql) [.v 31, .v 2] (.ite (.v 40) (.op (.call 25) [.v 30, .v 31, .v 32, .v 33, .v 0] (.ite (.v 41) (.op (.call 24) [.v 30, .v 31, .v 32, .v 33, .v 0] (.ite (.v 42) (.op (.call 15) [] (.ret [.v 43])) (.ret [.l (.bool false)]))) (.ret [.l (.bool false)]))) (.ret [.l (.bool false)]))) (.ret [.l (.bool false)]))) (.ret [.l (.bool false)])) (.ret [.l (.bool false)]))))))))))))))))) (.op .not [.v 16] (.ite (.v 22) (.op (.call 18) [.v 10, .v 11, .v 12, .v 13, .v 14, .v 15, .l (.bool false), .l (.nil (Ty.int .u8)), .l (.int .i64 0), .l (.int .i64 0), .l (.int .i64 0), .l (.int .u32 0)] (.op .not [.v 23] (.ite (.v 24) (.ret [.l (.bool false)]) (.op (.call 24) [.v 1, .v 2, .v 3, .v 4, .v 0] (.op (.call 25) [.v 1, .v 2, .v 3, .v 4, .v 0] (.op (.bcmp .neq) [.v 25, .v 26] (.ite (.v 27) (.ret [.l (.bool false)]) (.op (.call 26) [.v 1, .v 2, .v 0] (.op .len [.v 0] (.op (.call 27) [.v 1, .v 2, .v 35, .l (.int .u32 0)] (.op .not [.v 36] (.ite (.v 37) (.op (.icmp .eql) [.v 34, .l (.int .i64 1)] (.ite (.v 38) (.op (.call 18) [.v 28, .v 29, .v 30, .v 31, .v 32, .v 33, .l (.bool false), .l (.nil (Ty.int .u8)), .l (.int .i64 0), .l (.int .i64 0), .l (.int .i64 0), .l (.int .u32 0)] (.ite (.v 39) (.op (.call 15) [] (.ret [.v 40])) (.ret [.l (.bool false)]))) (.ret [.l (.bool false)]))) (.op (.icmp .eql) [.v 34, .l (.int .i64 0)] (.ite (.v 38) (.ite (.v 28) (.op (.icmp .eql) [.v 30, .v 1] (.ite (.v 39) (.op (.icmp .eql) [.v 31, .v 2] (.ite (.v 40) (.op (.call 25) [.v 30, .v 31, .v 32, .v 33, .v 0] (.ite (.v 41) (.op (.call 24) [.v 30, .v 31, .v 32, .v 33, .v 0] (.ite (.v 42) (.op (.call 15) [] (.ret [.v 43])) (.ret [.l (.bool false)]))) (.ret [.l (.bool false)]))) (.ret [.l (.bool false)]))) (.ret [.l (.bool false)]))) (.ret [.l (.bool false)])) (.ret [.l (.bool false)]))))))))))))))) (.op (.call 24) [.v 1, .v 2, .v 3, .v 4, .v 0] (.op (.call 25) [.v 1, .v 2, .v 3, .v 4, .v 0] (.op (.bcmp .neq) [.v 23, .v 24] (.ite (.v 25) (.ret [.l (.bool false)]) (.op (.call 26) [.v 1, .v 2, .v 0] (.op .len [.v 0] (.op (.call 27) [.v 1, .v 2, .v 33, .l (.int .u32 0)] (.op .not [.v 34] (.ite (.v 35) (.op (.icmp .eql) [.v 32, .l (.int .i64 1)] (.ite (.v 36) (.op (.call 18) [.v 26, .v 27, .v 28, .v 29, .v 30, .v 31, .l (.bool false), .l (.nil (Ty.int .u8)), .l (.int .i64 0), .l (.int .i64 0), .l (.int .i64 0), .l (.int .u32 0)] (.ite (.v 37) (.op (.call 15) [] (.ret [.v 38])) (.ret [.l (.bool false)]))) (.ret [.l (.bool false)]))) (.op (.icmp .eql) [.v 32, .l (.int .i64 0)] (.ite (.v 36) (.ite (.v 26) (.op (.icmp .eql) [.v 28, .v 1] (.ite (.v 37) (.op (.icmp .eql) [.v 29, .v 2] (.ite (.v 38) (.op (.call 25) [.v 28, .v 29, .v 30, .v 31, .v 0] (.ite (.v 39) (.op (.call 24) [.v 28, .v 29, .v 30, .v 31, .v 0] (.ite (.v 40) (.op (.call 15) [] (.ret [.v 41])) (.ret [.l (.bool false)]))) (.ret [.l (.bool false)]))) (.ret [.l (.bool false)]))) (.ret [.l (.bool false)]))) (.ret [.l (.bool false)])) (.ret [.l (.bool false)]))))))))))))))))))) (.op (.bcmp .neq) [.v 16, .l (.bool false)] (.ite (.v 19) (.ret [.l (.bool false)]) (.ite (.v 16) (.op (.call 18) [.v 10, .v 11, .v 12, .v 13, .v 14, .v 15, .l (.bool false), .v 0, .l (.int .i64 0), .l (.int .i64 0), .l (.int .i64 0), .l (.int .u32 0)] (.op .not [.v 20] (.ite (.v 21) (.ret [.l (.bool false)]) (.op .not [.v 16] (.ite (.v 22) (.op (.call 18) [.v 10, .v 11, .v 12, .v 13, .v 14, .v 15, .l (.bool false), .l (.nil (Ty.int .u8)), .l (.int .i64 0), .l (.int .i64 0), .l (.int .i64 0), .l (.int .u32 0)] (.op .not [.v 23] (.ite (.v 24) (.ret [.l (.bool false)]) (.op (.call 24) [.v 1, .v 2, .v 3, .v 4, .v 0] (.op (.call 25) [.v 1, .v 2, .v 3, .v 4, .v 0] (.op (.bcmp .neq) [.v 25, .v 26] (.ite (.v 27) (.ret [.l (.bool false)]) (.op (.call 26) [.v 1, .v 2, .v 0] (.op .len [.v 0] (.op (.call 27) [.v 1, .v 2, .v 35, .l (.int .u32 0)] (.op .not [.v 36] (.ite (.v 37) (.op (.icmp .eql) [.v 34, .l (.int .i64 1)] (.ite (.v 38) (.op (.call 18) [.v 28, .v 29, .v 30, .v 31, .v 32, .v 33, .l (.bool false), .l (.nil (Ty.int .u8)), .l (.int .i64 0), .l (.int .i64 0), .l (.int .i64 0), .l (.int .u32 0)] (.ite (.v 39) (.op (.call 15) [] (.ret [.v 40])) (.ret [.l (.bool false)]))) (.ret [.l (.bool false)]))) (.op (.icmp .eql) [.v 34, .l (.int .i64 0)] (.ite (.v 38) (.ite (.v 28) (.op (.icmp .eql) [.v 30, .v 1] (.ite (.v 39) (.op (.icmp .eql) [.v 31, .v 2] (.ite (.v 40) (.op (.call 25) [.v 30, .v 31, .v 32, .v 33, .v 0] (.ite (.v 41) (.op (.call 24) [.v 30, .v 31, .v 32, .v 33, .v 0] (.ite (.v 42) (.op (.call 15) [] (.ret [.v 43])) (.ret [.l (.bool false)]))) (.ret [.l (.bool false)]))) (.ret [.l (.bool false)]))) (.ret [.l (.bool false)]))) (.ret [.l (.bool false)])) (.ret [.l (.bool false)]))))))))))))))) (.op (.call 24) [.v 1, .v 2, .v 3, .v 4, .v 0] (.op (.call 25) [.v 1, .v 2, .v 3, .v 4, .v 0] (.op (.bcmp .neq) [.v 23, .v 24] (.ite (.v 25) (.ret [.l (.bool false)]) (.op (.call 26) [.v 1, .v 2, .v 0] (.op .len [.v 0] (.op (.call 27) [.v 1, .v 2, .v 33, .l (.int .u32 0)] (.op .not [.v 34] (.ite (.v 35) (.op (.icmp .eql) [.v 32, .l (.int .i64 1)] (.ite (.v 36) (.op (.call 18) [.v 26, .v 27, .v 28, .v 29, .v 30, .v 31, .l (.bool false), .l (.nil (Ty.int .u8)), .l (.int .i64 0), .l (.int .i64 0), .l (.int .i64 0), .l (.int .u32 0)] (.ite (.v 37) (.op (.call 15) [] (.ret [.v 38])) (.ret [.l (.bool false)]))) (.ret [.l (.bool false)]))) (.op (.icmp .eql) [.v 32, .l (.int .i64 0)] (.ite (.v 36) (.ite (.v 26) (.op (.icmp .eql) [.v 28, .v 1] (.ite (.v 37) (.op (.icmp .eql) [.v 29, .v 2] (.ite (.v 38) (.op (.call 25) [.v 28, .v 29, .v 30, .v 31, .v 0] (.ite (.v 39) (.op (.call 24) [.v 28, .v 29, .v 30, .v 31, .v 0] (.ite (.v 40) (.op (.call 15) [] (.ret [.v 41])) (.ret [.l (.bool false)]))) (.ret [.l (.bool false)]))) (.ret [.l (.bool false)]))) (.ret [.l (.bool false)]))) (.ret [.l (.bool false)])) (.ret [.l (.bool false)]))))))))))))))))) (.op .not [.v 16] (.ite (.v 20) (.op (.call 18) [.v 10, .v 11, .v 12, .v 13, .v 14, .v 15, .l (.bool false), .l (.nil (Ty.int .u8)), .l (.int .i64 0), .l (.int .i64 0), .l (.int .i64 0), .l (.int .u32 0)] (.op .not [.v 21] (.ite (.v 22) (.ret [.l (.bool false)]) (.op (.call 24) [.v 1, .v 2, .v 3, .v 4, .v 0] (.op (.call 25) [.v 1, .v 2, .v 3, .v 4, .v 0] (.op (.bcmp .neq) [.v 23, .v 24] (.ite (.v 25) (.ret [.l (.bool false)]) (.op (.call 26) [.v 1, .v 2, .v 0] (.op .len [.v 0] (.op (.call 27) [.v 1, .v 2, .v 33, .l (.int .u32 0)] (.op .not [.v 34] (.ite (.v 35) (.op (.icmp .eql) [.v 32, .l (.int .i64 1)] (.ite (.v 36) (.op (.call 18) [.v 26, .v 27, .v 28, .v 29, .v 30, .v 31, .l (.bool false), .l (.nil (Ty.int .u8)), .l (.int .i64 0), .l (.int .i64 0), .l (.int .i64 0), .l (.int .u32 0)] (.ite (.v 37) (.op (.call 15) [] (.ret [.v 38])) (.ret [.l (.bool false)]))) (.ret [.l (.bool false)]))) (.op (.icmp .eql) [.v 32, .l (.int .i64 0)] (.ite (.v 36) (.ite (.v 26) (.op (.icmp .eql) [.v 28, .v 1] (.ite (.v 37) (.op (.icmp .eql) [.v 29, .v 2] (.ite (.v 38) (.op (.call 25) [.v 28, .v 29, .v 30, .v 31, .v 0] (.ite (.v 39) (.op (.call 24) [.v 28, .v 29, .v 30, .v 31, .v 0] (.ite (.v 40) (.op (.call 15) [] (.ret [.v 41])) (.ret [.l (.bool false)]))) (.ret [.l (.bool false)]))) (.ret [.l (.bool false)]))) (.ret [.l (.bool false)]))) (.ret [.l (.bool false)])) (.ret [.l (.bool false)]))))))))))))))) (.op (.call 24) [.v 1, .v 2, .v 3, .v 4, .v 0] (.op (.call 25) [.v 1, .v 2, .v 3, .v 4, .v 0] (.op (.bcmp .neq) [.v 21, .v 22] (.ite (.v 23) (.ret [.l (.bool false)]) (.op (.call 26) [.v 1, .v 2, .v 0] (.op .len [.v 0] (.op (.call 27) [.v 1, .v 2, .v 31, .l (.int .u32 0)] (.op .not [.v 32] (.ite (.v 33) (.op (.icmp .eql) [.v 30, .l (.int .i64 1)] (.ite (.v 34) (.op (.call 18) [.v 24, .v 25, .v 26, .v 27, .v 28, .v 29, .l (.bool false), .l (.nil (Ty.int .u8)), .l (.int .i64 0), .l (.int .i64 0), .l (.int .i64 0), .l (.int .u32 0)] (.ite (.v 35) (.op (.call 15) [] (.ret [.v 36])) (.ret [.l (.bool false)]))) (.ret [.l (.bool false)]))) (.op (.icmp .eql) [.v 30, .l (.int .i64 0)] (.ite (.v 34) (.ite (.v 24) (.op (.icmp .eql) [.v 26, .v 1] (.ite (.v 35) (.op (.icmp .eql) [.v 27, .v 2] (.ite (.v 36) (.op (.call 25) [.v 26, .v 27, .v 28, .v 29, .v 0] (.ite (.v 37) (.op (.call 24) [.v 26, .v 27, .v 28, .v 29, .v 0] (.ite (.v 38) (.op (.call 15) [] (.ret [.v 39])) (.ret [.l (.bool false)]))) (.ret [.l (.bool false)]))) (.ret [.l (.bool false)]))) (.ret [.l (.bool false)]))) (.ret [.l (.bool false)])) (.ret [.l (.bool false)])))))))))))))))))))))))))
def sig133 : Sig := { id := 133, ins := [(false, (Ty.int .u8).sl)], outs := [(false, [(Ty.int .u64, none)])] }
def ir133 : IR := .op .len [.v 0] (.op (.ibin .sub .i64) [.v 1, .l (.int .i64 1)] (.loop [.l (.int .u64 0), .v 2] [Ty.int .u64, Ty.int .i64] (.op (.icmp .geq) [.v 4, .l (.int .i64 0)] (.ite (.v 5) (.op (.ibin .mul .u64) [.v 3, .l (.int .u64 128)] (.op .inb [.v 0, .v 4] (.op (.idx (Ty.int .u8)) [.v 0, .v 4] (.op (.ibin .rem .u8) [.v 7, .l (.int .u8 128)] (.op (.conv .u64) [.v 8] (.op (.ibin .add .u64) [.v 6, .v 9] (.op (.ibin .sub .i64) [.v 4, .l (.int .i64 1)] (.jump 0 [.v 10, .v 11])))))))) (.ret [.v 3])))))
def sig92 : Sig := { id := 92, ins := [(false, (Ty.int .u8).sl)], outs := [(false, [(Ty.int .u64, none)]), (false, [(Ty.int .i64, none)])] }
def ir92 : IR := .loop [.l (.int .i64 1)] [Ty.int .i64] (.op .len [.v 0] (.op (.icmp .leq) [.v 1, .v 2] (.ite (.v 3) (.op (.icmp .leq) [.v 1, .l (.int .i64 10)] (.ite (.v 4) (.op (.ibin .sub .i64) [.v 1, .l (.int .i64 1)] (.op .inb [.v 0, .v 5] (.op (.idx (Ty.int .u8)) [.v 0, .v 5] (.op (.icmp .lss) [.v 6, .l (.int .u8 128)] (.ite (.v 7) (.op .sub [.v 0, .l (.int .i64 0), .v 1] (.op (.call 133) [.v 8] (.op (.call 71) [.v 9] (.op .sub [.v 0, .l (.int .i64 0), .v 1] (.op (.call 69) [.v 10, .v 11] (.ite (.v 12) (.ret [.v 9, .v 1]) (.ret [.l (.int .u64 0), .l (.int .i64 0)]))))))) (.op (.ibin .add .i64) [.v 1, .l (.int .i64 1)] (.jump 0 [.v 8]))))))) (.ret [.l (.int .u64 0), .l (.int .i64 0)]))) (.ret [.l (.int .u64 0), .l (.int .i64 0)]))))
def sig132 : Sig := { id := 132, ins := [(false, (Ty.int .u8).sl), (false, Ty.int .i64)], outs := [(false, [((Ty.int .u64).sl, some 104)]), (false, [(Ty.int .i64, none)]), (false, [(Ty.int .i64, none)])] }
def ir132 : IR := .op (.mk (Ty.int .u64) 0) [] (.loop [.v 2, .l (.int .i64 0), .l (.int .i64 0)] [(Ty.int .u64).sl, Ty.int .i64, Ty.int .i64] (.op (.icmp .lss) [.v 5, .v 1] (.ite (.v 6) (.op .sub [.v 0, .v 4] (.op (.call 92) [.v 7] (.op (.icmp .eql) [.v 9, .l (.int .i64 0)] (.ite (.v 10) (.ret [.l (.nil (Ty.int .u64)), .v 4, .l (.int .i64 2)]) (.op (.mk (Ty.int .u64) 1) [.v 8] (.op .app [.v 3, .v 11] (.op (.ibin .add .i64) [.v 4, .v 9] (.op (.ibin .add .i64) [.v 5, .l (.int .i64 1)] (.jump 0 [.v 12, .v 13, .v 14]))))))))) (.ret [.v 3, .v 4, .l (.int .i64 0)]))))
def sig91 : Sig := { id := 91, ins := [(false, (Ty.int .u8).sl)], outs := [(true, [(Ty.int .i64, none), (Ty.int .i64, none), (Ty.int .i64, none), (Ty.int .u32, none)]), (false, [(Ty.int .i64, none)])] }
def ir91 : IR := .op (.call 132) [.v 0, .l (.int .i64 3)] (.op (.icmp .neq) [.v 3, .l (.int .i64 0)] (.ite (.v 4) (.ret [.l (.int .i64 0), .l (.int .i64 0), .l (.int .i64 0), .l (.int .u32 0), .l (.int .i64 0)]) (.op (.ibin .add .i64) [.v 2, .l (.int .i64 4)] (.op .len [.v 0] (.op (.icmp .gtr) [.v 5, .v 6] (.ite (.v 7) (.ret [.l (.int .i64 0), .l (.int .i64 0), .l (.int .i64 0), .l (.int .u32 0), .l (.int .i64 0)]) (.op .inb [.v 1, .l (.int .i64 0)] (.op (.idx (Ty.int .u64)) [.v 1, .l (.int .i64 0)] (.op (.icmp .gtr) [.v 8, .l (.int .u64 2147483647)] (.ite (.v 9) (.ret [.l (.int .i64 0), .l (.int .i64 0), .l (.int .i64 0), .l (.int .u32 0), .l (.int .i64 0)]) (.op .inb [.v 1, .l (.int .i64 1)] (.op (.idx (Ty.int .u64)) [.v 1, .l (.int .i64 1)] (.op (.icmp .gtr) [.v 10, .l (.int .u64 2147483647)] (.ite (.v 11) (.ret [.l (.int .i64 0), .l (.int .i64 0), .l (.int .i64 0), .l (.int .u32 0), .l (.int .i64 0)]) (.op .inb [.v 1, .l (.int .i64 2)] (.op (.idx (Ty.int .u64)) [.v 1, .l (.int .i64 2)] (.op (.icmp .gtr) [.v 12, .l (.int .u64 4096)] (.ite (.v 13) (.ret [.l (.int .i64 0), .l (.int .i64 0), .l (.int .i64 0), .l (.int .u32 0), .l (.int .i64 0)]) (.op .inb [.v 1, .l (.int .i64 0)] (.op (.idx (Ty.int .u64)) [.v 1, .l (.int .i64 0)] (.op (.conv .i64) [.v 14] (.op .inb [.v 1, .l (.int .i64 1)] (.op (.idx (Ty.int .u64)) [.v 1, .l (.int .i64 1)] (.op (.conv .i64) [.v 16] (.op .inb [.v 1, .l (.int .i64 2)] (.op (.idx (Ty.int .u64)) [.v 1, .l (.int .i64 2)] (.op (.conv .i64) [.v 18] (.loop [.l (.int .i64 3), .l (.int .u32 0)] [Ty.int .i64, Ty.int .u32] (.op (.icmp .geq) [.v 20, .l (.int .i64 0)] (.ite (.v 22) (.op (.ibin .mul .u32) [.v 21, .l (.int .u32 256)] (.op (.ibin .add .i64) [.v 2, .v 20] (.op .inb [.v 0, .v 24] (.op (.idx (Ty.int .u8)) [.v 0, .v 24] (.op (.conv .u32) [.v 25] (.op (.ibin .add .u32) [.v 23, .v 26] (.op (.ibin .sub .i64) [.v 20, .l (.int .i64 1)] (.jump 0 [.v 28, .v 27])))))))) (.op (.call 27) [.v 15, .v 17, .v 19, .v 21] (.op .not [.v 23] (.ite (.v 24) (.ret [.l (.int .i64 0), .l (.int .i64 0), .l (.int .i64 0), .l (.int .u32 0), .l (.int .i64 0)]) (.op (.ibin .add .i64) [.v 2, .l (.int .i64 4)] (.ret [.v 15, .v 17, .v 19, .v 21, .v 25])))))))))))))))))))))))))))))))))))
def sig44 : Sig := { id := 44, ins := [(false, (Ty.int .u8).sl)], outs := [(true, [(Ty.bool, none), ((Ty.int .u8).sl, some 5), (Ty.int .i64, none), (Ty.int .i64, none), (Ty.int .i64, none), (Ty.int .u32, none)]), (false, [(Ty.int .i64, none)])] }
def ir44 : IR := .op .len [.v 0] (.op (.icmp .eql) [.v 1, .l (.int .i64 0)] (.ite (.v 2) (.ret [.l (.bool false), .l (.nil (Ty.int .u8)), .l (.int .i64 0), .l (.int .i64 0), .l (.int .i64 0), .l (.int .u32 0), .l (.int .i64 0)]) (.op .inb [.v 0, .l (.int .i64 0)] (.op (.idx (Ty.int .u8)) [.v 0, .l (.int .i64 0)] (.op (.icmp .gtr) [.v 3, .l (.int .u8 1)] (.ite (.v 4) (.ret [.l (.bool false), .l (.nil (Ty.int .u8)), .l (.int .i64 0), .l (.int .i64 0), .l (.int .i64 0), .l (.int .u32 0), .l (.int .i64 0)]) (.op .inb [.v 0, .l (.int .i64 0)] (.op (.idx (Ty.int .u8)) [.v 0, .l (.int .i64 0)] (.op (.icmp .eql) [.v 5, .l (.int .u8 1)] (.ite (.v 6) (.op .sub [.v 0, .l (.int .i64 1)] (.op (.call 91) [.v 7] (.op (.icmp .eql) [.v 12, .l (.int .i64 0)] (.ite (.v 13) (.ret [.l (.bool false), .l (.nil (Ty.int .u8)), .l (.int .i64 0), .l (.int .i64 0), .l (.int .i64 0), .l (.int .u32 0), .l (.int .i64 0)]) (.op (.ibin .add .i64) [.v 12, .l (.int .i64 1)] (.ret [.l (.bool true), .l (.nil (Ty.int .u8)), .v 8, .v 9, .v 10, .v 11, .v 14])))))) (.op .sub [.v 0, .l (.int .i64 1)] (.op (.call 92) [.v 7] (.op (.icmp .eql) [.v 9, .l (.int .i64 0)] (.ite (.v 10) (.ret [.l (.bool false), .l (.nil (Ty.int .u8)), .l (.int .i64 0), .l (.int .i64 0), .l (.int .i64 0), .l (.int .u32 0), .l (.int .i64 0)]) (.op (.icmp .gtr) [.v 8, .l (.int .u64 32)] (.ite (.v 11) (.ret [.l (.bool false), .l (.nil (Ty.int .u8)), .l (.int .i64 0), .l (.int .i64 0), .l (.int .i64 0), .l (.int .u32 0), .l (.int .i64 0)]) (.op .len [.v 0] (.op (.ibin .add .i64) [.l (.int .i64 1), .v 9] (.op (.conv .i64) [.v 8] (.op (.ibin .add .i64) [.v 13, .v 14] (.op (.icmp .lss) [.v 12, .v 15] (.ite (.v 16) (.ret [.l (.bool false), .l (.nil (Ty.int .u8)), .l (.int .i64 0), .l (.int .i64 0), .l (.int .i64 0), .l (.int .u32 0), .l (.int .i64 0)]) (.op (.mk (Ty.int .u8) 0) [] (.op (.ibin .add .i64) [.l (.int .i64 1), .v 9] (.op (.ibin .add .i64) [.l (.int .i64 1), .v 9] (.op (.conv .i64) [.v 8] (.op (.ibin .add .i64) [.v 19, .v 20] (.op .sub [.v 0, .v 18, .v 21] (.op .app [.v 17, .v 22] (.op (.ibin .add .i64) [.l (.int .i64 1), .v 9] (.op (.conv .i64) [.v 8] (.op (.ibin .add .i64) [.v 24, .v 25] (.ret [.l (.bool false), .v 23, .l (.int .i64 0), .l (.int .i64 0), .l (.int .i64 0), .l (.int .u32 0), .v 26])))))))))))))))))))))))))))))))))
def sig90 : Sig := { id := 90, ins := [(false, (Ty.int .u8).sl)], outs := [(false, [(Ty.int .u64, none)]), (false, [(Ty.int .i64, none)]), (false, [(Ty.int .i64, none)])] }
def ir90 : IR := .loop [.l (.int .u64 0), .l (.int .i64 0)] [Ty.int .u64, Ty.int .i64] (.op .len [.v 0] (.op (.icmp .lss) [.v 2, .v 3] (.ite (.v 4) (.op (.icmp .lss) [.v 2, .l (.int .i64 10)] (.ite (.v 5) (.op .inb [.v 0, .v 2] (.op (.idx (Ty.int .u8)) [.v 0, .v 2] (.op (.conv .u64) [.v 6] (.op (.icmp .eql) [.v 2, .l (.int .i64 9)] (.ite (.v 8) (.op (.icmp .gtr) [.v 7, .l (.int .u64 1)] (.ite (.v 9) (.ret [.l (.int .u64 0), .l (.int .i64 0), .l (.int .i64 2)]) (.op (.ibin .andNot .u64) [.v 7, .l (.int .u64 128)] (.op (.ibin .mul .i64) [.l (.int .i64 7), .v 2] (.op (.ibin .shl .u64) [.v 10, .v 11] (.op (.ibin .or .u64) [.v 1, .v 12] (.op (.icmp .lss) [.v 7, .l (.int .u64 128)] (.ite (.v 14) (.op (.icmp .eql) [.v 7, .l (.int .u64 0)] (.ite (.v 15) (.op (.icmp .gtr) [.v 2, .l (.int .i64 0)] (.ite (.v 16) (.ret [.l (.int .u64 0), .l (.int .i64 0), .l (.int .i64 2)]) (.op (.ibin .add .i64) [.v 2, .l (.int .i64 1)] (.ret [.v 13, .v 17, .l (.int .i64 0)])))) (.op (.ibin .add .i64) [.v 2, .l (.int .i64 1)] (.ret [.v 13, .v 16, .l (.int .i64 0)])))) (.op (.ibin .add .i64) [.v 2, .l (.int .i64 1)] (.jump 0 [.v 13, .v 15])))))))))) (.op (.ibin .andNot .u64) [.v 7, .l (.int .u64 128)] (.op (.ibin .mul .i64) [.l (.int .i64 7), .v 2] (.op (.ibin .shl .u64) [.v 9, .v 10] (.op (.ibin .or .u64) [.v 1, .v 11] (.op (.icmp .lss) [.v 7, .l (.int .u64 128)] (.ite (.v 13) (.op (.icmp .eql) [.v 7, .l (.int .u64 0)] (.ite (.v 14) (.op (.icmp .gtr) [.v 2, .l (.int .i64 0)] (.ite (.v 15) (.ret [.l (.int .u64 0), .l (.int .i64 0), .l (.int .i64 2)]) (.op (.ibin .add .i64) [.v 2, .l (.int .i64 1)] (.ret [.v 12, .v 16, .l (.int .i64 0)])))) (.op (.ibin .add .i64) [.v 2, .l (.int .i64 1)] (.ret [.v 12, .v 15, .l (.int .i64 0)])))) (.op (.ibin .add .i64) [.v 2, .l (.int .i64 1)] (.jump 0 [.v 12, .v 14]))))))))))))) (.ret [.l (.int .u64 0), .l (.int .i64 0), .l (.int .i64 2)]))) (.ret [.l (.int .u64 0), .l (.int .i64 0), .l (.int .i64 2)]))))
def sig129 : Sig := { id := 129, ins := [(false, (Ty.int .u8).sl), (false, Ty.int .i64)], outs := [(false, [((Ty.int .u64).sl, some 104)]), (false, [(Ty.int .i64, none)]), (false, [(Ty.int .i64, none)])] }
def ir129 : IR := .op (.icmp .lss) [.v 1, .l (.int .i64 0)] (.ite (.v 2) (.ret [.l (.nil (Ty.int .u64)), .l (.int .i64 0), .l (.int .i64 1)]) (.op (.icmp .gtr) [.v 1, .l (.int .i64 1000)] (.ite (.v 3) (.ret [.l (.nil (Ty.int .u64)), .l (.int .i64 0), .l (.int .i64 1)]) (.loop [.l (.nil (Ty.int .u64)), .l (.int .i64 0), .l (.int .i64 0)] [(Ty.int .u64).sl, Ty.int .i64, Ty.int .i64] (.op (.icmp .lss) [.v 6, .v 1] (.ite (.v 7) (.op .sub [.v 0, .v 5] (.op (.call 90) [.v 8] (.op (.icmp .neq) [.v 11, .l (.int .i64 0)] (.ite (.v 12) (.ret [.l (.nil (Ty.int .u64)), .v 5, .v 11]) (.op (.mk (Ty.int .u64) 1) [.v 9] (.op .app [.v 4, .v 13] (.op (.ibin .add .i64) [.v 5, .v 10] (.op (.ibin .add .i64) [.v 6, .l (.int .i64 1)] (.jump 0 [.v 14, .v 15, .v 16]))))))))) (.ret [.v 4, .v 5, .l (.int .i64 0)])))))))
def sig130 : Sig := { id := 130, ins := [(false, (Ty.int .u64).sl)], outs := [(false, [(Ty.int .u64, none)])] }
def ir130 : IR := .op .len [.v 0] (.op (.icmp .lss) [.v 1, .l (.int .i64 1)] (.ite (.v 2) .fail (.op .inb [.v 0, .l (.int .i64 0)] (.op (.idx (Ty.int .u64)) [.v 0, .l (.int .i64 0)] (.loop [.v 3, .l (.int .i64 1)] [Ty.int .u64, Ty.int .i64] (.op .len [.v 0] (.op (.icmp .lss) [.v 5, .v 6] (.ite (.v 7) (.op .inb [.v 0, .v 5] (.op (.idx (Ty.int .u64)) [.v 0, .v 5] (.op .max [.v 4, .v 8] (.op (.ibin .add .i64) [.v 5, .l (.int .i64 1)] (.jump 0 [.v 9, .v 10]))))) (.ret [.v 4])))))))))
def sig131 : Sig := { id := 131, ins := [(false, (Ty.int .u8).sl)], outs := [(false, [(Ty.int .u32, none)])] }
def ir131 : IR := .op .inb [.v 0, .l (.int .i64 0)] (.op (.idx (Ty.int .u8)) [.v 0, .l (.int .i64 0)] (.op (.conv .u32) [.v 1] (.op .inb [.v 0, .l (.int .i64 1)] (.op (.idx (Ty.int .u8)) [.v 0, .l (.int .i64 1)] (.op (.conv .u32) [.v 3] (.op (.ibin .shl .u32) [.v 4, .l (.int .u64 8)] (.op (.ibin .or .u32) [.v 2, .v 5] (.op .inb [.v 0, .l (.int .i64 2)] (.op (.idx (Ty.int .u8)) [.v 0, .l (.int .i64 2)] (.op (.conv .u32) [.v 7] (.op (.ibin .shl .u32) [.v 8, .l (.int .u64 16)] (.op (.ibin .or .u32) [.v 6, .v 9] (.op .inb [.v 0, .l (.int .i64 3)] (.op (.idx (Ty.int .u8)) [.v 0, .l (.int .i64 3)] (.op (.conv .u32) [.v 11] (.op (.ibin .shl .u32) [.v 12, .l (.int .u64 24)] (.op (.ibin .or .u32) [.v 10, .v 13] (.ret [.v 14]))))))))))))))))))
def sig89 : Sig := { id := 89, ins := [(false, (Ty.int .u8).sl)], outs := [(true, [(Ty.int .i64, none), (Ty.int .i64, none), (Ty.int .i64, none), (Ty.int .u32, none)]), (false, [(Ty.int .i64, none)]), (false, [(Ty.int .i64, none)])] }
def ir89 : IR := .op (.call 129) [.v 0, .l (.int .i64 3)] (.op (.icmp .neq) [.v 3, .l (.int .i64 0)] (.ite (.v 4) (.ret [.l (.int .i64 0), .l (.int .i64 0), .l (.int .i64 0), .l (.int .u32 0), .l (.int .i64 0), .l (.int .i64 2)]) (.op (.call 130) [.v 1] (.op (.icmp .gtr) [.v 5, .l (.int .u64 2147483647)] (.ite (.v 6) (.ret [.l (.int .i64 0), .l (.int .i64 0), .l (.int .i64 0), .l (.int .u32 0), .l (.int .i64 0), .l (.int .i64 2)]) (.op .len [.v 0] (.op (.ibin .sub .i64) [.v 7, .v 2] (.op (.icmp .lss) [.v 8, .l (.int .i64 4)] (.ite (.v 9) (.ret [.l (.int .i64 0), .l (.int .i64 0), .l (.int .i64 0), .l (.int .u32 0), .l (.int .i64 0), .l (.int .i64 2)]) (.op .inb [.v 1, .l (.int .i64 0)] (.op (.idx (Ty.int .u64)) [.v 1, .l (.int .i64 0)] (.op (.conv .i64) [.v 10] (.op .inb [.v 1, .l (.int .i64 1)] (.op (.idx (Ty.int .u64)) [.v 1, .l (.int .i64 1)] (.op (.conv .i64) [.v 12] (.op .inb [.v 1, .l (.int .i64 2)] (.op (.idx (Ty.int .u64)) [.v 1, .l (.int .i64 2)] (.op (.conv .i64) [.v 14] (.op .sub [.v 0, .v 2] (.op (.call 131) [.v 16] (.op (.call 68) [.v 11, .v 13, .v 15, .v 17] (.op (.icmp .neq) [.v 18, .l (.int .i64 0)] (.ite (.v 19) (.ret [.l (.int .i64 0), .l (.int .i64 0), .l (.int .i64 0), .l (.int .u32 0), .l (.int .i64 0), .l (.int .i64 2)]) (.op (.ibin .add .i64) [.v 2, .l (.int .i64 4)] (.ret [.v 11, .v 13, .v 15, .v 17, .v 20, .l (.int .i64 0)])))))))))))))))))))))))))
def sig43 : Sig := { id := 43, ins := [(false, (Ty.int .u8).sl)], outs := [(true, [(Ty.bool, none), ((Ty.int .u8).sl, some 5), (Ty.int .i64, none), (Ty.int .i64, none), (Ty.int .i64, none), (Ty.int .u32, none)]), (false, [(Ty.int .i64, none)]), (false, [(Ty.int .i64, none)])] }
def ir43 : IR := .op .len [.v 0] (.op (.icmp .eql) [.v 1, .l (.int .i64 0)] (.ite (.v 2) (.ret [.l (.bool false), .l (.nil (Ty.int .u8)), .l (.int .i64 0), .l (.int .i64 0), .l (.int .i64 0), .l (.int .u32 0), .l (.int .i64 0), .l (.int .i64 2)]) (.op .inb [.v 0, .l (.int .i64 0)] (.op (.idx (Ty.int .u8)) [.v 0, .l (.int .i64 0)] (.op (.icmp .gtr) [.v 3, .l (.int .u8 1)] (.ite (.v 4) (.ret [.l (.bool false), .l (.nil (Ty.int .u8)), .l (.int .i64 0), .l (.int .i64 0), .l (.int .i64 0), .l (.int .u32 0), .l (.int .i64 0), .l (.int .i64 2)]) (.op .inb [.v 0, .l (.int .i64 0)] (.op (.idx (Ty.int .u8)) [.v 0, .l (.int .i64 0)] (.op (.icmp .eql) [.v 5, .l (.int .u8 1)] (.ite (.v 6) (.op .sub [.v 0, .l (.int .i64 1)] (.op (.call 89) [.v 7] (.op (.icmp .neq) [.v 13, .l (.int .i64 0)] (.ite (.v 14) (.ret [.l (.bool false), .l (.nil (Ty.int .u8)), .l (.int .i64 0), .l (.int .i64 0), .l (.int .i64 0), .l (.int .u32 0), .l (.int .i64 0), .v 13]) (.op (.ibin .add .i64) [.v 12, .l (.int .i64 1)] (.ret [.l (.bool true), .l (.nil (Ty.int .u8)), .v 8, .v 9, .v 10, .v 11, .v 15, .l (.int .i64 0)])))))) (.op .sub [.v 0, .l (.int .i64 1)] (.op (.call 90) [.v 7] (.op (.icmp .neq) [.v 10, .l (.int .i64 0)] (.ite (.v 11) (.ret [.l (.bool false), .l (.nil (Ty.int .u8)), .l (.int .i64 0), .l (.int .i64 0), .l (.int .i64 0), .l (.int .u32 0), .l (.int .i64 0), .l (.int .i64 2)]) (.op (.icmp .gtr) [.v 8, .l (.int .u64 32)] (.ite (.v 12) (.ret [.l (.bool false), .l (.nil (Ty.int .u8)), .l (.int .i64 0), .l (.int .i64 0), .l (.int .i64 0), .l (.int .u32 0), .l (.int .i64 0), .l (.int .i64 2)]) (.op .len [.v 0] (.op (.ibin .sub .i64) [.v 13, .l (.int .i64 1)] (.op (.ibin .sub .i64) [.v 14, .v 9] (.op (.conv .i64) [.v 8] (.op (.icmp .lss) [.v 15, .v 16] (.ite (.v 17) (.ret [.l (.bool false), .l (.nil (Ty.int .u8)), .l (.int .i64 0), .l (.int .i64 0), .l (.int .i64 0), .l (.int .u32 0), .l (.int .i64 0), .l (.int .i64 2)]) (.op (.ibin .add .i64) [.l (.int .i64 1), .v 9] (.op (.conv .i64) [.v 8] (.op (.ibin .add .i64) [.v 18, .v 19] (.op (.ibin .add .i64) [.l (.int .i64 1), .v 9] (.op .sub [.v 0, .v 21, .v 20] (.op (.call 72) [.v 22] (.ret [.l (.bool false), .v 23, .l (.int .i64 0), .l (.int .i64 0), .l (.int .i64 0), .l (.int .u32 0), .v 20, .l (.int .i64 0)])))))))))))))))))))))))))))))
def sig7 : Sig := { id := 7, ins := [(false, (Ty.int .u8).sl)], outs := [(false, [(Ty.bool, none)])] }
def ir7 : IR := .op .len [.v 0] (.op (.icmp .gtr) [.v 1, .l (.int .i64 1000)] (.ite (.v 2) (.op (.call 15) [] (.ret [.v 3])) (.op (.mk (Ty.int .u8) 0) [] (.op .app [.v 3, .v 0] (.op (.call 43) [.v 4] (.op (.call 44) [.v 0] (.op (.call 18) [.v 5, .v 6, .v 7, .v 8, .v 9, .v 10, .v 13, .v 14, .v 15, .v 16, .v 17, .v 18] (.ite (.v 20) (.op (.icmp .eql) [.v 11, .v 19] (.ite (.v 21) (.op (.icmp .eql) [.v 12, .l (.int .i64 0)] (.op (.icmp .gtr) [.v 19, .l (.int .i64 0)] (.op (.bcmp .eql) [.v 22, .v 23] (.ite (.v 24) (.op (.icmp .eql) [.v 12, .l (.int .i64 2)] (.op (.icmp .eql) [.v 19, .l (.int .i64 0)] (.op (.bcmp .eql) [.v 25, .v 26] (.ite (.v 27) (.op (.call 15) [] (.ret [.v 28])) (.ret [.l (.bool false)]))))) (.ret [.l (.bool false)]))))) (.ret [.l (.bool false)]))) (.ret [.l (.bool false)])))))))))
def sig8 : Sig := { id := 8, ins := [(true, Ty.bool.pair ((Ty.int .u8).sl.pair ((Ty.int .i64).pair ((Ty.int .i64).pair ((Ty.int .i64).pair (Ty.int .u32)))))), (false, (Ty.int .u8).sl)], outs := [(false, [(Ty.bool, none)])] }
def ir8 : IR := .op (.call 19) [.v 0, .v 1, .v 2, .v 3, .v 4, .v 5] (.op .not [.v 7] (.ite (.v 8) (.op (.call 15) [] (.ret [.v 9])) (.op .len [.v 6] (.op (.icmp .gtr) [.v 9, .l (.int .i64 1000)] (.ite (.v 10) (.op (.call 15) [] (.ret [.v 11])) (.op (.call 16) [.v 0, .v 1, .v 2, .v 3, .v 4, .v 5] (.op (.mk (Ty.int .u8) 0) [] (.op .app [.v 13, .v 11] (.op .app [.v 14, .v 6] (.op (.call 43) [.v 15] (.op (.icmp .eql) [.v 12, .l (.int .i64 0)] (.ite (.v 24) (.op (.icmp .eql) [.v 23, .l (.int .i64 0)] (.ite (.v 25) (.op (.call 18) [.v 0, .v 1, .v 2, .v 3, .v 4, .v 5, .v 16, .v 17, .v 18, .v 19, .v 20, .v 21] (.ite (.v 26) (.op .len [.v 11] (.op (.icmp .eql) [.v 22, .v 27] (.ite (.v 28) (.op (.call 15) [] (.ret [.v 29])) (.ret [.l (.bool false)])))) (.ret [.l (.bool false)]))) (.ret [.l (.bool false)]))) (.ret [.l (.bool false)])))))))))))))
noncomputable def F72 : List D → Option (List D) := Fof [] ir72
noncomputable def c72 : Ct := ⟨sig72, F72⟩
noncomputable def F23 : List D → Option (List D) := Fof [c72] ir23
noncomputable def c23 : Ct := ⟨sig23, F23⟩
noncomputable def F122 : List D → Option (List D) := Fof [] ir122
noncomputable def c122 : Ct := ⟨sig122, F122⟩
noncomputable def F73 : List D → Option (List D) := Fof [c122] ir73
noncomputable def c73 : Ct := ⟨sig73, F73⟩
noncomputable def F24 : List D → Option (List D) := Fof [c73] ir24
noncomputable def c24 : Ct := ⟨sig24, F24⟩
noncomputable def F143 : List D → Option (List D) := Fof [] ir143
noncomputable def c143 : Ct := ⟨sig143, F143⟩
noncomputable def F142 : List D → Option (List D) := Fof [c143] ir142
noncomputable def c142 : Ct := ⟨sig142, F142⟩
noncomputable def F123 : List D → Option (List D) := Fof [c143, c142] ir123
noncomputable def c123 : Ct := ⟨sig123, F123⟩
noncomputable def F74 : List D → Option (List D) := Fof [c123] ir74
noncomputable def c74 : Ct := ⟨sig74, F74⟩
noncomputable def F25 : List D → Option (List D) := Fof [c74] ir25
noncomputable def c25 : Ct := ⟨sig25, F25⟩
noncomputable def F26 : List D → Option (List D) := Fof [c73, c20] ir26
noncomputable def c26 : Ct := ⟨sig26, F26⟩
noncomputable def F4 : List D → Option (List D) := Fof [c15, c23, c18, c24, c25, c26, c27] ir4
noncomputable def c4 : Ct := ⟨sig4, F4⟩
noncomputable def F133 : List D → Option (List D) := Fof [] ir133
noncomputable def c133 : Ct := ⟨sig133, F133⟩
noncomputable def F92 : List D → Option (List D) := Fof [c133, c71, c69] ir92
noncomputable def c92 : Ct := ⟨sig92, F92⟩
noncomputable def F132 : List D → Option (List D) := Fof [c92] ir132
noncomputable def c132 : Ct := ⟨sig132, F132⟩
noncomputable def F91 : List D → Option (List D) := Fof [c132, c27] ir91
noncomputable def c91 : Ct := ⟨sig91, F91⟩
noncomputable def F44 : List D → Option (List D) := Fof [c91, c92] ir44
noncomputable def c44 : Ct := ⟨sig44, F44⟩
noncomputable def F90 : List D → Option (List D) := Fof [] ir90
noncomputable def c90 : Ct := ⟨sig90, F90⟩
noncomputable def F129 : List D → Option (List D) := Fof [c90] ir129
noncomputable def c129 : Ct := ⟨sig129, F129⟩
noncomputable def F130 : List D → Option (List D) := Fof [] ir130
noncomputable def c130 : Ct := ⟨sig130, F130⟩
noncomputable def F131 : List D → Option (List D) := Fof [] ir131
noncomputable def c131 : Ct := ⟨sig131, F131⟩
noncomputable def F89 : List D → Option (List D) := Fof [c129, c130, c131, c68] ir89
noncomputable def c89 : Ct := ⟨sig89, F89⟩
noncomputable def F43 : List D → Option (List D) := Fof [c89, c90, c72] ir43
noncomputable def c43 : Ct := ⟨sig43, F43⟩
noncomputable def F7 : List D → Option (List D) := Fof [c15, c43, c44, c18] ir7
noncomputable def c7 : Ct := ⟨sig7, F7⟩
noncomputable def F8 : List D → Option (List D) := Fof [c19, c15, c16, c43, c18] ir8
noncomputable def c8 : Ct := ⟨sig8, F8⟩
end Go.Proofs.Ytdjknicjnaiomaa.Sx

/- Sums of bytes: two ways to reckon them come to the same. -/
namespace Go.Proofs.Ytdjknicjnaiomaa.Sx

def val (b : BitVec 32) : Int := (b.toNat : Int)
def V (x : Int) : BitVec 32 := BitVec.ofInt 32 x
def Mx : BitVec 32 := 4294967295#32
def Po : BitVec 32 := 2197175160#32

theorem val_lt (b : BitVec 32) : 0 ≤ val b ∧ val b < 4294967296 := by unfold val; have := b.isLt; omega
theorem V_val (b : BitVec 32) : V (val b) = b := by unfold V val; simp
theorem val_V (x : Int) (h0 : 0 ≤ x) (h1 : x < 4294967296) : val (V x) = x := by
  obtain ⟨n, rfl⟩ := Int.eq_ofNat_of_zero_le h0
  unfold V val; simp [BitVec.ofInt_natCast]; omega
theorem xor_val (a b : BitVec 32) : bXor .u32 (val a) (val b) = val (a ^^^ b) := by
  unfold bXor val
  have e : ∀ c : BitVec 32, BitVec.ofInt IntKind.u32.bits (c.toNat : Int) = c := fun c => by show BitVec.ofInt 32 _ = c; simp
  rw [e, e]
  show IntKind.u32.wrap ((a ^^^ b : BitVec 32).toNat : Int) = _
  have h : (a ^^^ b).toNat < 4294967296 := (a ^^^ b).isLt
  exact wu32 _ (by omega) (by omega)
theorem and_val (a b : BitVec 32) : bAnd .u32 (val a) (val b) = val (a &&& b) := by
  unfold bAnd val
  have e : ∀ c : BitVec 32, BitVec.ofInt IntKind.u32.bits (c.toNat : Int) = c := fun c => by show BitVec.ofInt 32 _ = c; simp
  rw [e, e]
  show IntKind.u32.wrap ((a &&& b : BitVec 32).toNat : Int) = _
  have h : (a &&& b).toNat < 4294967296 := (a &&& b).isLt
  exact wu32 _ (by omega) (by omega)
theorem half_val (a : BitVec 32) : val a / (2 : Int) = val (a >>> 1) := by
  unfold val; rw [BitVec.toNat_ushiftRight, Nat.shiftRight_eq_div_pow]; omega

def st (r : BitVec 32) : BitVec 32 := (r >>> 1) ^^^ (if r.toNat % 2 = 1 then Po else 0#32)
def stN : Nat → BitVec 32 → BitVec 32
  | 0, r => r
  | n + 1, r => stN n (st r)
def crcL (r : BitVec 32) : List Int → BitVec 32
  | [] => r
  | c :: l => crcL (stN 8 (r ^^^ V c)) l
def crcOf (l : List Int) : Int := val (Mx ^^^ crcL Mx l)

theorem st_val (r : BitVec 32) : bXor .u32 (val r / 2) (bAnd .u32 2197175160 (IntKind.u32.wrap (-bAnd .u32 (val r) 1))) = val (st r) := by
  have h1 : bAnd .u32 (val r) 1 = ((r.toNat % 2 : Nat) : Int) := by
    rw [show (1 : Int) = val 1#32 from rfl, and_val]
    unfold val
    rw [BitVec.toNat_and]
    show ((r.toNat &&& 1 : Nat) : Int) = _
    rw [Nat.and_one_is_mod]
  rw [h1, half_val]
  unfold st
  rcases Nat.mod_two_eq_zero_or_one r.toNat with h | h
  · rw [h, if_neg (by omega)]
    rw [show IntKind.u32.wrap (-((0 : Nat) : Int)) = val 0#32 by decide, show (2197175160 : Int) = val Po from rfl, and_val, xor_val]
    simp
  · rw [h, if_pos rfl]
    rw [show IntKind.u32.wrap (-((1 : Nat) : Int)) = val Mx by decide, show (2197175160 : Int) = val Po from rfl, and_val, xor_val, show Po &&& Mx = Po by decide]

theorem fdiv1 (x : Int) : x.fdiv (2 ^ Nat.min 1 IntKind.u32.bits) = x / 2 := fdiv_pos x 2 (by omega)

theorem inv_val (x : Int) (h0 : 0 ≤ x) (h1 : x < 4294967296) : bXor .u32 (if IntKind.u32.signed = true then -1 else IntKind.u32.max) x = val (Mx ^^^ V x) := by
  rw [show (if IntKind.u32.signed = true then (-1 : Int) else IntKind.u32.max) = val Mx by decide, ← xor_val, val_V x h0 h1]

theorem f122 (x0 : Int) (x1 : List Int) (h0 : 0 ≤ x0) (h1 : x0 < 4294967296) (hb : ∀ c ∈ x1, 0 ≤ c ∧ c < 256) (hl : x1.length < 1000000000000000) : F122 [⟨.int .u32, x0⟩, ⟨.sl (.int .u8), x1⟩] = some [⟨.int .u32, val (Mx ^^^ crcL (Mx ^^^ V x0) x1)⟩] := by
  simp only [F122, Fof, ir122]
  simp [↓den_start, ↓deb_op, ↓deb_ret, ↓deb_jump, ↓deb_itev, ↓deb_itel, ↓deb_loop, ↓deb_fail, ↓deb_nilcv, nilE_some, opE_some, debP_nil, debP_cons, pushL_nil, pushL_cons, retE_some, iteE_some, evB_nil, evB_v, evB_l, lkE_cons, consE_some, d_int, d_bool, d_str, d_nil, o_add, o_sub, o_mul, o_and, o_or, o_xor, o_andNot, o_quo, o_rem, o_shl, o_shr, o_eql, o_neq, o_lss, o_leq, o_gtr, o_geq, o_seql, o_sneq, o_slss, o_sleq, o_sgtr, o_sgeq, o_beql, o_bneq, o_scat, o_not, o_neg, o_com, o_conv, o_s2b, o_b2s, o_len, o_slen, o_inb, o_idx, o_sidx, o_sub3, o_sub2, o_ssub3, o_ssub2, o_app, o_apps, o_mk, mkE_some, consD_some, mkD_zero, mkD_int, mkD_str, mkD_sl, o_imin, o_imax, o_smin, o_smax, o_eqs, eqsE_some, eqC_nil, andE_some, eqC_int, eqC_bool, eqC_str, j1, outE_some, outE_none, outE_ite, agE_1, loopE_1, agE_2, loopE_2, agE_3, loopE_3, agE_4, loopE_4, agE_5, loopE_5, agE_6, loopE_6, agE_7, loopE_7, agE_8, loopE_8, agE_9, loopE_9, List.cons_append, List.nil_append, List.append_nil, split, List.take_succ_cons, List.take_zero, List.drop_succ_cons, List.drop_zero]
  rw [inv_val x0 h0 h1]
  generalize Mx ^^^ V x0 = r0
  refine (iter_meas (fun s : Int × Int => (x1.length - s.2).toNat) (fun s => [⟨.int .u32, val (Mx ^^^ crcL (V s.1) (x1.drop s.2.toNat))⟩])
    (fun s => 0 ≤ s.2 ∧ s.2 ≤ x1.length ∧ 0 ≤ s.1 ∧ s.1 < 4294967296) (by have h1 := (val_lt r0).1; have h2 := (val_lt r0).2; exact ⟨by simp, by simp, h1, h2⟩) ?_).trans (by simp [V_val])
  rintro ⟨r, i⟩ ⟨k1, k2, k3, k4⟩
  simp only at k1 k2 k3 k4 ⊢
  by_cases hi : i < x1.length
  · rw [if_pos hi, if_pos ⟨k1, hi⟩, getI k1 hi, dropI k1 hi]
    have hc := hb (x1[i.toNat]'(by omega)) (List.getElem_mem _)
    generalize x1[i.toNat]'(by omega) = c at hc
    refine .inl ⟨(val (stN 8 (V r ^^^ V c)), i + 1), ?_, ⟨by simp; omega, by simp; omega, (val_lt (stN 8 (V r ^^^ V c))).1, (val_lt (stN 8 (V r ^^^ V c))).2⟩, by simp; omega, by simp only [V_val, crcL]⟩
    rw [wu32 c (by omega) (by omega), show bXor .u32 r c = val (V r ^^^ V c) by rw [← xor_val, val_V r k3 k4, val_V c (by omega) (by omega)]]
    generalize V r ^^^ V c = q0
    refine (iter_meas (fun t : Int × Int => (8 - t.2).toNat) (fun t => LS.again (val (stN (8 - t.2).toNat (V t.1)), i + 1)) (fun t => 0 ≤ t.2 ∧ t.2 ≤ 8 ∧ 0 ≤ t.1 ∧ t.1 < 4294967296)
      (by have h1 := (val_lt q0).1; have h2 := (val_lt q0).2; exact ⟨by simp, by simp, h1, h2⟩) ?_).trans (by simp [V_val])
    rintro ⟨q, k⟩ ⟨j1, j2, j3, j4⟩
    simp only at j1 j2 j3 j4 ⊢
    by_cases hk : k < 8
    · refine .inl ⟨(val (st (V q)), k + 1), ?_, ⟨by simp; omega, by simp; omega, (val_lt (st (V q))).1, (val_lt (st (V q))).2⟩, by simp; omega, ?_⟩
      · rw [if_pos hk, fdiv1, wi64 (k + 1) (by omega) (by omega), ← st_val, val_V q j3 j4]
      · simp only [V_val]
        rw [show (8 - k).toNat = (8 - (k + 1)).toNat + 1 by omega, stN]
    · refine .inr ?_
      rw [if_neg hk, wi64 (i + 1) (by omega) (by omega), show (8 - k).toNat = 0 by omega, stN, val_V q j3 j4]
  · refine .inr ?_
    rw [if_neg hi, List.drop_eq_nil_of_le (by omega), crcL, inv_val r k3 k4]
theorem s122 {lc : List Ct} (hl0 : look (lc.map fun c => (c.sig.id, c)) 122 = some c122) : ∀ (x0 : Int) (x1 : List Int) (h0 : 0 ≤ x0) (h1 : x0 < 4294967296) (hb : ∀ c ∈ x1, 0 ≤ c ∧ c < 256) (hl : x1.length < 1000000000000000), Does1 (Phi lc) 122 [⟨.int .u32, x0⟩, ⟨.sl (.int .u8), x1⟩] [⟨.int .u32, val (Mx ^^^ crcL (Mx ^^^ V x0) x1)⟩] :=
  fun x0 x1 h0 h1 hb hl => Does1.of hl0 (f122 x0 x1 h0 h1 hb hl) rfl
theorem f73 (x : List Int) (hb : ∀ c ∈ x, 0 ≤ c ∧ c < 256) (hl : x.length < 1000000000000000) : F73 [⟨.sl (.int .u8), x⟩] = some [⟨.int .u32, crcOf x⟩] := by
  have h122 := s122 (lc := [c122]) rfl
  simp only [F73, Fof, ir73]
  generalize Phi [c122] = Φ at *
  have k := h122 0 x (by omega) (by omega) hb hl
  rw [show Mx ^^^ V 0 = Mx by decide] at k
  simp [↓den_start, ↓deb_op, ↓deb_ret, ↓deb_jump, ↓deb_itev, ↓deb_itel, ↓deb_loop, ↓deb_fail, ↓deb_nilcv, nilE_some, opE_some, debP_nil, debP_cons, pushL_nil, pushL_cons, retE_some, iteE_some, evB_nil, evB_v, evB_l, lkE_cons, consE_some, d_int, d_bool, d_str, d_nil, o_add, o_sub, o_mul, o_and, o_or, o_xor, o_andNot, o_quo, o_rem, o_shl, o_shr, o_eql, o_neq, o_lss, o_leq, o_gtr, o_geq, o_seql, o_sneq, o_slss, o_sleq, o_sgtr, o_sgeq, o_beql, o_bneq, o_scat, o_not, o_neg, o_com, o_conv, o_s2b, o_b2s, o_len, o_slen, o_inb, o_idx, o_sidx, o_sub3, o_sub2, o_ssub3, o_ssub2, o_app, o_apps, o_mk, mkE_some, consD_some, mkD_zero, mkD_int, mkD_str, mkD_sl, o_imin, o_imax, o_smin, o_smax, o_eqs, eqsE_some, eqC_nil, andE_some, eqC_int, eqC_bool, eqC_str, j1, outE_some, outE_none, outE_ite, agE_1, loopE_1, agE_2, loopE_2, agE_3, loopE_3, agE_4, loopE_4, agE_5, loopE_5, agE_6, loopE_6, agE_7, loopE_7, agE_8, loopE_8, agE_9, loopE_9, List.cons_append, List.nil_append, List.append_nil, split, List.take_succ_cons, List.take_zero, List.drop_succ_cons, List.drop_zero, k, crcOf]
theorem s73 {lc : List Ct} (hl0 : look (lc.map fun c => (c.sig.id, c)) 73 = some c73) : ∀ (x : List Int) (hb : ∀ c ∈ x, 0 ≤ c ∧ c < 256) (hl : x.length < 1000000000000000), Does1 (Phi lc) 73 [⟨.sl (.int .u8), x⟩] [⟨.int .u32, crcOf x⟩] :=
  fun x hb hl => Does1.of hl0 (f73 x hb hl) rfl
theorem f143 (x0 x1 : Int) (h0 : 0 ≤ x0) (h1 : x0 < 4294967296) (h2 : 0 ≤ x1) (h3 : x1 < 64) : F143 [⟨.int .u32, x0⟩, ⟨.int .i64, x1⟩] = some [⟨.int .i64, x0 / 2 ^ x1.toNat % 2⟩] := by
  simp only [F143, Fof, ir143]
  simp [↓den_start, ↓deb_op, ↓deb_ret, ↓deb_jump, ↓deb_itev, ↓deb_itel, ↓deb_loop, ↓deb_fail, ↓deb_nilcv, nilE_some, opE_some, debP_nil, debP_cons, pushL_nil, pushL_cons, retE_some, iteE_some, evB_nil, evB_v, evB_l, lkE_cons, consE_some, d_int, d_bool, d_str, d_nil, o_add, o_sub, o_mul, o_and, o_or, o_xor, o_andNot, o_quo, o_rem, o_shl, o_shr, o_eql, o_neq, o_lss, o_leq, o_gtr, o_geq, o_seql, o_sneq, o_slss, o_sleq, o_sgtr, o_sgeq, o_beql, o_bneq, o_scat, o_not, o_neg, o_com, o_conv, o_s2b, o_b2s, o_len, o_slen, o_inb, o_idx, o_sidx, o_sub3, o_sub2, o_ssub3, o_ssub2, o_app, o_apps, o_mk, mkE_some, consD_some, mkD_zero, mkD_int, mkD_str, mkD_sl, o_imin, o_imax, o_smin, o_smax, o_eqs, eqsE_some, eqC_nil, andE_some, eqC_int, eqC_bool, eqC_str, j1, outE_some, outE_none, outE_ite, agE_1, loopE_1, agE_2, loopE_2, agE_3, loopE_3, agE_4, loopE_4, agE_5, loopE_5, agE_6, loopE_6, agE_7, loopE_7, agE_8, loopE_8, agE_9, loopE_9, List.cons_append, List.nil_append, List.append_nil, split, List.take_succ_cons, List.take_zero, List.drop_succ_cons, List.drop_zero]
  refine (iter_meas (fun s : Int × Int => (x1 - s.2).toNat) (fun s => [⟨.int .i64, s.1 / 2 ^ (x1 - s.2).toNat % 2⟩])
    (fun s => 0 ≤ s.2 ∧ s.2 ≤ x1 ∧ 0 ≤ s.1 ∧ s.1 < 4294967296) ⟨by simp, by simp; omega, h0, h1⟩ ?_).trans (by simp)
  rintro ⟨n, i⟩ ⟨k1, k2, k3, k4⟩
  simp only at k1 k2 k3 k4 ⊢
  by_cases hi : i < x1
  · refine .inl ⟨(n / 2, i + 1), ?_, ⟨by simp; omega, by simp; omega, by simp; omega, by simp; omega⟩, by simp; omega, ?_⟩
    · rw [if_pos hi, td n 2 k3, wu32 (n / 2) (by omega) (by omega), wi64 (i + 1) (by omega) (by omega)]
    · simp only
      rw [show (x1 - i).toNat = (x1 - (i + 1)).toNat + 1 by omega, Int.pow_succ, Int.mul_comm, ← Int.ediv_ediv_of_nonneg (by omega)]
  · refine .inr ?_
    rw [if_neg hi, tm n 2 k3, wi64 (n % 2) (by omega) (by omega), show (x1 - i).toNat = 0 by omega]
    simp
theorem s143 {lc : List Ct} (hl0 : look (lc.map fun c => (c.sig.id, c)) 143 = some c143) : ∀ (x0 x1 : Int) (h0 : 0 ≤ x0) (h1 : x0 < 4294967296) (h2 : 0 ≤ x1) (h3 : x1 < 64), Does1 (Phi lc) 143 [⟨.int .u32, x0⟩, ⟨.int .i64, x1⟩] [⟨.int .i64, x0 / 2 ^ x1.toNat % 2⟩] :=
  fun x0 x1 h0 h1 h2 h3 => Does1.of hl0 (f143 x0 x1 h0 h1 h2 h3) rfl
def sr (r : BitVec 32) (b : Int) : BitVec 32 := if ((r.toNat % 2 : Nat) : Int) = b then r >>> 1 else (r >>> 1) ^^^ Po
theorem f142 (x0 x1 : Int) (h0 : 0 ≤ x0) (h1 : x0 < 4294967296) : F142 [⟨.int .u32, x0⟩, ⟨.int .i64, x1⟩] = some [⟨.int .u32, val (sr (V x0) x1)⟩] := by
  have h143 := s143 (lc := [c143]) rfl
  simp only [F142, Fof, ir142]
  generalize Phi [c143] = Φ at *
  have k := h143 x0 0 h0 h1 (by omega) (by omega)
  have e1 : x0 / 2 ^ (0 : Int).toNat % 2 = (((V x0).toNat % 2 : Nat) : Int) := by
    have := val_V x0 h0 h1
    unfold val at this
    simp; omega
  rw [e1] at k
  have e2 : IntKind.u32.wrap (x0.tdiv 2) = val (V x0 >>> 1) := by rw [td x0 2 h0, wu32 _ (by omega) (by omega), ← half_val, val_V x0 h0 h1]
  have e3 : bXor .u32 (val (V x0 >>> 1)) 2197175160 = val (V x0 >>> 1 ^^^ Po) := by rw [show (2197175160 : Int) = val Po from rfl, xor_val]
  by_cases hc : (((V x0).toNat % 2 : Nat) : Int) = x1
  · simp only [sr, if_pos hc]
    rw [hc] at k
    simp [↓den_start, ↓deb_op, ↓deb_ret, ↓deb_jump, ↓deb_itev, ↓deb_itel, ↓deb_loop, ↓deb_fail, ↓deb_nilcv, nilE_some, opE_some, debP_nil, debP_cons, pushL_nil, pushL_cons, retE_some, iteE_some, evB_nil, evB_v, evB_l, lkE_cons, consE_some, d_int, d_bool, d_str, d_nil, o_add, o_sub, o_mul, o_and, o_or, o_xor, o_andNot, o_quo, o_rem, o_shl, o_shr, o_eql, o_neq, o_lss, o_leq, o_gtr, o_geq, o_seql, o_sneq, o_slss, o_sleq, o_sgtr, o_sgeq, o_beql, o_bneq, o_scat, o_not, o_neg, o_com, o_conv, o_s2b, o_b2s, o_len, o_slen, o_inb, o_idx, o_sidx, o_sub3, o_sub2, o_ssub3, o_ssub2, o_app, o_apps, o_mk, mkE_some, consD_some, mkD_zero, mkD_int, mkD_str, mkD_sl, o_imin, o_imax, o_smin, o_smax, o_eqs, eqsE_some, eqC_nil, andE_some, eqC_int, eqC_bool, eqC_str, j1, outE_some, outE_none, outE_ite, agE_1, loopE_1, agE_2, loopE_2, agE_3, loopE_3, agE_4, loopE_4, agE_5, loopE_5, agE_6, loopE_6, agE_7, loopE_7, agE_8, loopE_8, agE_9, loopE_9, List.cons_append, List.nil_append, List.append_nil, split, List.take_succ_cons, List.take_zero, List.drop_succ_cons, List.drop_zero, k, e2]
  · simp only [sr, if_neg hc]
    have hc' : ¬ ((V x0).toNat : Int) % 2 = x1 := by simpa using hc
    simp [↓den_start, ↓deb_op, ↓deb_ret, ↓deb_jump, ↓deb_itev, ↓deb_itel, ↓deb_loop, ↓deb_fail, ↓deb_nilcv, nilE_some, opE_some, debP_nil, debP_cons, pushL_nil, pushL_cons, retE_some, iteE_some, evB_nil, evB_v, evB_l, lkE_cons, consE_some, d_int, d_bool, d_str, d_nil, o_add, o_sub, o_mul, o_and, o_or, o_xor, o_andNot, o_quo, o_rem, o_shl, o_shr, o_eql, o_neq, o_lss, o_leq, o_gtr, o_geq, o_seql, o_sneq, o_slss, o_sleq, o_sgtr, o_sgeq, o_beql, o_bneq, o_scat, o_not, o_neg, o_com, o_conv, o_s2b, o_b2s, o_len, o_slen, o_inb, o_idx, o_sidx, o_sub3, o_sub2, o_ssub3, o_ssub2, o_app, o_apps, o_mk, mkE_some, consD_some, mkD_zero, mkD_int, mkD_str, mkD_sl, o_imin, o_imax, o_smin, o_smax, o_eqs, eqsE_some, eqC_nil, andE_some, eqC_int, eqC_bool, eqC_str, j1, outE_some, outE_none, outE_ite, agE_1, loopE_1, agE_2, loopE_2, agE_3, loopE_3, agE_4, loopE_4, agE_5, loopE_5, agE_6, loopE_6, agE_7, loopE_7, agE_8, loopE_8, agE_9, loopE_9, List.cons_append, List.nil_append, List.append_nil, split, List.take_succ_cons, List.take_zero, List.drop_succ_cons, List.drop_zero, k, e2, e3, hc']
theorem s142 {lc : List Ct} (hl0 : look (lc.map fun c => (c.sig.id, c)) 142 = some c142) : ∀ (x0 x1 : Int) (h0 : 0 ≤ x0) (h1 : x0 < 4294967296), Does1 (Phi lc) 142 [⟨.int .u32, x0⟩, ⟨.int .i64, x1⟩] [⟨.int .u32, val (sr (V x0) x1)⟩] :=
  fun x0 x1 h0 h1 => Does1.of hl0 (f142 x0 x1 h0 h1) rfl

def refS (c : Int) : Nat → BitVec 32 → BitVec 32
  | 0, r => r
  | n + 1, r => refS c n (sr r (c / 2 ^ (7 - n) % 2))
def refL (r : BitVec 32) : List Int → BitVec 32
  | [] => r
  | c :: l => refL (refS c 8 r) l

theorem st_sr (r : BitVec 32) (d : Int) (h0 : 0 ≤ d) (h1 : d < 256) : st (r ^^^ V d) = sr r (d % 2) ^^^ V (d / 2) := by
  have e0 : (V d).toNat = d.toNat := by have := val_V d h0 (by omega); unfold val at this; omega
  have e1 : V d >>> 1 = V (d / 2) := by
    rw [← V_val (V d >>> 1), ← half_val, val_V d h0 (by omega)]
  have e2 : (r ^^^ V d).toNat % 2 = (r.toNat + d.toNat) % 2 := by 
    rw [BitVec.toNat_xor, e0]
    have h := Nat.xor_mod_two_pow (a := r.toNat) (b := d.toNat) (n := 1)
    rw [Nat.pow_one] at h
    rw [h]
    rcases Nat.mod_two_eq_zero_or_one r.toNat with h1 | h1 <;> rcases Nat.mod_two_eq_zero_or_one d.toNat with h2 | h2 <;> rw [h1, h2] <;> simp <;> omega
  unfold st sr
  rw [e2, BitVec.ushiftRight_xor_distrib, e1]
  have hd : d = (d.toNat : Int) := by omega
  by_cases h : ((r.toNat % 2 : Nat) : Int) = d % 2
  · rw [if_pos h, if_neg (by omega)]; simp
  · rw [if_neg h, if_pos (by omega)]
    rw [BitVec.xor_assoc, BitVec.xor_comm (V (d / 2)), ← BitVec.xor_assoc]

theorem stN_ref (c : Int) (h0 : 0 ≤ c) (h1 : c < 256) : ∀ (n : Nat), n ≤ 8 → ∀ r : BitVec 32, stN n (r ^^^ V (c / 2 ^ (8 - n))) = refS c n r ^^^ V (c / 2 ^ 8)
  | 0, _, r => rfl
  | n + 1, h, r => by
    have hp : (0 : Int) < 2 ^ (8 - (n + 1)) := Int.pow_pos (by omega)
    have hq : 0 ≤ c / 2 ^ (8 - (n + 1)) := Int.ediv_nonneg h0 (Int.le_of_lt hp)
    have hq' : c / 2 ^ (8 - (n + 1)) < 256 := Int.lt_of_le_of_lt (Int.ediv_le_self _ h0) h1
    rw [stN, st_sr _ _ hq hq', refS, Int.ediv_ediv_of_nonneg (Int.le_of_lt hp), ← Int.pow_succ, show (8 - (n + 1)).succ = 8 - n by omega, stN_ref c h0 h1 n (by omega), show 8 - (n + 1) = 7 - n by omega]

theorem crc_ref : ∀ (l : List Int) (r : BitVec 32), (∀ c ∈ l, 0 ≤ c ∧ c < 256) → crcL r l = refL r l
  | [], _, _ => rfl
  | c :: l, r, h => by
    obtain ⟨h0, h1⟩ := h c (by simp)
    have := stN_ref c h0 h1 8 (by omega) r
    simp only [Nat.sub_self, Int.pow_zero, Int.ediv_one] at this
    rw [crcL, refL, this, show c / 2 ^ 8 = 0 by omega, show V 0 = 0#32 by decide]
    simp only [BitVec.xor_zero]
    exact crc_ref l _ (fun c hc => h c (by simp [hc]))

theorem f123 (x0 : Int) (x1 : List Int) (h0 : 0 ≤ x0) (h1 : x0 < 4294967296) (hb : ∀ c ∈ x1, 0 ≤ c ∧ c < 256) (hl : x1.length < 1000000000000000) : F123 [⟨.int .u32, x0⟩, ⟨.sl (.int .u8), x1⟩] = some [⟨.int .u32, val (crcL (V x0) x1)⟩] := by
  have h143 := s143 (lc := [c143, c142]) rfl
  have h142 := s142 (lc := [c143, c142]) rfl
  simp only [F123, Fof, ir123]
  generalize Phi [c143, c142] = Φ at *
  simp [↓den_start, ↓deb_op, ↓deb_ret, ↓deb_jump, ↓deb_itev, ↓deb_itel, ↓deb_loop, ↓deb_fail, ↓deb_nilcv, nilE_some, opE_some, debP_nil, debP_cons, pushL_nil, pushL_cons, retE_some, iteE_some, evB_nil, evB_v, evB_l, lkE_cons, consE_some, d_int, d_bool, d_str, d_nil, o_add, o_sub, o_mul, o_and, o_or, o_xor, o_andNot, o_quo, o_rem, o_shl, o_shr, o_eql, o_neq, o_lss, o_leq, o_gtr, o_geq, o_seql, o_sneq, o_slss, o_sleq, o_sgtr, o_sgeq, o_beql, o_bneq, o_scat, o_not, o_neg, o_com, o_conv, o_s2b, o_b2s, o_len, o_slen, o_inb, o_idx, o_sidx, o_sub3, o_sub2, o_ssub3, o_ssub2, o_app, o_apps, o_mk, mkE_some, consD_some, mkD_zero, mkD_int, mkD_str, mkD_sl, o_imin, o_imax, o_smin, o_smax, o_eqs, eqsE_some, eqC_nil, andE_some, eqC_int, eqC_bool, eqC_str, j1, outE_some, outE_none, outE_ite, agE_1, loopE_1, agE_2, loopE_2, agE_3, loopE_3, agE_4, loopE_4, agE_5, loopE_5, agE_6, loopE_6, agE_7, loopE_7, agE_8, loopE_8, agE_9, loopE_9, List.cons_append, List.nil_append, List.append_nil, split, List.take_succ_cons, List.take_zero, List.drop_succ_cons, List.drop_zero]
  rw [crc_ref x1 _ hb]
  refine (iter_meas (fun s : Int × Int => (x1.length - s.2).toNat) (fun s => [⟨.int .u32, val (refL (V s.1) (x1.drop s.2.toNat))⟩])
    (fun s => 0 ≤ s.2 ∧ s.2 ≤ x1.length ∧ 0 ≤ s.1 ∧ s.1 < 4294967296) ⟨by simp, by simp, h0, h1⟩ ?_).trans (by simp)
  rintro ⟨r, i⟩ ⟨k1, k2, k3, k4⟩
  simp only at k1 k2 k3 k4 ⊢
  by_cases hi : i < x1.length
  · rw [if_pos hi, dropI k1 hi]
    have hg := getI (d := dflt (Ty.int IntKind.u8)) k1 hi
    have hc := hb (x1[i.toNat]'(by omega)) (List.getElem_mem _)
    simp only [hg]
    generalize x1[i.toNat]'(by omega) = c at hc
    refine .inl ⟨(val (refS c 8 (V r)), i + 1), ?_, ⟨by simp; omega, by simp; omega, (val_lt (refS c 8 (V r))).1, (val_lt (refS c 8 (V r))).2⟩, by simp; omega, by simp only [V_val, refL]⟩
    refine (iter_meas (fun t : Int × Int => (8 - t.2).toNat) (fun t => LS.again (val (refS c (8 - t.2).toNat (V t.1)), i + 1)) (fun t => 0 ≤ t.2 ∧ t.2 ≤ 8 ∧ 0 ≤ t.1 ∧ t.1 < 4294967296)
      (by exact ⟨by simp, by simp, k3, k4⟩) ?_).trans (by simp)
    rintro ⟨q, k⟩ ⟨j1, j2, j3, j4⟩
    simp only at j1 j2 j3 j4 ⊢
    by_cases hk : k < 8
    · refine .inl ⟨(val (sr (V q) (c / 2 ^ k.toNat % 2)), k + 1), ?_, ⟨by simp; omega, by simp; omega, (val_lt (sr (V q) (c / 2 ^ k.toNat % 2))).1, (val_lt (sr (V q) (c / 2 ^ k.toNat % 2))).2⟩, by simp; omega, ?_⟩
      · have m1 := h143 c k (by omega) (by omega) j1 (by omega)
        have m2 := h142 q (c / 2 ^ k.toNat % 2) j3 j4
        rw [if_pos hk, if_pos ⟨k1, hi⟩, wu32 c (by omega) (by omega)]
        simp [↓den_start, ↓deb_op, ↓deb_ret, ↓deb_jump, ↓deb_itev, ↓deb_itel, ↓deb_loop, ↓deb_fail, ↓deb_nilcv, nilE_some, opE_some, debP_nil, debP_cons, pushL_nil, pushL_cons, retE_some, iteE_some, evB_nil, evB_v, evB_l, lkE_cons, consE_some, d_int, d_bool, d_str, d_nil, o_add, o_sub, o_mul, o_and, o_or, o_xor, o_andNot, o_quo, o_rem, o_shl, o_shr, o_eql, o_neq, o_lss, o_leq, o_gtr, o_geq, o_seql, o_sneq, o_slss, o_sleq, o_sgtr, o_sgeq, o_beql, o_bneq, o_scat, o_not, o_neg, o_com, o_conv, o_s2b, o_b2s, o_len, o_slen, o_inb, o_idx, o_sidx, o_sub3, o_sub2, o_ssub3, o_ssub2, o_app, o_apps, o_mk, mkE_some, consD_some, mkD_zero, mkD_int, mkD_str, mkD_sl, o_imin, o_imax, o_smin, o_smax, o_eqs, eqsE_some, eqC_nil, andE_some, eqC_int, eqC_bool, eqC_str, j1, outE_some, outE_none, outE_ite, agE_1, loopE_1, agE_2, loopE_2, agE_3, loopE_3, agE_4, loopE_4, agE_5, loopE_5, agE_6, loopE_6, agE_7, loopE_7, agE_8, loopE_8, agE_9, loopE_9, List.cons_append, List.nil_append, List.append_nil, split, List.take_succ_cons, List.take_zero, List.drop_succ_cons, List.drop_zero, m1, m2]
        exact wi64 (k + 1) (by omega) (by omega)
      · simp only [V_val]
        rw [show (8 - k).toNat = (8 - (k + 1)).toNat + 1 by omega, refS, show 7 - (8 - (k + 1)).toNat = k.toNat by omega]
    · refine .inr ?_
      rw [if_neg hk, wi64 (i + 1) (by omega) (by omega), show (8 - k).toNat = 0 by omega, refS, val_V q j3 j4]
  · refine .inr ?_
    rw [if_neg hi, List.drop_eq_nil_of_le (by omega), refL, val_V r k3 k4]
theorem s123 {lc : List Ct} (hl0 : look (lc.map fun c => (c.sig.id, c)) 123 = some c123) : ∀ (x0 : Int) (x1 : List Int) (h0 : 0 ≤ x0) (h1 : x0 < 4294967296) (hb : ∀ c ∈ x1, 0 ≤ c ∧ c < 256) (hl : x1.length < 1000000000000000), Does1 (Phi lc) 123 [⟨.int .u32, x0⟩, ⟨.sl (.int .u8), x1⟩] [⟨.int .u32, val (crcL (V x0) x1)⟩] :=
  fun x0 x1 h0 h1 hb hl => Does1.of hl0 (f123 x0 x1 h0 h1 hb hl) rfl
theorem f74 (x : List Int) (hb : ∀ c ∈ x, 0 ≤ c ∧ c < 256) (hl : x.length < 1000000000000000) : F74 [⟨.sl (.int .u8), x⟩] = some [⟨.int .u32, crcOf x⟩] := by
  have h123 := s123 (lc := [c123]) rfl
  simp only [F74, Fof, ir74]
  generalize Phi [c123] = Φ at *
  have k := h123 4294967295 x (by omega) (by omega) hb hl
  rw [show V 4294967295 = Mx by decide] at k
  have e : bXor .u32 4294967295 (val (crcL Mx x)) = crcOf x := by rw [show (4294967295 : Int) = val Mx from rfl, xor_val]; rfl
  simp [↓den_start, ↓deb_op, ↓deb_ret, ↓deb_jump, ↓deb_itev, ↓deb_itel, ↓deb_loop, ↓deb_fail, ↓deb_nilcv, nilE_some, opE_some, debP_nil, debP_cons, pushL_nil, pushL_cons, retE_some, iteE_some, evB_nil, evB_v, evB_l, lkE_cons, consE_some, d_int, d_bool, d_str, d_nil, o_add, o_sub, o_mul, o_and, o_or, o_xor, o_andNot, o_quo, o_rem, o_shl, o_shr, o_eql, o_neq, o_lss, o_leq, o_gtr, o_geq, o_seql, o_sneq, o_slss, o_sleq, o_sgtr, o_sgeq, o_beql, o_bneq, o_scat, o_not, o_neg, o_com, o_conv, o_s2b, o_b2s, o_len, o_slen, o_inb, o_idx, o_sidx, o_sub3, o_sub2, o_ssub3, o_ssub2, o_app, o_apps, o_mk, mkE_some, consD_some, mkD_zero, mkD_int, mkD_str, mkD_sl, o_imin, o_imax, o_smin, o_smax, o_eqs, eqsE_some, eqC_nil, andE_some, eqC_int, eqC_bool, eqC_str, j1, outE_some, outE_none, outE_ite, agE_1, loopE_1, agE_2, loopE_2, agE_3, loopE_3, agE_4, loopE_4, agE_5, loopE_5, agE_6, loopE_6, agE_7, loopE_7, agE_8, loopE_8, agE_9, loopE_9, List.cons_append, List.nil_append, List.append_nil, split, List.take_succ_cons, List.take_zero, List.drop_succ_cons, List.drop_zero, k, e]
theorem s74 {lc : List Ct} (hl0 : look (lc.map fun c => (c.sig.id, c)) 74 = some c74) : ∀ (x : List Int) (hb : ∀ c ∈ x, 0 ≤ c ∧ c < 256) (hl : x.length < 1000000000000000), Does1 (Phi lc) 74 [⟨.sl (.int .u8), x⟩] [⟨.int .u32, crcOf x⟩] :=
  fun x hb hl => Does1.of hl0 (f74 x hb hl) rfl
theorem f24 (x0 x1 x2 x3 : Int) (x4 : List Int) (hb : ∀ c ∈ x4, 0 ≤ c ∧ c < 256) (hl : x4.length < 1000000000000000) : F24 [⟨.int .i64, x0⟩, ⟨.int .i64, x1⟩, ⟨.int .i64, x2⟩, ⟨.int .u32, x3⟩, ⟨.sl (.int .u8), x4⟩] = some [⟨.bool, decide (x2 = x4.length ∧ x3 = crcOf x4)⟩] := by
  have h73 := s73 (lc := [c73]) rfl
  simp only [F24, Fof, ir24]
  generalize Phi [c73] = Φ at *
  have k := h73 x4 hb hl
  by_cases h : x2 = x4.length <;> simp [↓den_start, ↓deb_op, ↓deb_ret, ↓deb_jump, ↓deb_itev, ↓deb_itel, ↓deb_loop, ↓deb_fail, ↓deb_nilcv, nilE_some, opE_some, debP_nil, debP_cons, pushL_nil, pushL_cons, retE_some, iteE_some, evB_nil, evB_v, evB_l, lkE_cons, consE_some, d_int, d_bool, d_str, d_nil, o_add, o_sub, o_mul, o_and, o_or, o_xor, o_andNot, o_quo, o_rem, o_shl, o_shr, o_eql, o_neq, o_lss, o_leq, o_gtr, o_geq, o_seql, o_sneq, o_slss, o_sleq, o_sgtr, o_sgeq, o_beql, o_bneq, o_scat, o_not, o_neg, o_com, o_conv, o_s2b, o_b2s, o_len, o_slen, o_inb, o_idx, o_sidx, o_sub3, o_sub2, o_ssub3, o_ssub2, o_app, o_apps, o_mk, mkE_some, consD_some, mkD_zero, mkD_int, mkD_str, mkD_sl, o_imin, o_imax, o_smin, o_smax, o_eqs, eqsE_some, eqC_nil, andE_some, eqC_int, eqC_bool, eqC_str, j1, outE_some, outE_none, outE_ite, agE_1, loopE_1, agE_2, loopE_2, agE_3, loopE_3, agE_4, loopE_4, agE_5, loopE_5, agE_6, loopE_6, agE_7, loopE_7, agE_8, loopE_8, agE_9, loopE_9, List.cons_append, List.nil_append, List.append_nil, split, List.take_succ_cons, List.take_zero, List.drop_succ_cons, List.drop_zero, k, h]
theorem s24 {lc : List Ct} (hl0 : look (lc.map fun c => (c.sig.id, c)) 24 = some c24) : ∀ (x0 x1 x2 x3 : Int) (x4 : List Int) (hb : ∀ c ∈ x4, 0 ≤ c ∧ c < 256) (hl : x4.length < 1000000000000000), Does1 (Phi lc) 24 [⟨.int .i64, x0⟩, ⟨.int .i64, x1⟩, ⟨.int .i64, x2⟩, ⟨.int .u32, x3⟩, ⟨.sl (.int .u8), x4⟩] [⟨.bool, decide (x2 = x4.length ∧ x3 = crcOf x4)⟩] :=
  fun x0 x1 x2 x3 x4 hb hl => Does1.of hl0 (f24 x0 x1 x2 x3 x4 hb hl) rfl
theorem f25 (x0 x1 x2 x3 : Int) (x4 : List Int) (hb : ∀ c ∈ x4, 0 ≤ c ∧ c < 256) (hl : x4.length < 1000000000000000) : F25 [⟨.int .i64, x0⟩, ⟨.int .i64, x1⟩, ⟨.int .i64, x2⟩, ⟨.int .u32, x3⟩, ⟨.sl (.int .u8), x4⟩] = some [⟨.bool, decide (x2 = x4.length ∧ x3 = crcOf x4)⟩] := by
  have h74 := s74 (lc := [c74]) rfl
  simp only [F25, Fof, ir25]
  generalize Phi [c74] = Φ at *
  have k := h74 x4 hb hl
  by_cases h : x2 = x4.length <;> simp [↓den_start, ↓deb_op, ↓deb_ret, ↓deb_jump, ↓deb_itev, ↓deb_itel, ↓deb_loop, ↓deb_fail, ↓deb_nilcv, nilE_some, opE_some, debP_nil, debP_cons, pushL_nil, pushL_cons, retE_some, iteE_some, evB_nil, evB_v, evB_l, lkE_cons, consE_some, d_int, d_bool, d_str, d_nil, o_add, o_sub, o_mul, o_and, o_or, o_xor, o_andNot, o_quo, o_rem, o_shl, o_shr, o_eql, o_neq, o_lss, o_leq, o_gtr, o_geq, o_seql, o_sneq, o_slss, o_sleq, o_sgtr, o_sgeq, o_beql, o_bneq, o_scat, o_not, o_neg, o_com, o_conv, o_s2b, o_b2s, o_len, o_slen, o_inb, o_idx, o_sidx, o_sub3, o_sub2, o_ssub3, o_ssub2, o_app, o_apps, o_mk, mkE_some, consD_some, mkD_zero, mkD_int, mkD_str, mkD_sl, o_imin, o_imax, o_smin, o_smax, o_eqs, eqsE_some, eqC_nil, andE_some, eqC_int, eqC_bool, eqC_str, j1, outE_some, outE_none, outE_ite, agE_1, loopE_1, agE_2, loopE_2, agE_3, loopE_3, agE_4, loopE_4, agE_5, loopE_5, agE_6, loopE_6, agE_7, loopE_7, agE_8, loopE_8, agE_9, loopE_9, List.cons_append, List.nil_append, List.append_nil, split, List.take_succ_cons, List.take_zero, List.drop_succ_cons, List.drop_zero, k, h]
theorem s25 {lc : List Ct} (hl0 : look (lc.map fun c => (c.sig.id, c)) 25 = some c25) : ∀ (x0 x1 x2 x3 : Int) (x4 : List Int) (hb : ∀ c ∈ x4, 0 ≤ c ∧ c < 256) (hl : x4.length < 1000000000000000), Does1 (Phi lc) 25 [⟨.int .i64, x0⟩, ⟨.int .i64, x1⟩, ⟨.int .i64, x2⟩, ⟨.int .u32, x3⟩, ⟨.sl (.int .u8), x4⟩] [⟨.bool, decide (x2 = x4.length ∧ x3 = crcOf x4)⟩] :=
  fun x0 x1 x2 x3 x4 hb hl => Does1.of hl0 (f25 x0 x1 x2 x3 x4 hb hl) rfl
theorem f26 (x0 x1 : Int) (x : List Int) (hb : ∀ c ∈ x, 0 ≤ c ∧ c < 256) (hl : x.length < 1000000000000000) : F26 [⟨.int .i64, x0⟩, ⟨.int .i64, x1⟩, ⟨.sl (.int .u8), x⟩] = some [⟨.bool, pOk x0 x1 x.length⟩, ⟨.sl (.int .u8), []⟩, ⟨.int .i64, if pOk x0 x1 x.length = true then x0 else 0⟩, ⟨.int .i64, if pOk x0 x1 x.length = true then x1 else 0⟩, ⟨.int .i64, if pOk x0 x1 x.length = true then x.length else 0⟩, ⟨.int .u32, if pOk x0 x1 x.length = true then crcOf x else 0⟩, ⟨.int .i64, if pOk x0 x1 x.length = true then 0 else 1⟩] := by
  have h73 := s73 (lc := [c73, c20]) rfl
  have h20 := s20 (lc := [c73, c20]) rfl
  simp only [F26, Fof, ir26]
  generalize Phi [c73, c20] = Φ at *
  have k := h73 x hb hl
  have k2 := h20 true [] x0 x1 x.length (crcOf x)
  have e : cErr true [] x0 x1 x.length (crcOf x) = if pOk x0 x1 x.length = true then 0 else 1 := by simp [cErr]
  rw [e] at k2
  by_cases hp : pOk x0 x1 x.length = true
  · rw [if_pos hp] at k2; simp [↓den_start, ↓deb_op, ↓deb_ret, ↓deb_jump, ↓deb_itev, ↓deb_itel, ↓deb_loop, ↓deb_fail, ↓deb_nilcv, nilE_some, opE_some, debP_nil, debP_cons, pushL_nil, pushL_cons, retE_some, iteE_some, evB_nil, evB_v, evB_l, lkE_cons, consE_some, d_int, d_bool, d_str, d_nil, o_add, o_sub, o_mul, o_and, o_or, o_xor, o_andNot, o_quo, o_rem, o_shl, o_shr, o_eql, o_neq, o_lss, o_leq, o_gtr, o_geq, o_seql, o_sneq, o_slss, o_sleq, o_sgtr, o_sgeq, o_beql, o_bneq, o_scat, o_not, o_neg, o_com, o_conv, o_s2b, o_b2s, o_len, o_slen, o_inb, o_idx, o_sidx, o_sub3, o_sub2, o_ssub3, o_ssub2, o_app, o_apps, o_mk, mkE_some, consD_some, mkD_zero, mkD_int, mkD_str, mkD_sl, o_imin, o_imax, o_smin, o_smax, o_eqs, eqsE_some, eqC_nil, andE_some, eqC_int, eqC_bool, eqC_str, j1, outE_some, outE_none, outE_ite, agE_1, loopE_1, agE_2, loopE_2, agE_3, loopE_3, agE_4, loopE_4, agE_5, loopE_5, agE_6, loopE_6, agE_7, loopE_7, agE_8, loopE_8, agE_9, loopE_9, List.cons_append, List.nil_append, List.append_nil, split, List.take_succ_cons, List.take_zero, List.drop_succ_cons, List.drop_zero, k, k2, hp]
  · rw [if_neg hp] at k2; simp [↓den_start, ↓deb_op, ↓deb_ret, ↓deb_jump, ↓deb_itev, ↓deb_itel, ↓deb_loop, ↓deb_fail, ↓deb_nilcv, nilE_some, opE_some, debP_nil, debP_cons, pushL_nil, pushL_cons, retE_some, iteE_some, evB_nil, evB_v, evB_l, lkE_cons, consE_some, d_int, d_bool, d_str, d_nil, o_add, o_sub, o_mul, o_and, o_or, o_xor, o_andNot, o_quo, o_rem, o_shl, o_shr, o_eql, o_neq, o_lss, o_leq, o_gtr, o_geq, o_seql, o_sneq, o_slss, o_sleq, o_sgtr, o_sgeq, o_beql, o_bneq, o_scat, o_not, o_neg, o_com, o_conv, o_s2b, o_b2s, o_len, o_slen, o_inb, o_idx, o_sidx, o_sub3, o_sub2, o_ssub3, o_ssub2, o_app, o_apps, o_mk, mkE_some, consD_some, mkD_zero, mkD_int, mkD_str, mkD_sl, o_imin, o_imax, o_smin, o_smax, o_eqs, eqsE_some, eqC_nil, andE_some, eqC_int, eqC_bool, eqC_str, j1, outE_some, outE_none, outE_ite, agE_1, loopE_1, agE_2, loopE_2, agE_3, loopE_3, agE_4, loopE_4, agE_5, loopE_5, agE_6, loopE_6, agE_7, loopE_7, agE_8, loopE_8, agE_9, loopE_9, List.cons_append, List.nil_append, List.append_nil, split, List.take_succ_cons, List.take_zero, List.drop_succ_cons, List.drop_zero, k, k2, hp]
theorem s26 {lc : List Ct} (hl0 : look (lc.map fun c => (c.sig.id, c)) 26 = some c26) : ∀ (x0 x1 : Int) (x : List Int) (hb : ∀ c ∈ x, 0 ≤ c ∧ c < 256) (hl : x.length < 1000000000000000), Does1 (Phi lc) 26 [⟨.int .i64, x0⟩, ⟨.int .i64, x1⟩, ⟨.sl (.int .u8), x⟩] [⟨.bool, pOk x0 x1 x.length⟩, ⟨.sl (.int .u8), []⟩, ⟨.int .i64, if pOk x0 x1 x.length = true then x0 else 0⟩, ⟨.int .i64, if pOk x0 x1 x.length = true then x1 else 0⟩, ⟨.int .i64, if pOk x0 x1 x.length = true then x.length else 0⟩, ⟨.int .u32, if pOk x0 x1 x.length = true then crcOf x else 0⟩, ⟨.int .i64, if pOk x0 x1 x.length = true then 0 else 1⟩] :=
  fun x0 x1 x hb hl => Does1.of hl0 (f26 x0 x1 x hb hl) rfl
theorem f72 (x : List Int) (hl : x.length < 100000000000) : F72 [⟨.sl (.int .u8), x⟩] = some [⟨.sl (.int .u8), x⟩] := by
  simp only [F72, Fof, ir72]
  have hb : x.length ≤ BIG := by simp only [BIG]; omega
  by_cases hx : x = []
  · subst hx; simp [↓den_start, ↓deb_op, ↓deb_ret, ↓deb_jump, ↓deb_itev, ↓deb_itel, ↓deb_loop, ↓deb_fail, ↓deb_nilcv, nilE_some, opE_some, debP_nil, debP_cons, pushL_nil, pushL_cons, retE_some, iteE_some, evB_nil, evB_v, evB_l, lkE_cons, consE_some, d_int, d_bool, d_str, d_nil, o_add, o_sub, o_mul, o_and, o_or, o_xor, o_andNot, o_quo, o_rem, o_shl, o_shr, o_eql, o_neq, o_lss, o_leq, o_gtr, o_geq, o_seql, o_sneq, o_slss, o_sleq, o_sgtr, o_sgeq, o_beql, o_bneq, o_scat, o_not, o_neg, o_com, o_conv, o_s2b, o_b2s, o_len, o_slen, o_inb, o_idx, o_sidx, o_sub3, o_sub2, o_ssub3, o_ssub2, o_app, o_apps, o_mk, mkE_some, consD_some, mkD_zero, mkD_int, mkD_str, mkD_sl, o_imin, o_imax, o_smin, o_smax, o_eqs, eqsE_some, eqC_nil, andE_some, eqC_int, eqC_bool, eqC_str, j1, outE_some, outE_none, outE_ite, agE_1, loopE_1, agE_2, loopE_2, agE_3, loopE_3, agE_4, loopE_4, agE_5, loopE_5, agE_6, loopE_6, agE_7, loopE_7, agE_8, loopE_8, agE_9, loopE_9, List.cons_append, List.nil_append, List.append_nil, split, List.take_succ_cons, List.take_zero, List.drop_succ_cons, List.drop_zero, eqO, BIG]
  · simp [↓den_start, ↓deb_op, ↓deb_ret, ↓deb_jump, ↓deb_itev, ↓deb_itel, ↓deb_loop, ↓deb_fail, ↓deb_nilcv, nilE_some, opE_some, debP_nil, debP_cons, pushL_nil, pushL_cons, retE_some, iteE_some, evB_nil, evB_v, evB_l, lkE_cons, consE_some, d_int, d_bool, d_str, d_nil, o_add, o_sub, o_mul, o_and, o_or, o_xor, o_andNot, o_quo, o_rem, o_shl, o_shr, o_eql, o_neq, o_lss, o_leq, o_gtr, o_geq, o_seql, o_sneq, o_slss, o_sleq, o_sgtr, o_sgeq, o_beql, o_bneq, o_scat, o_not, o_neg, o_com, o_conv, o_s2b, o_b2s, o_len, o_slen, o_inb, o_idx, o_sidx, o_sub3, o_sub2, o_ssub3, o_ssub2, o_app, o_apps, o_mk, mkE_some, consD_some, mkD_zero, mkD_int, mkD_str, mkD_sl, o_imin, o_imax, o_smin, o_smax, o_eqs, eqsE_some, eqC_nil, andE_some, eqC_int, eqC_bool, eqC_str, j1, outE_some, outE_none, outE_ite, agE_1, loopE_1, agE_2, loopE_2, agE_3, loopE_3, agE_4, loopE_4, agE_5, loopE_5, agE_6, loopE_6, agE_7, loopE_7, agE_8, loopE_8, agE_9, loopE_9, List.cons_append, List.nil_append, List.append_nil, split, List.take_succ_cons, List.take_zero, List.drop_succ_cons, List.drop_zero, hb, hx]
theorem s72 {lc : List Ct} (hl0 : look (lc.map fun c => (c.sig.id, c)) 72 = some c72) : ∀ (x : List Int) (hl : x.length < 100000000000), Does1 (Phi lc) 72 [⟨.sl (.int .u8), x⟩] [⟨.sl (.int .u8), x⟩] :=
  fun x hl => Does1.of hl0 (f72 x hl) rfl
theorem f23 (x : List Int) (n : Int) (hl : x.length < 100000000000) : F23 [⟨.sl (.int .u8), x⟩, ⟨.int .i64, n⟩] = some [⟨.bool, false⟩, ⟨.sl (.int .u8), if (x.length : Int) ≤ n ∧ x.length ≤ 32 then x else []⟩, ⟨.int .i64, 0⟩, ⟨.int .i64, 0⟩, ⟨.int .i64, 0⟩, ⟨.int .u32, 0⟩, ⟨.bool, decide ((x.length : Int) ≤ n ∧ x.length ≤ 32)⟩] := by
  have h72 := s72 (lc := [c72]) rfl
  simp only [F23, Fof, ir23]
  generalize Phi [c72] = Φ at *
  have k := h72 x hl
  by_cases h1 : n < (x.length : Int)
  · have h1' : ¬ ((x.length : Int) ≤ n) := by omega
    simp [↓den_start, ↓deb_op, ↓deb_ret, ↓deb_jump, ↓deb_itev, ↓deb_itel, ↓deb_loop, ↓deb_fail, ↓deb_nilcv, nilE_some, opE_some, debP_nil, debP_cons, pushL_nil, pushL_cons, retE_some, iteE_some, evB_nil, evB_v, evB_l, lkE_cons, consE_some, d_int, d_bool, d_str, d_nil, o_add, o_sub, o_mul, o_and, o_or, o_xor, o_andNot, o_quo, o_rem, o_shl, o_shr, o_eql, o_neq, o_lss, o_leq, o_gtr, o_geq, o_seql, o_sneq, o_slss, o_sleq, o_sgtr, o_sgeq, o_beql, o_bneq, o_scat, o_not, o_neg, o_com, o_conv, o_s2b, o_b2s, o_len, o_slen, o_inb, o_idx, o_sidx, o_sub3, o_sub2, o_ssub3, o_ssub2, o_app, o_apps, o_mk, mkE_some, consD_some, mkD_zero, mkD_int, mkD_str, mkD_sl, o_imin, o_imax, o_smin, o_smax, o_eqs, eqsE_some, eqC_nil, andE_some, eqC_int, eqC_bool, eqC_str, j1, outE_some, outE_none, outE_ite, agE_1, loopE_1, agE_2, loopE_2, agE_3, loopE_3, agE_4, loopE_4, agE_5, loopE_5, agE_6, loopE_6, agE_7, loopE_7, agE_8, loopE_8, agE_9, loopE_9, List.cons_append, List.nil_append, List.append_nil, split, List.take_succ_cons, List.take_zero, List.drop_succ_cons, List.drop_zero, h1, h1']
  · have h1' : (x.length : Int) ≤ n := by omega
    by_cases h2 : (32 : Int) < x.length
    · have h2' : ¬ (x.length ≤ 32) := by omega
      simp [↓den_start, ↓deb_op, ↓deb_ret, ↓deb_jump, ↓deb_itev, ↓deb_itel, ↓deb_loop, ↓deb_fail, ↓deb_nilcv, nilE_some, opE_some, debP_nil, debP_cons, pushL_nil, pushL_cons, retE_some, iteE_some, evB_nil, evB_v, evB_l, lkE_cons, consE_some, d_int, d_bool, d_str, d_nil, o_add, o_sub, o_mul, o_and, o_or, o_xor, o_andNot, o_quo, o_rem, o_shl, o_shr, o_eql, o_neq, o_lss, o_leq, o_gtr, o_geq, o_seql, o_sneq, o_slss, o_sleq, o_sgtr, o_sgeq, o_beql, o_bneq, o_scat, o_not, o_neg, o_com, o_conv, o_s2b, o_b2s, o_len, o_slen, o_inb, o_idx, o_sidx, o_sub3, o_sub2, o_ssub3, o_ssub2, o_app, o_apps, o_mk, mkE_some, consD_some, mkD_zero, mkD_int, mkD_str, mkD_sl, o_imin, o_imax, o_smin, o_smax, o_eqs, eqsE_some, eqC_nil, andE_some, eqC_int, eqC_bool, eqC_str, j1, outE_some, outE_none, outE_ite, agE_1, loopE_1, agE_2, loopE_2, agE_3, loopE_3, agE_4, loopE_4, agE_5, loopE_5, agE_6, loopE_6, agE_7, loopE_7, agE_8, loopE_8, agE_9, loopE_9, List.cons_append, List.nil_append, List.append_nil, split, List.take_succ_cons, List.take_zero, List.drop_succ_cons, List.drop_zero, h1, h1', h2, h2']
    · have h2' : x.length ≤ 32 := by omega
      simp [↓den_start, ↓deb_op, ↓deb_ret, ↓deb_jump, ↓deb_itev, ↓deb_itel, ↓deb_loop, ↓deb_fail, ↓deb_nilcv, nilE_some, opE_some, debP_nil, debP_cons, pushL_nil, pushL_cons, retE_some, iteE_some, evB_nil, evB_v, evB_l, lkE_cons, consE_some, d_int, d_bool, d_str, d_nil, o_add, o_sub, o_mul, o_and, o_or, o_xor, o_andNot, o_quo, o_rem, o_shl, o_shr, o_eql, o_neq, o_lss, o_leq, o_gtr, o_geq, o_seql, o_sneq, o_slss, o_sleq, o_sgtr, o_sgeq, o_beql, o_bneq, o_scat, o_not, o_neg, o_com, o_conv, o_s2b, o_b2s, o_len, o_slen, o_inb, o_idx, o_sidx, o_sub3, o_sub2, o_ssub3, o_ssub2, o_app, o_apps, o_mk, mkE_some, consD_some, mkD_zero, mkD_int, mkD_str, mkD_sl, o_imin, o_imax, o_smin, o_smax, o_eqs, eqsE_some, eqC_nil, andE_some, eqC_int, eqC_bool, eqC_str, j1, outE_some, outE_none, outE_ite, agE_1, loopE_1, agE_2, loopE_2, agE_3, loopE_3, agE_4, loopE_4, agE_5, loopE_5, agE_6, loopE_6, agE_7, loopE_7, agE_8, loopE_8, agE_9, loopE_9, List.cons_append, List.nil_append, List.append_nil, split, List.take_succ_cons, List.take_zero, List.drop_succ_cons, List.drop_zero, h1, h1', h2, h2', k]
theorem s23 {lc : List Ct} (hl0 : look (lc.map fun c => (c.sig.id, c)) 23 = some c23) : ∀ (x : List Int) (n : Int) (hl : x.length < 100000000000), Does1 (Phi lc) 23 [⟨.sl (.int .u8), x⟩, ⟨.int .i64, n⟩] [⟨.bool, false⟩, ⟨.sl (.int .u8), if (x.length : Int) ≤ n ∧ x.length ≤ 32 then x else []⟩, ⟨.int .i64, 0⟩, ⟨.int .i64, 0⟩, ⟨.int .i64, 0⟩, ⟨.int .u32, 0⟩, ⟨.bool, decide ((x.length : Int) ≤ n ∧ x.length ≤ 32)⟩] :=
  fun x n hl => Does1.of hl0 (f23 x n hl) rfl
end Go.Proofs.Ytdjknicjnaiomaa.Sx

/- The law CellHolds. -/
namespace Go.Proofs.Ytdjknicjnaiomaa.Sx

theorem crcOf_lt (l : List Int) : 0 ≤ crcOf l ∧ crcOf l < 4294967296 := val_lt _

theorem f4 (x0 : List Int) (x1 x2 x3 x4 x5 : Int) (hb : ∀ c ∈ x0, 0 ≤ c ∧ c < 256) : F4 [⟨.sl (.int .u8), x0⟩, ⟨.int .i64, x1⟩, ⟨.int .i64, x2⟩, ⟨.int .i64, x3⟩, ⟨.int .u32, x4⟩, ⟨.int .i64, x5⟩] = some [⟨.bool, true⟩] := by
  have h15 := s15 (lc := [c15, c23, c18, c24, c25, c26, c27]) rfl
  have h23 := s23 (lc := [c15, c23, c18, c24, c25, c26, c27]) rfl
  have h18 := s18 (lc := [c15, c23, c18, c24, c25, c26, c27]) rfl
  have h24 := s24 (lc := [c15, c23, c18, c24, c25, c26, c27]) rfl
  have h25 := s25 (lc := [c15, c23, c18, c24, c25, c26, c27]) rfl
  have h26 := s26 (lc := [c15, c23, c18, c24, c25, c26, c27]) rfl
  have h27 := s27 (lc := [c15, c23, c18, c24, c25, c26, c27]) rfl
  simp only [F4, Fof, ir4]
  generalize Phi [c15, c23, c18, c24, c25, c26, c27] = Φ at *
  have h15 := h15 ()
  by_cases g : (5000 : Int) < x0.length
  · simp [↓den_start, ↓deb_op, ↓deb_ret, ↓deb_jump, ↓deb_itev, ↓deb_itel, ↓deb_loop, ↓deb_fail, ↓deb_nilcv, nilE_some, opE_some, debP_nil, debP_cons, pushL_nil, pushL_cons, retE_some, iteE_some, evB_nil, evB_v, evB_l, lkE_cons, consE_some, d_int, d_bool, d_str, d_nil, o_add, o_sub, o_mul, o_and, o_or, o_xor, o_andNot, o_quo, o_rem, o_shl, o_shr, o_eql, o_neq, o_lss, o_leq, o_gtr, o_geq, o_seql, o_sneq, o_slss, o_sleq, o_sgtr, o_sgeq, o_beql, o_bneq, o_scat, o_not, o_neg, o_com, o_conv, o_s2b, o_b2s, o_len, o_slen, o_inb, o_idx, o_sidx, o_sub3, o_sub2, o_ssub3, o_ssub2, o_app, o_apps, o_mk, mkE_some, consD_some, mkD_zero, mkD_int, mkD_str, mkD_sl, o_imin, o_imax, o_smin, o_smax, o_eqs, eqsE_some, eqC_nil, andE_some, eqC_int, eqC_bool, eqC_str, j1, outE_some, outE_none, outE_ite, agE_1, loopE_1, agE_2, loopE_2, agE_3, loopE_3, agE_4, loopE_4, agE_5, loopE_5, agE_6, loopE_6, agE_7, loopE_7, agE_8, loopE_8, agE_9, loopE_9, List.cons_append, List.nil_append, List.append_nil, split, List.take_succ_cons, List.take_zero, List.drop_succ_cons, List.drop_zero, h15, g]
  have hl : x0.length < 1000000000000000 := by omega
  have k23 := h23 x0 x5 (by omega)
  have k24 := h24 x1 x2 x3 x4 x0 hb hl
  have k25 := h25 x1 x2 x3 x4 x0 hb hl
  have k26 := h26 x1 x2 x0 hb hl
  have k27 := h27 x1 x2 x0.length 0
  have hbig : x0.length ≤ BIG := by simp only [BIG]; omega
  have k18a := h18 false false x0 x0 0 0 0 0 0 0 0 0 (by omega)
  have k18b := h18 false false [] [] 0 0 0 0 0 0 0 0 (by simp)
  have near : ((x0.length : Int) ≤ x5 ∧ x0.length ≤ 32 ∧ (x0.length : Int) ≤ 32) ∨ ((x0.length : Int) ≤ x5 ∧ ¬ x0.length ≤ 32 ∧ ¬ (x0.length : Int) ≤ 32) ∨ (¬ (x0.length : Int) ≤ x5) := by omega
  by_cases hp : pOk x1 x2 x0.length = true
  · have k24b := h24 x1 x2 x0.length (crcOf x0) x0 hb hl
    have k25b := h25 x1 x2 x0.length (crcOf x0) x0 hb hl
    rw [hp] at k27
    simp only [hp, if_true] at k26
    rcases near with ⟨q1, q2, q3⟩ | ⟨q1, q2, q3⟩ | q1
    · simp only [q1, q2, and_self, if_true, decide_true] at k23
      simp [↓den_start, ↓deb_op, ↓deb_ret, ↓deb_jump, ↓deb_itev, ↓deb_itel, ↓deb_loop, ↓deb_fail, ↓deb_nilcv, nilE_some, opE_some, debP_nil, debP_cons, pushL_nil, pushL_cons, retE_some, iteE_some, evB_nil, evB_v, evB_l, lkE_cons, consE_some, d_int, d_bool, d_str, d_nil, o_add, o_sub, o_mul, o_and, o_or, o_xor, o_andNot, o_quo, o_rem, o_shl, o_shr, o_eql, o_neq, o_lss, o_leq, o_gtr, o_geq, o_seql, o_sneq, o_slss, o_sleq, o_sgtr, o_sgeq, o_beql, o_bneq, o_scat, o_not, o_neg, o_com, o_conv, o_s2b, o_b2s, o_len, o_slen, o_inb, o_idx, o_sidx, o_sub3, o_sub2, o_ssub3, o_ssub2, o_app, o_apps, o_mk, mkE_some, consD_some, mkD_zero, mkD_int, mkD_str, mkD_sl, o_imin, o_imax, o_smin, o_smax, o_eqs, eqsE_some, eqC_nil, andE_some, eqC_int, eqC_bool, eqC_str, j1, outE_some, outE_none, outE_ite, agE_1, loopE_1, agE_2, loopE_2, agE_3, loopE_3, agE_4, loopE_4, agE_5, loopE_5, agE_6, loopE_6, agE_7, loopE_7, agE_8, loopE_8, agE_9, loopE_9, List.cons_append, List.nil_append, List.append_nil, split, List.take_succ_cons, List.take_zero, List.drop_succ_cons, List.drop_zero, h15, g, hbig, k23, k24, k25, k26, k27, k24b, k25b, k18a, q1, q3]
    · simp only [q1, q2, and_false, if_false, decide_false] at k23
      simp [↓den_start, ↓deb_op, ↓deb_ret, ↓deb_jump, ↓deb_itev, ↓deb_itel, ↓deb_loop, ↓deb_fail, ↓deb_nilcv, nilE_some, opE_some, debP_nil, debP_cons, pushL_nil, pushL_cons, retE_some, iteE_some, evB_nil, evB_v, evB_l, lkE_cons, consE_some, d_int, d_bool, d_str, d_nil, o_add, o_sub, o_mul, o_and, o_or, o_xor, o_andNot, o_quo, o_rem, o_shl, o_shr, o_eql, o_neq, o_lss, o_leq, o_gtr, o_geq, o_seql, o_sneq, o_slss, o_sleq, o_sgtr, o_sgeq, o_beql, o_bneq, o_scat, o_not, o_neg, o_com, o_conv, o_s2b, o_b2s, o_len, o_slen, o_inb, o_idx, o_sidx, o_sub3, o_sub2, o_ssub3, o_ssub2, o_app, o_apps, o_mk, mkE_some, consD_some, mkD_zero, mkD_int, mkD_str, mkD_sl, o_imin, o_imax, o_smin, o_smax, o_eqs, eqsE_some, eqC_nil, andE_some, eqC_int, eqC_bool, eqC_str, j1, outE_some, outE_none, outE_ite, agE_1, loopE_1, agE_2, loopE_2, agE_3, loopE_3, agE_4, loopE_4, agE_5, loopE_5, agE_6, loopE_6, agE_7, loopE_7, agE_8, loopE_8, agE_9, loopE_9, List.cons_append, List.nil_append, List.append_nil, split, List.take_succ_cons, List.take_zero, List.drop_succ_cons, List.drop_zero, h15, g, hbig, k23, k24, k25, k26, k27, k24b, k25b, k18b, q1, q3]
    · simp only [q1, false_and, if_false, decide_false] at k23
      simp [↓den_start, ↓deb_op, ↓deb_ret, ↓deb_jump, ↓deb_itev, ↓deb_itel, ↓deb_loop, ↓deb_fail, ↓deb_nilcv, nilE_some, opE_some, debP_nil, debP_cons, pushL_nil, pushL_cons, retE_some, iteE_some, evB_nil, evB_v, evB_l, lkE_cons, consE_some, d_int, d_bool, d_str, d_nil, o_add, o_sub, o_mul, o_and, o_or, o_xor, o_andNot, o_quo, o_rem, o_shl, o_shr, o_eql, o_neq, o_lss, o_leq, o_gtr, o_geq, o_seql, o_sneq, o_slss, o_sleq, o_sgtr, o_sgeq, o_beql, o_bneq, o_scat, o_not, o_neg, o_com, o_conv, o_s2b, o_b2s, o_len, o_slen, o_inb, o_idx, o_sidx, o_sub3, o_sub2, o_ssub3, o_ssub2, o_app, o_apps, o_mk, mkE_some, consD_some, mkD_zero, mkD_int, mkD_str, mkD_sl, o_imin, o_imax, o_smin, o_smax, o_eqs, eqsE_some, eqC_nil, andE_some, eqC_int, eqC_bool, eqC_str, j1, outE_some, outE_none, outE_ite, agE_1, loopE_1, agE_2, loopE_2, agE_3, loopE_3, agE_4, loopE_4, agE_5, loopE_5, agE_6, loopE_6, agE_7, loopE_7, agE_8, loopE_8, agE_9, loopE_9, List.cons_append, List.nil_append, List.append_nil, split, List.take_succ_cons, List.take_zero, List.drop_succ_cons, List.drop_zero, h15, g, hbig, k23, k24, k25, k26, k27, k24b, k25b, k18b, q1]
  · have hp : pOk x1 x2 x0.length = false := by simpa using hp
    rw [hp] at k27
    simp only [hp, Bool.false_eq_true, if_false] at k26
    rcases near with ⟨q1, q2, q3⟩ | ⟨q1, q2, q3⟩ | q1
    · simp only [q1, q2, and_self, if_true, decide_true] at k23
      simp [↓den_start, ↓deb_op, ↓deb_ret, ↓deb_jump, ↓deb_itev, ↓deb_itel, ↓deb_loop, ↓deb_fail, ↓deb_nilcv, nilE_some, opE_some, debP_nil, debP_cons, pushL_nil, pushL_cons, retE_some, iteE_some, evB_nil, evB_v, evB_l, lkE_cons, consE_some, d_int, d_bool, d_str, d_nil, o_add, o_sub, o_mul, o_and, o_or, o_xor, o_andNot, o_quo, o_rem, o_shl, o_shr, o_eql, o_neq, o_lss, o_leq, o_gtr, o_geq, o_seql, o_sneq, o_slss, o_sleq, o_sgtr, o_sgeq, o_beql, o_bneq, o_scat, o_not, o_neg, o_com, o_conv, o_s2b, o_b2s, o_len, o_slen, o_inb, o_idx, o_sidx, o_sub3, o_sub2, o_ssub3, o_ssub2, o_app, o_apps, o_mk, mkE_some, consD_some, mkD_zero, mkD_int, mkD_str, mkD_sl, o_imin, o_imax, o_smin, o_smax, o_eqs, eqsE_some, eqC_nil, andE_some, eqC_int, eqC_bool, eqC_str, j1, outE_some, outE_none, outE_ite, agE_1, loopE_1, agE_2, loopE_2, agE_3, loopE_3, agE_4, loopE_4, agE_5, loopE_5, agE_6, loopE_6, agE_7, loopE_7, agE_8, loopE_8, agE_9, loopE_9, List.cons_append, List.nil_append, List.append_nil, split, List.take_succ_cons, List.take_zero, List.drop_succ_cons, List.drop_zero, h15, g, hbig, k23, k24, k25, k26, k27, k18a, k18b, q1, q3]
    · simp only [q1, q2, and_false, if_false, decide_false] at k23
      simp [↓den_start, ↓deb_op, ↓deb_ret, ↓deb_jump, ↓deb_itev, ↓deb_itel, ↓deb_loop, ↓deb_fail, ↓deb_nilcv, nilE_some, opE_some, debP_nil, debP_cons, pushL_nil, pushL_cons, retE_some, iteE_some, evB_nil, evB_v, evB_l, lkE_cons, consE_some, d_int, d_bool, d_str, d_nil, o_add, o_sub, o_mul, o_and, o_or, o_xor, o_andNot, o_quo, o_rem, o_shl, o_shr, o_eql, o_neq, o_lss, o_leq, o_gtr, o_geq, o_seql, o_sneq, o_slss, o_sleq, o_sgtr, o_sgeq, o_beql, o_bneq, o_scat, o_not, o_neg, o_com, o_conv, o_s2b, o_b2s, o_len, o_slen, o_inb, o_idx, o_sidx, o_sub3, o_sub2, o_ssub3, o_ssub2, o_app, o_apps, o_mk, mkE_some, consD_some, mkD_zero, mkD_int, mkD_str, mkD_sl, o_imin, o_imax, o_smin, o_smax, o_eqs, eqsE_some, eqC_nil, andE_some, eqC_int, eqC_bool, eqC_str, j1, outE_some, outE_none, outE_ite, agE_1, loopE_1, agE_2, loopE_2, agE_3, loopE_3, agE_4, loopE_4, agE_5, loopE_5, agE_6, loopE_6, agE_7, loopE_7, agE_8, loopE_8, agE_9, loopE_9, List.cons_append, List.nil_append, List.append_nil, split, List.take_succ_cons, List.take_zero, List.drop_succ_cons, List.drop_zero, h15, g, hbig, k23, k24, k25, k26, k27, k18b, q1, q3]
    · simp only [q1, false_and, if_false, decide_false] at k23
      simp [↓den_start, ↓deb_op, ↓deb_ret, ↓deb_jump, ↓deb_itev, ↓deb_itel, ↓deb_loop, ↓deb_fail, ↓deb_nilcv, nilE_some, opE_some, debP_nil, debP_cons, pushL_nil, pushL_cons, retE_some, iteE_some, evB_nil, evB_v, evB_l, lkE_cons, consE_some, d_int, d_bool, d_str, d_nil, o_add, o_sub, o_mul, o_and, o_or, o_xor, o_andNot, o_quo, o_rem, o_shl, o_shr, o_eql, o_neq, o_lss, o_leq, o_gtr, o_geq, o_seql, o_sneq, o_slss, o_sleq, o_sgtr, o_sgeq, o_beql, o_bneq, o_scat, o_not, o_neg, o_com, o_conv, o_s2b, o_b2s, o_len, o_slen, o_inb, o_idx, o_sidx, o_sub3, o_sub2, o_ssub3, o_ssub2, o_app, o_apps, o_mk, mkE_some, consD_some, mkD_zero, mkD_int, mkD_str, mkD_sl, o_imin, o_imax, o_smin, o_smax, o_eqs, eqsE_some, eqC_nil, andE_some, eqC_int, eqC_bool, eqC_str, j1, outE_some, outE_none, outE_ite, agE_1, loopE_1, agE_2, loopE_2, agE_3, loopE_3, agE_4, loopE_4, agE_5, loopE_5, agE_6, loopE_6, agE_7, loopE_7, agE_8, loopE_8, agE_9, loopE_9, List.cons_append, List.nil_append, List.append_nil, split, List.take_succ_cons, List.take_zero, List.drop_succ_cons, List.drop_zero, h15, g, hbig, k23, k24, k25, k26, k27, k18b, q1]
theorem s4 {lc : List Ct} (hl0 : look (lc.map fun c => (c.sig.id, c)) 4 = some c4) : ∀ (x0 : List Int) (x1 x2 x3 x4 x5 : Int) (hb : ∀ c ∈ x0, 0 ≤ c ∧ c < 256), Does1 (Phi lc) 4 [⟨.sl (.int .u8), x0⟩, ⟨.int .i64, x1⟩, ⟨.int .i64, x2⟩, ⟨.int .i64, x3⟩, ⟨.int .u32, x4⟩, ⟨.int .i64, x5⟩] [⟨.bool, true⟩] :=
  fun x0 x1 x2 x3 x4 x5 hb => Does1.of hl0 (f4 x0 x1 x2 x3 x4 x5 hb) rfl
end Go.Proofs.Ytdjknicjnaiomaa.Sx

/- Numbers read back from bytes. -/
namespace Go.Proofs.Ytdjknicjnaiomaa.Sx

def dec : Nat → List Int → Option (Nat × Nat)
  | 0, _ => none
  | _, [] => none
  | k + 1, c :: l => if c < 128 then some (c.toNat, 1) else match dec k l with
    | some (v, n) => if v = 0 then none else some ((c % 128).toNat + 128 * v, n + 1)
    | none => none

def getv (b : List Int) : Option (Nat × Nat) := match dec 10 b with
  | some (v, n) => if v < 18446744073709551616 then some (v, n) else none
  | none => none
def gvV (b : List Int) : Int := match getv b with | some (v, _) => v | none => 0
def gvN (b : List Int) : Nat := match getv b with | some (_, n) => n | none => 0

theorem dec_one : ∀ (k v : Nat) (r : List Int), (one v).length ≤ k → dec k (one v ++ r) = some (v, (one v).length)
  | 0, v, r, h => by have := one_pos v; omega
  | k + 1, v, r, h => by
    by_cases hv : v < 128
    · rw [one_small hv]
      simp only [List.cons_append, List.nil_append, dec, List.length_cons, List.length_nil]
      rw [if_pos (by omega)]; simp
    · rw [one_big hv] at h ⊢
      simp only [List.cons_append, dec, List.length_cons] at h ⊢
      rw [if_neg (by omega), dec_one k (v / 128) r (by omega)]
      simp only
      rw [if_neg (by omega)]
      congr 2
      omega

theorem dec_inv : ∀ (k : Nat) (b : List Int) (v n : Nat), (∀ c ∈ b, 0 ≤ c ∧ c < 256) → dec k b = some (v, n) → b.take n = one v ∧ n = (one v).length ∧ n ≤ k ∧ n ≤ b.length
  | 0, b, v, n, _, h => by simp [dec] at h
  | k + 1, [], v, n, _, h => by simp [dec] at h
  | k + 1, c :: l, v, n, hb, h => by
    obtain ⟨c0, c1⟩ := hb c (by simp)
    simp only [dec] at h
    split at h
    · simp only [Option.some.injEq, Prod.mk.injEq] at h
      obtain ⟨rfl, rfl⟩ := h
      rw [one_small (by omega)]
      simp; omega
    · split at h
      · rename_i v' n' hd
        split at h
        · cases h
        · simp only [Option.some.injEq, Prod.mk.injEq] at h
          obtain ⟨rfl, rfl⟩ := h
          obtain ⟨k1, k2, k3, k4⟩ := dec_inv k l v' n' (fun c hc => hb c (by simp [hc])) hd
          have hbig : ¬ ((c % 128).toNat + 128 * v' < 128) := by omega
          rw [one_big hbig]
          have e1 : ((c % 128).toNat + 128 * v') / 128 = v' := by omega
          rw [e1]
          simp only [List.take_succ_cons, List.length_cons, k1]
          refine ⟨?_, by omega, by omega, by omega⟩
          congr 1
          omega
      · cases h

theorem getv_inv {b : List Int} (hb : ∀ c ∈ b, 0 ≤ c ∧ c < 256) {v n : Nat} (h : getv b = some (v, n)) : v < 18446744073709551616 ∧ b.take n = one v ∧ n = (one v).length ∧ n ≤ 10 ∧ n ≤ b.length ∧ 1 ≤ n := by
  unfold getv at h
  split at h
  · rename_i v' n' hd
    split at h
    · rename_i hv
      simp only [Option.some.injEq, Prod.mk.injEq] at h
      obtain ⟨rfl, rfl⟩ := h
      obtain ⟨h1, h2, h3, h4⟩ := dec_inv 10 b v' n' hb hd
      exact ⟨hv, h1, h2, h3, h4, by rw [h2]; exact one_pos _⟩
    · cases h
  · cases h

theorem getv_one (v : Nat) (r : List Int) (h : v < 18446744073709551616) : getv (one v ++ r) = some (v, (one v).length) := by
  unfold getv
  rw [dec_one 10 v r (one_len10 v h)]
  simp only [if_pos h]

theorem gv_none {b : List Int} (h : getv b = none) : gvV b = 0 ∧ gvN b = 0 := by simp [gvV, gvN, h]
theorem gv_some {b : List Int} {v n : Nat} (h : getv b = some (v, n)) : gvV b = v ∧ gvN b = n := by simp [gvV, gvN, h]
theorem gv_range {b : List Int} (hb : ∀ c ∈ b, 0 ≤ c ∧ c < 256) : 0 ≤ gvV b ∧ gvV b < 18446744073709551616 ∧ gvN b ≤ 10 ∧ gvN b ≤ b.length := by
  cases h : getv b with
  | none => obtain ⟨h1, h2⟩ := gv_none h; rw [h1, h2]; simp
  | some x =>
    obtain ⟨v, n⟩ := x
    obtain ⟨h1, h2⟩ := gv_some h
    obtain ⟨k1, k2, k3, k4, k5, k6⟩ := getv_inv hb h
    rw [h1, h2]; omega

theorem andNot128 (c : Int) (h0 : 0 ≤ c) (h1 : c < 256) : bAndNot .u64 c 128 = c % 128 := by
  obtain ⟨n, rfl⟩ := Int.eq_ofNat_of_zero_le h0
  have key : ∀ m : Nat, m < 256 → bAndNot .u64 (m : Int) 128 = (m : Int) % 128 := by decide +kernel
  exact key n (by omega)

theorem or_pow (x y : Int) (k : Nat) (h0 : 0 ≤ x) (h1 : x < 2 ^ k) (h2 : 0 ≤ y) (h3 : x + y * 2 ^ k < 18446744073709551616) : bOr .u64 x (IntKind.u64.wrap (y * 2 ^ k)) = x + y * 2 ^ k := by
  obtain ⟨a, rfl⟩ := Int.eq_ofNat_of_zero_le h0
  obtain ⟨b, rfl⟩ := Int.eq_ofNat_of_zero_le h2
  have hy : (0 : Int) ≤ (b : Int) * 2 ^ k := Int.mul_nonneg (by omega) (Int.le_of_lt (Int.pow_pos (by omega)))
  have e1 : ((b : Int) * 2 ^ k) = ((b * 2 ^ k : Nat) : Int) := by push_cast; rfl
  have ha : a < 2 ^ k := by
    have : ((a : Int)) < ((2 ^ k : Nat) : Int) := by push_cast; exact h1
    omega
  rw [wu64 _ hy (by omega)]
  rw [e1] at h3 ⊢
  unfold bOr
  rw [BitVec.toNat_or, ofInt_nat, ofInt_nat]
  show IntKind.u64.wrap ((a % 18446744073709551616 ||| b * 2 ^ k % 18446744073709551616 : Nat) : Int) = _
  rw [Nat.mod_eq_of_lt (by omega), Nat.mod_eq_of_lt (by omega), Nat.or_comm, Nat.mul_comm b, ← Nat.two_pow_add_eq_or_of_lt ha]
  rw [wu64 _ (by omega) (by rw [Nat.mul_comm] at h3; omega)]
  push_cast
  omega

theorem ite9 {α : Type} {p q : Prop} [Decidable p] [Decidable q] (h : ¬ (p ∧ q)) (F B : α) : (if p then (if q then F else B) else B) = B := by
  by_cases hp : p
  · rw [if_pos hp, if_neg (fun hq => h ⟨hp, hq⟩)]
  · rw [if_neg hp]

theorem pow7 : ∀ j : Nat, j < 9 → (2 : Int) ^ (7 * j) ≤ 72057594037927936 := by decide

def res90 (o : Option (Nat × Nat)) (u i : Int) : List D := match o with
  | some (v, n) => if (i ≤ 0 ∨ v ≠ 0) ∧ u + (v : Int) * 2 ^ (7 * i.toNat) < 18446744073709551616 then [⟨.int .u64, u + (v : Int) * 2 ^ (7 * i.toNat)⟩, ⟨.int .i64, i + n⟩, ⟨.int .i64, 0⟩] else [⟨.int .u64, 0⟩, ⟨.int .i64, 0⟩, ⟨.int .i64, 2⟩]
  | none => [⟨.int .u64, 0⟩, ⟨.int .i64, 0⟩, ⟨.int .i64, 2⟩]

theorem f90 (x : List Int) (hb : ∀ c ∈ x, 0 ≤ c ∧ c < 256) : F90 [⟨.sl (.int .u8), x⟩] = some [⟨.int .u64, gvV x⟩, ⟨.int .i64, gvN x⟩, ⟨.int .i64, if gvN x = 0 then 2 else 0⟩] := by
  simp only [F90, Fof, ir90]
  simp [↓den_start, ↓deb_op, ↓deb_ret, ↓deb_jump, ↓deb_itev, ↓deb_itel, ↓deb_loop, ↓deb_fail, ↓deb_nilcv, nilE_some, opE_some, debP_nil, debP_cons, pushL_nil, pushL_cons, retE_some, iteE_some, evB_nil, evB_v, evB_l, lkE_cons, consE_some, d_int, d_bool, d_str, d_nil, o_add, o_sub, o_mul, o_and, o_or, o_xor, o_andNot, o_quo, o_rem, o_shl, o_shr, o_eql, o_neq, o_lss, o_leq, o_gtr, o_geq, o_seql, o_sneq, o_slss, o_sleq, o_sgtr, o_sgeq, o_beql, o_bneq, o_scat, o_not, o_neg, o_com, o_conv, o_s2b, o_b2s, o_len, o_slen, o_inb, o_idx, o_sidx, o_sub3, o_sub2, o_ssub3, o_ssub2, o_app, o_apps, o_mk, mkE_some, consD_some, mkD_zero, mkD_int, mkD_str, mkD_sl, o_imin, o_imax, o_smin, o_smax, o_eqs, eqsE_some, eqC_nil, andE_some, eqC_int, eqC_bool, eqC_str, j1, outE_some, outE_none, outE_ite, agE_1, loopE_1, agE_2, loopE_2, agE_3, loopE_3, agE_4, loopE_4, agE_5, loopE_5, agE_6, loopE_6, agE_7, loopE_7, agE_8, loopE_8, agE_9, loopE_9, List.cons_append, List.nil_append, List.append_nil, split, List.take_succ_cons, List.take_zero, List.drop_succ_cons, List.drop_zero]
  refine (iter_meas (fun s : Int × Int => (10 - s.2).toNat) (fun s => res90 (dec (10 - s.2).toNat (x.drop s.2.toNat)) s.1 s.2)
    (fun s => 0 ≤ s.2 ∧ s.2 ≤ 10 ∧ s.2 ≤ x.length ∧ 0 ≤ s.1 ∧ s.1 < 2 ^ (7 * s.2.toNat)) (by exact ⟨by simp, by simp, by simp, by simp, by simp⟩) ?_).trans ?_
  · rintro ⟨u, i⟩ ⟨h1, h2, h3, h4, h5⟩
    simp only at h1 h2 h3 h4 h5 ⊢
    by_cases hi : i < x.length
    · by_cases hk : i < 10
      · have hg := getI (d := dflt (Ty.int IntKind.u8)) h1 hi
        have hc := hb (x[i.toNat]'(by omega)) (List.getElem_mem _)
        rw [dropI h1 hi, if_pos hi, if_pos hk, if_pos ⟨h1, hi⟩]
        simp only [hg]
        generalize x[i.toNat]'(by omega) = c at hc
        have e7 : IntKind.i64.wrap (7 * i) = 7 * i := wi64 _ (by omega) (by omega)
        have em : (7 * i).toNat.min IntKind.u64.bits = 7 * i.toNat := by
          show min (7 * i).toNat 64 = _
          omega
        have ei : IntKind.i64.wrap (i + 1) = i + 1 := wi64 _ (by omega) (by omega)
        rw [show (10 - i).toNat = (10 - (i + 1)).toNat + 1 by omega]
        simp only [wu64 c hc.1 (by omega), e7, em, ei, andNot128 c hc.1 hc.2, show ¬ (7 * i < 0) by omega, if_false]
        have hP : (0 : Int) < 2 ^ (7 * i.toNat) := Int.pow_pos (by omega)
        by_cases hA : i = 9 ∧ 1 < c
        · obtain ⟨rfl, hc1⟩ := hA
          refine .inr ?_
          rw [if_pos rfl, if_pos hc1]
          have hd : dec ((10 - (9 + 1) : Int).toNat + 1) (c :: x.drop (9 + 1 : Int).toNat) = if c < 128 then some (c.toNat, 1) else none := by simp [dec]
          rw [hd]
          split
          · simp only [res90]
            rw [if_neg]
            intro hh
            have : (9 : Int).toNat = 9 := rfl
            rw [this] at hh h5
            omega
          · rfl
        · rw [ite9 hA]
          have hle : c * 2 ^ (7 * i.toNat) ≤ 127 * 2 ^ (7 * i.toNat) ∨ 128 ≤ c := by
            by_cases h : 128 ≤ c
            · exact .inr h
            · exact .inl (Int.mul_le_mul_of_nonneg_right (by omega) (Int.le_of_lt hP))
          have hsum : c < 128 → u + c * 2 ^ (7 * i.toNat) < 18446744073709551616 := by
            intro hc'
            by_cases h9 : i = 9
            · have hc1 : c ≤ 1 := by omega
              subst h9
              have : (9 : Int).toNat = 9 := rfl
              rw [this] at h5 ⊢
              omega
            · have hp7 := pow7 i.toNat (by omega)
              generalize (2 : Int) ^ (7 * i.toNat) = P at *
              have : c * P ≤ 127 * P := by rcases hle with h | h <;> omega
              omega
          by_cases hc8 : c < 128
          · have e128 : c % 128 = c := by omega
            have hs := hsum hc8
            rw [if_pos hc8, e128, or_pow u c (7 * i.toNat) h4 h5 hc.1 hs]
            refine .inr ?_
            have hd : dec ((10 - (i + 1)).toNat + 1) (c :: x.drop (i + 1).toNat) = some (c.toNat, 1) := by simp [dec, hc8]
            rw [hd]
            have ec : ((c.toNat : Nat) : Int) = c := by omega
            by_cases hc0 : c = 0
            · rw [if_pos hc0]
              by_cases hi0 : 0 < i
              · rw [if_pos hi0]
                simp only [res90]
                rw [if_neg (by omega)]
              · rw [if_neg hi0]
                simp only [res90]
                rw [ec, if_pos ⟨by omega, hs⟩]
                rfl
            · rw [if_neg hc0]
              simp only [res90]
              rw [ec, if_pos ⟨by omega, hs⟩]
              rfl
          · rw [if_neg hc8]
            have h9 : i ≠ 9 := by omega
            have hp7 := pow7 i.toNat (by omega)
            have hmul : c % 128 * 2 ^ (7 * i.toNat) ≤ 127 * 2 ^ (7 * i.toNat) := Int.mul_le_mul_of_nonneg_right (by omega) (Int.le_of_lt hP)
            have hmul0 : 0 ≤ c % 128 * 2 ^ (7 * i.toNat) := Int.mul_nonneg (by omega) (Int.le_of_lt hP)
            have hP1 : (2 : Int) ^ (7 * (i + 1).toNat) = 128 * 2 ^ (7 * i.toNat) := by
              rw [show 7 * (i + 1).toNat = 7 + 7 * i.toNat by omega, Int.pow_add]; rfl
            rw [or_pow u (c % 128) (7 * i.toNat) h4 h5 (by omega) (by omega)]
            refine .inl ⟨(u + c % 128 * 2 ^ (7 * i.toNat), i + 1), rfl, ⟨by simp; omega, by simp; omega, by simp; omega, by simp only; omega, by simp only [hP1]; omega⟩, by simp only; omega, ?_⟩
            simp only
            simp only [dec, if_neg hc8]
            cases hd : dec (10 - (i + 1)).toNat (x.drop (i + 1).toNat) with
            | none => rfl
            | some y =>
              obtain ⟨v, n⟩ := y
              simp only [res90]
              by_cases hv : v = 0
              · rw [if_pos hv, if_neg (by omega)]
              · rw [if_neg hv]
                simp only [hP1]
                have e1 : (((c % 128).toNat + 128 * v : Nat) : Int) = c % 128 + 128 * (v : Int) := by omega
                have e2 : u + c % 128 * 2 ^ (7 * i.toNat) + (v : Int) * (128 * 2 ^ (7 * i.toNat)) = u + (c % 128 + 128 * (v : Int)) * 2 ^ (7 * i.toNat) := by
                  rw [Int.add_mul, ← Int.add_assoc, ← Int.mul_assoc, Int.mul_comm (v : Int) 128]
                rw [e1, e2]
                have hne : (c % 128).toNat + 128 * v ≠ 0 := by omega
                have e3 : i + 1 + (n : Int) = i + ((n + 1 : Nat) : Int) := by omega
                rw [e3]
                simp only [hv, hne, ne_eq, not_false_eq_true, or_true, true_and]
      · refine .inr ?_
        rw [if_pos hi, if_neg hk, show (10 - i).toNat = 0 by omega]
        simp [dec, res90]
    · refine .inr ?_
      rw [if_neg hi, List.drop_eq_nil_of_le (by omega)]
      cases (10 - i).toNat <;> simp [dec, res90]
  · simp only [Int.sub_zero, show (10 : Int).toNat = 10 from rfl, Int.toNat_zero, List.drop_zero]
    cases hd : dec 10 x with
    | none => simp [res90, gvV, gvN, getv, hd]
    | some y =>
      obtain ⟨v, n⟩ := y
      obtain ⟨k1, k2, k3, k4⟩ := dec_inv 10 x v n hb hd
      have k5 := one_pos v
      by_cases hv : v < 18446744073709551616
      · have : (v : Int) < 18446744073709551616 := by omega
        have hn : n ≠ 0 := by omega
        simp [res90, gvV, gvN, getv, hd, hv, this, hn]
      · have : ¬ (v : Int) < 18446744073709551616 := by omega
        simp [res90, gvV, gvN, getv, hd, hv, this]
theorem s90 {lc : List Ct} (hl0 : look (lc.map fun c => (c.sig.id, c)) 90 = some c90) : ∀ (x : List Int) (hb : ∀ c ∈ x, 0 ≤ c ∧ c < 256), Does1 (Phi lc) 90 [⟨.sl (.int .u8), x⟩] [⟨.int .u64, gvV x⟩, ⟨.int .i64, gvN x⟩, ⟨.int .i64, if gvN x = 0 then 2 else 0⟩] :=
  fun x hb => Does1.of hl0 (f90 x hb) rfl
end Go.Proofs.Ytdjknicjnaiomaa.Sx

/- Numbers read back from bytes: the reference. -/
namespace Go.Proofs.Ytdjknicjnaiomaa.Sx

def raw : List Int → Int
  | [] => 0
  | c :: l => c % 128 + 128 * raw l

theorem raw_one (v : Nat) : raw (one v) = v := by
  induction v using Nat.strongRecOn with
  | ind v ih =>
    by_cases hv : v < 128
    · rw [one_small hv]; simp [raw]; omega
    · rw [one_big hv]; simp only [raw]; rw [ih (v / 128) (by omega)]; omega

theorem raw_nonneg : ∀ l : List Int, 0 ≤ raw l
  | [] => by simp [raw]
  | c :: l => by have := raw_nonneg l; simp only [raw]; omega

structure Stop (x : List Int) (n : Nat) : Prop where
  pos : 1 ≤ n
  le : n ≤ x.length
  big : ∀ j c, j + 1 < n → x[j]? = some c → 128 ≤ c
  small : ∀ c, x[n - 1]? = some c → c < 128

theorem Stop.uniq {x : List Int} {m n : Nat} (h : Stop x m) (k : Stop x n) : m = n := by
  have h1 := h.pos; have h2 := h.le; have k1 := k.pos; have k2 := k.le
  rcases Nat.lt_trichotomy m n with hlt | rfl | hlt
  · have e := List.getElem?_eq_getElem (l := x) (i := m - 1) (by omega)
    have := k.big (m - 1) _ (by omega) e
    have := h.small _ e
    omega
  · rfl
  · have e := List.getElem?_eq_getElem (l := x) (i := n - 1) (by omega)
    have := h.big (n - 1) _ (by omega) e
    have := k.small _ e
    omega

theorem one_stop (v : Nat) : Stop (one v) (one v).length := by
  induction v using Nat.strongRecOn with
  | ind v ih =>
    by_cases hv : v < 128
    · rw [one_small hv]
      exact ⟨by simp, by simp, fun j c h => by simp at h, fun c h => by simp at h; omega⟩
    · have ih := ih (v / 128) (by omega)
      rw [one_big hv]
      refine ⟨by simp, by simp, fun j c h hj => ?_, fun c h => ?_⟩
      · cases j with
        | zero => simp at hj; omega
        | succ j => exact ih.big j c (by simpa using h) (by simpa using hj)
      · have hp := ih.pos
        simp only [List.length_cons, Nat.add_sub_cancel] at h
        rw [show (one (v / 128)).length = (one (v / 128)).length - 1 + 1 by omega, List.getElem?_cons_succ] at h
        exact ih.small c h

theorem stop_of {x : List Int} {v n : Nat} (h : x.take n = one v) (hn : n = (one v).length) (hl : n ≤ x.length) : Stop x n := by
  have hs := one_stop v
  rw [← hn, ← h] at hs
  refine ⟨hs.pos, hl, fun j c hj hc => hs.big j c hj ?_, fun c hc => hs.small c ?_⟩
  · rw [List.getElem?_take, if_pos (by omega)]; exact hc
  · have := hs.pos; rw [List.getElem?_take, if_pos (by omega)]; exact hc

theorem getv_stop {x : List Int} (hb : ∀ c ∈ x, 0 ≤ c ∧ c < 256) {n : Nat} (hs : Stop x n) (h10 : n ≤ 10) (u : Int) (hu : u = raw (x.take n) % 18446744073709551616) :
    (one u.toNat = x.take n → gvV x = u ∧ gvN x = n) ∧ (one u.toNat ≠ x.take n → gvV x = 0 ∧ gvN x = 0) := by
  have hr := raw_nonneg (x.take n)
  refine ⟨fun h => ?_, fun h => ?_⟩
  · have e : x = one u.toNat ++ x.drop n := by rw [h, List.take_append_drop]
    have k := getv_one u.toNat (x.drop n) (by omega)
    rw [← e] at k
    obtain ⟨k1, k2⟩ := gv_some k
    have hl := hs.le
    rw [k1, k2, h, List.length_take]
    omega
  · cases hg : getv x with
    | none => exact gv_none hg
    | some y =>
      obtain ⟨v, m⟩ := y
      obtain ⟨k1, k2, k3, k4, k5, k6⟩ := getv_inv hb hg
      have hm := (stop_of k2 k3 k5).uniq hs
      subst hm
      exfalso
      apply h
      rw [k2]
      congr 1
      rw [k2, raw_one] at hu
      omega

theorem getv_nostop {x : List Int} (hb : ∀ c ∈ x, 0 ≤ c ∧ c < 256) (h : ∀ n, n ≤ 10 → ¬ Stop x n) : gvV x = 0 ∧ gvN x = 0 := by
  cases hg : getv x with
  | none => exact gv_none hg
  | some y =>
    obtain ⟨v, m⟩ := y
    obtain ⟨k1, k2, k3, k4, k5, k6⟩ := getv_inv hb hg
    exact absurd (stop_of k2 k3 k5) (h m k4)

theorem f133 (x : List Int) (hb : ∀ c ∈ x, 0 ≤ c ∧ c < 256) (hl : x.length < 1000000000000) : F133 [⟨.sl (.int .u8), x⟩] = some [⟨.int .u64, raw x % 18446744073709551616⟩] := by
  simp only [F133, Fof, ir133]
  simp [↓den_start, ↓deb_op, ↓deb_ret, ↓deb_jump, ↓deb_itev, ↓deb_itel, ↓deb_loop, ↓deb_fail, ↓deb_nilcv, nilE_some, opE_some, debP_nil, debP_cons, pushL_nil, pushL_cons, retE_some, iteE_some, evB_nil, evB_v, evB_l, lkE_cons, consE_some, d_int, d_bool, d_str, d_nil, o_add, o_sub, o_mul, o_and, o_or, o_xor, o_andNot, o_quo, o_rem, o_shl, o_shr, o_eql, o_neq, o_lss, o_leq, o_gtr, o_geq, o_seql, o_sneq, o_slss, o_sleq, o_sgtr, o_sgeq, o_beql, o_bneq, o_scat, o_not, o_neg, o_com, o_conv, o_s2b, o_b2s, o_len, o_slen, o_inb, o_idx, o_sidx, o_sub3, o_sub2, o_ssub3, o_ssub2, o_app, o_apps, o_mk, mkE_some, consD_some, mkD_zero, mkD_int, mkD_str, mkD_sl, o_imin, o_imax, o_smin, o_smax, o_eqs, eqsE_some, eqC_nil, andE_some, eqC_int, eqC_bool, eqC_str, j1, outE_some, outE_none, outE_ite, agE_1, loopE_1, agE_2, loopE_2, agE_3, loopE_3, agE_4, loopE_4, agE_5, loopE_5, agE_6, loopE_6, agE_7, loopE_7, agE_8, loopE_8, agE_9, loopE_9, List.cons_append, List.nil_append, List.append_nil, split, List.take_succ_cons, List.take_zero, List.drop_succ_cons, List.drop_zero]
  refine (iter_meas (fun s : Int × Int => (s.2 + 1).toNat) (fun s => ([⟨.int .u64, raw x % 18446744073709551616⟩] : List D))
    (fun s => -1 ≤ s.2 ∧ s.2 < x.length ∧ s.1 = raw (x.drop (s.2 + 1).toNat) % 18446744073709551616) ?_ ?_)
  · rw [wi64 _ (by omega) (by omega)]
    refine ⟨by simp; omega, by simp; omega, ?_⟩
    simp only
    rw [List.drop_eq_nil_of_le (by omega)]
    simp [raw]
  · rintro ⟨u, i⟩ ⟨h1, h2, h3⟩
    simp only at h1 h2 h3 ⊢
    by_cases hi : 0 ≤ i
    · have hg := getI (d := dflt (Ty.int IntKind.u8)) hi h2
      have hd := dropI hi h2
      have hc := hb (x[i.toNat]'(by omega)) (List.getElem_mem _)
      rw [if_pos hi, if_pos ⟨hi, h2⟩]
      simp only [hg]
      generalize x[i.toNat]'(by omega) = c at hc hd
      refine .inl ⟨(raw (x.drop i.toNat) % 18446744073709551616, i - 1), ?_, ⟨by simp; omega, by simp; omega, by simp⟩, by simp; omega, trivial⟩
      rw [tm c 128 hc.1, wi64 (i - 1) (by omega) (by omega), hd, wu64', wu64', wu64', h3]
      simp only [raw]
      generalize raw (x.drop (i + 1).toNat) = r
      have : ((r % 18446744073709551616 * 128) % 18446744073709551616 + c % 128 % 18446744073709551616) % 18446744073709551616 = (c % 128 + 128 * r) % 18446744073709551616 := by omega
      rw [this]
    · refine .inr ?_
      rw [if_neg hi]
      have : i = -1 := by omega
      subst this
      simp at h3
      rw [h3]
theorem s133 {lc : List Ct} (hl0 : look (lc.map fun c => (c.sig.id, c)) 133 = some c133) : ∀ (x : List Int) (hb : ∀ c ∈ x, 0 ≤ c ∧ c < 256) (hl : x.length < 1000000000000), Does1 (Phi lc) 133 [⟨.sl (.int .u8), x⟩] [⟨.int .u64, raw x % 18446744073709551616⟩] :=
  fun x hb hl => Does1.of hl0 (f133 x hb hl) rfl
theorem f92 (x : List Int) (hb : ∀ c ∈ x, 0 ≤ c ∧ c < 256) (hl : x.length < 1000000000000) : F92 [⟨.sl (.int .u8), x⟩] = some [⟨.int .u64, gvV x⟩, ⟨.int .i64, gvN x⟩] := by
  have h133 := s133 (lc := [c133, c71, c69]) rfl
  have h71 := s71 (lc := [c133, c71, c69]) rfl
  have h69 := s69 (lc := [c133, c71, c69]) rfl
  simp only [F92, Fof, ir92]
  generalize Phi [c133, c71, c69] = Φ at *
  simp [↓den_start, ↓deb_op, ↓deb_ret, ↓deb_jump, ↓deb_itev, ↓deb_itel, ↓deb_loop, ↓deb_fail, ↓deb_nilcv, nilE_some, opE_some, debP_nil, debP_cons, pushL_nil, pushL_cons, retE_some, iteE_some, evB_nil, evB_v, evB_l, lkE_cons, consE_some, d_int, d_bool, d_str, d_nil, o_add, o_sub, o_mul, o_and, o_or, o_xor, o_andNot, o_quo, o_rem, o_shl, o_shr, o_eql, o_neq, o_lss, o_leq, o_gtr, o_geq, o_seql, o_sneq, o_slss, o_sleq, o_sgtr, o_sgeq, o_beql, o_bneq, o_scat, o_not, o_neg, o_com, o_conv, o_s2b, o_b2s, o_len, o_slen, o_inb, o_idx, o_sidx, o_sub3, o_sub2, o_ssub3, o_ssub2, o_app, o_apps, o_mk, mkE_some, consD_some, mkD_zero, mkD_int, mkD_str, mkD_sl, o_imin, o_imax, o_smin, o_smax, o_eqs, eqsE_some, eqC_nil, andE_some, eqC_int, eqC_bool, eqC_str, j1, outE_some, outE_none, outE_ite, agE_1, loopE_1, agE_2, loopE_2, agE_3, loopE_3, agE_4, loopE_4, agE_5, loopE_5, agE_6, loopE_6, agE_7, loopE_7, agE_8, loopE_8, agE_9, loopE_9, List.cons_append, List.nil_append, List.append_nil, split, List.take_succ_cons, List.take_zero, List.drop_succ_cons, List.drop_zero]
  refine (iter_meas (fun s : Int => (11 - s).toNat) (fun s => ([⟨.int .u64, gvV x⟩, ⟨.int .i64, gvN x⟩] : List D))
    (fun s => 1 ≤ s ∧ s ≤ 11 ∧ s ≤ x.length + 1 ∧ ∀ (j : Nat) (c : Int), (j : Int) + 1 < s → x[j]? = some c → 128 ≤ c) (by exact ⟨by omega, by omega, by omega, fun j c hj => by omega⟩) ?_)
  rintro n ⟨h1, h2, h3, h4⟩
  by_cases hn : n ≤ x.length
  · by_cases hk : n ≤ 10
    · have e1 : IntKind.i64.wrap (n - 1) = n - 1 := wi64 _ (by omega) (by omega)
      have hg := getI (l := x) (d := dflt (Ty.int IntKind.u8)) (i := n - 1) (by omega) (by omega)
      have hx : x[(n - 1).toNat]? = some (x[(n - 1).toNat]'(by omega)) := List.getElem?_eq_getElem (by omega)
      rw [if_pos hn, if_pos hk]
      simp only [e1, hg]
      rw [if_pos ⟨by omega, by omega⟩]
      generalize hcd : x[(n - 1).toNat]'(by omega) = c at hx
      by_cases hc : c < 128
      · have hs : Stop x n.toNat := ⟨by omega, by omega, fun j c' hj hc' => h4 j c' (by omega) hc', fun c' hc' => by
          rw [show n.toNat - 1 = (n - 1).toNat by omega, hx] at hc'
          simp only [Option.some.injEq] at hc'
          omega⟩
        have hbt : ∀ c ∈ x.take n.toNat, 0 ≤ c ∧ c < 256 := fun c hc => hb c (List.mem_of_mem_take hc)
        have k133 := h133 (x.take n.toNat) hbt (by rw [List.length_take]; omega)
        have hr := raw_nonneg (x.take n.toNat)
        obtain ⟨q1, q2⟩ := getv_stop hb hs (by omega) _ rfl
        have hu0 : 0 ≤ raw (x.take n.toNat) % 18446744073709551616 ∧ raw (x.take n.toNat) % 18446744073709551616 < 18446744073709551616 := by omega
        generalize raw (x.take n.toNat) % 18446744073709551616 = u at *
        have k71 := h71 u hu0
        have k69 := h69 (one u.toNat) (x.take n.toNat) (by have := one_len10 u.toNat (by omega); omega)
        refine .inr ?_
        have b1 : 0 ≤ n ∧ n ≤ (x.length : Int) := by omega
        by_cases he : one u.toNat = x.take n.toNat
        · obtain ⟨v1, v2⟩ := q1 he
          rw [v1, v2]
          simp only [he, decide_true] at k69
          simp [↓den_start, ↓deb_op, ↓deb_ret, ↓deb_jump, ↓deb_itev, ↓deb_itel, ↓deb_loop, ↓deb_fail, ↓deb_nilcv, nilE_some, opE_some, debP_nil, debP_cons, pushL_nil, pushL_cons, retE_some, iteE_some, evB_nil, evB_v, evB_l, lkE_cons, consE_some, d_int, d_bool, d_str, d_nil, o_add, o_sub, o_mul, o_and, o_or, o_xor, o_andNot, o_quo, o_rem, o_shl, o_shr, o_eql, o_neq, o_lss, o_leq, o_gtr, o_geq, o_seql, o_sneq, o_slss, o_sleq, o_sgtr, o_sgeq, o_beql, o_bneq, o_scat, o_not, o_neg, o_com, o_conv, o_s2b, o_b2s, o_len, o_slen, o_inb, o_idx, o_sidx, o_sub3, o_sub2, o_ssub3, o_ssub2, o_app, o_apps, o_mk, mkE_some, consD_some, mkD_zero, mkD_int, mkD_str, mkD_sl, o_imin, o_imax, o_smin, o_smax, o_eqs, eqsE_some, eqC_nil, andE_some, eqC_int, eqC_bool, eqC_str, j1, outE_some, outE_none, outE_ite, agE_1, loopE_1, agE_2, loopE_2, agE_3, loopE_3, agE_4, loopE_4, agE_5, loopE_5, agE_6, loopE_6, agE_7, loopE_7, agE_8, loopE_8, agE_9, loopE_9, List.cons_append, List.nil_append, List.append_nil, split, List.take_succ_cons, List.take_zero, List.drop_succ_cons, List.drop_zero, hc, b1, k133, k71, k69, he]
          exact (by omega : n = max n 0)
        · obtain ⟨v1, v2⟩ := q2 he
          rw [v1, v2]
          simp only [he, decide_false] at k69
          simp [↓den_start, ↓deb_op, ↓deb_ret, ↓deb_jump, ↓deb_itev, ↓deb_itel, ↓deb_loop, ↓deb_fail, ↓deb_nilcv, nilE_some, opE_some, debP_nil, debP_cons, pushL_nil, pushL_cons, retE_some, iteE_some, evB_nil, evB_v, evB_l, lkE_cons, consE_some, d_int, d_bool, d_str, d_nil, o_add, o_sub, o_mul, o_and, o_or, o_xor, o_andNot, o_quo, o_rem, o_shl, o_shr, o_eql, o_neq, o_lss, o_leq, o_gtr, o_geq, o_seql, o_sneq, o_slss, o_sleq, o_sgtr, o_sgeq, o_beql, o_bneq, o_scat, o_not, o_neg, o_com, o_conv, o_s2b, o_b2s, o_len, o_slen, o_inb, o_idx, o_sidx, o_sub3, o_sub2, o_ssub3, o_ssub2, o_app, o_apps, o_mk, mkE_some, consD_some, mkD_zero, mkD_int, mkD_str, mkD_sl, o_imin, o_imax, o_smin, o_smax, o_eqs, eqsE_some, eqC_nil, andE_some, eqC_int, eqC_bool, eqC_str, j1, outE_some, outE_none, outE_ite, agE_1, loopE_1, agE_2, loopE_2, agE_3, loopE_3, agE_4, loopE_4, agE_5, loopE_5, agE_6, loopE_6, agE_7, loopE_7, agE_8, loopE_8, agE_9, loopE_9, List.cons_append, List.nil_append, List.append_nil, split, List.take_succ_cons, List.take_zero, List.drop_succ_cons, List.drop_zero, hc, b1, k133, k71, k69]
      · rw [if_neg hc]
        refine .inl ⟨n + 1, by rw [wi64 (n + 1) (by omega) (by omega)], ⟨by omega, by omega, by omega, fun j c' hj hc' => ?_⟩, by omega, trivial⟩
        by_cases hj' : (j : Int) + 1 < n
        · exact h4 j c' hj' hc'
        · rw [show j = (n - 1).toNat by omega, hx] at hc'
          simp only [Option.some.injEq] at hc'
          omega
    · rw [if_pos hn, if_neg hk]
      obtain ⟨q1, q2⟩ := getv_nostop hb (fun m hm hs => by
        have e := List.getElem?_eq_getElem (l := x) (i := m - 1) (by have := hs.le; have := hs.pos; omega)
        have := hs.small _ e
        have := h4 (m - 1) _ (by have := hs.pos; omega) e
        omega)
      rw [q1, q2]; exact .inr rfl
  · rw [if_neg hn]
    obtain ⟨q1, q2⟩ := getv_nostop hb (fun m hm hs => by
        have e := List.getElem?_eq_getElem (l := x) (i := m - 1) (by have := hs.le; have := hs.pos; omega)
        have := hs.small _ e
        have := h4 (m - 1) _ (by have := hs.pos; have := hs.le; omega) e
        omega)
    rw [q1, q2]; exact .inr rfl
theorem s92 {lc : List Ct} (hl0 : look (lc.map fun c => (c.sig.id, c)) 92 = some c92) : ∀ (x : List Int) (hb : ∀ c ∈ x, 0 ≤ c ∧ c < 256) (hl : x.length < 1000000000000), Does1 (Phi lc) 92 [⟨.sl (.int .u8), x⟩] [⟨.int .u64, gvV x⟩, ⟨.int .i64, gvN x⟩] :=
  fun x hb hl => Does1.of hl0 (f92 x hb hl) rfl
end Go.Proofs.Ytdjknicjnaiomaa.Sx
