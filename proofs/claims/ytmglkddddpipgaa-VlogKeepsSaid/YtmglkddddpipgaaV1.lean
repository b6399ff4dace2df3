/-
  Segments and logs of values: what their functions answer.
-/
import Derived.Test.YtmglkddddpipgaaP2
set_option linter.unusedVariables false
set_option linter.unusedSimpArgs false
namespace Go.Proofs.Ytmglkddddpipgaa.Sx
def sig3065 : Sig := { id := 3065, ins := [(false, (Ty.int .i64).sl)], outs := [(false, [(Ty.bool, none)])] }
def ir3065 : IR := .op .len [.v 0] (.loop [.l (.int .i64 0), .l (.int .i64 0)] [Ty.int .i64, Ty.int .i64] (.op (.icmp .lss) [.v 3, .v 1] (.ite (.v 4) (.op .inb [.v 0, .v 3] (.op (.idx (Ty.int .i64)) [.v 0, .v 3] (.op (.icmp .leq) [.v 5, .v 2] (.ite (.v 6) (.ret [.l (.bool false)]) (.op (.icmp .gtr) [.v 5, .l (.int .i64 2147483647)] (.ite (.v 7) (.ret [.l (.bool false)]) (.op (.ibin .add .i64) [.v 3, .l (.int .i64 1)] (.jump 0 [.v 5, .v 8])))))))) (.op .len [.v 0] (.op (.icmp .leq) [.v 5, .l (.int .i64 64)] (.ret [.v 6]))))))
def sig3043 : Sig := { id := 3043, ins := [(false, (Ty.int .i64).sl)], outs := [(false, [((Ty.int .i64).sl, some 3)])] }
def ir3043 : IR := .nilc (.v 0) (.ret [.l (.nil (Ty.int .i64))]) (.op (.mk (Ty.int .i64) 0) [] (.op .app [.v 1, .v 0] (.ret [.v 2])))
def sig3095 : Sig := { id := 3095, ins := [(true, (Ty.int .i64).pair (Ty.int .i64))], outs := [(false, [(Ty.str, none)]), (false, [(Ty.int .i64, none)])] }
def ir3095 : IR := .op (.eqs false 2) [.v 0, .v 1, .l (.int .i64 1), .l (.int .i64 0)] (.ite (.v 2) (.ret [.l (.str [Int.ofNat 114, Int.ofNat 111, Int.ofNat 115, Int.ofNat 116, Int.ofNat 101, Int.ofNat 114]), .l (.int .i64 0)]) (.op (.eqs false 2) [.v 0, .v 1, .l (.int .i64 2), .l (.int .i64 0)] (.ite (.v 3) (.ret [.l (.str [Int.ofNat 114, Int.ofNat 111, Int.ofNat 115, Int.ofNat 116, Int.ofNat 101, Int.ofNat 114, Int.ofNat 46, Int.ofNat 110, Int.ofNat 101, Int.ofNat 119]), .l (.int .i64 0)]) (.op (.icmp .lss) [.v 0, .l (.int .i64 3)] (.ite (.v 4) (.ret [.l (.str []), .l (.int .i64 1)]) (.op (.icmp .gtr) [.v 0, .l (.int .i64 7)] (.ite (.v 5) (.ret [.l (.str []), .l (.int .i64 1)]) (.op (.icmp .lss) [.v 1, .l (.int .i64 1)] (.ite (.v 6) (.ret [.l (.str []), .l (.int .i64 1)]) (.op (.icmp .gtr) [.v 1, .l (.int .i64 2147483647)] (.ite (.v 7) (.ret [.l (.str []), .l (.int .i64 1)]) (.op (.mkz (Ty.int .u8)) [.l (.int .i64 11)] (.op (.ibin .sub .i64) [.v 0, .l (.int .i64 3)] (.op .sidx [.l (.str [Int.ofNat 118, Int.ofNat 119, Int.ofNat 116, Int.ofNat 115, Int.ofNat 109]), .v 9] (.op .inb [.v 8, .l (.int .i64 0)] (.op (.upd (Ty.int .u8) 0) [.v 8, .l (.int .i64 0), .v 10] (.loop [.v 1, .l (.int .i64 10), .v 11] [Ty.int .i64, Ty.int .i64, (Ty.int .u8).sl] (.op (.icmp .gtr) [.v 13, .l (.int .i64 0)] (.ite (.v 15) (.op (.ibin .rem .i64) [.v 12, .l (.int .i64 10)] (.op (.ibin .add .i64) [.l (.int .i64 48), .v 16] (.op (.conv .u8) [.v 17] (.op .inb [.v 14, .v 13] (.op (.upd (Ty.int .u8) 0) [.v 14, .v 13, .v 18] (.op (.ibin .quo .i64) [.v 12, .l (.int .i64 10)] (.op (.ibin .sub .i64) [.v 13, .l (.int .i64 1)] (.jump 0 [.v 20, .v 21, .v 19])))))))) (.op .b2s [.v 14] (.ret [.v 16, .l (.int .i64 0)])))))))))))))))))))))
def sig3064 : Sig := { id := 3064, ins := [(false, Ty.int .i64)], outs := [(false, [(Ty.str, none)])] }
def ir3064 : IR := .op (.call 3095) [.l (.int .i64 3), .v 0] (.ret [.v 1])
def sig3061 : Sig := { id := 3061, ins := [(false, LgT.pt)], outs := [(false, [(Ty.int .i64, none)])] }
def ir3061 : IR := .op .npp [.v 0] (.op (.pod LgT) [.v 0] (.op .npp [.v 0] (.op (.pod LgT) [.v 0] (.op .len [.v 4] (.op (.ibin .sub .i64) [.v 5, .l (.int .i64 1)] (.op .inb [.v 2, .v 6] (.op (.idx (Ty.int .i64)) [.v 2, .v 6] (.ret [.v 7]))))))))
def sig3042 : Sig := { id := 3042, ins := [(false, LgT.pt)], outs := [(false, [(Ty.bool, none)])] }
def ir3042 : IR := .op (.isp true) [.v 0] (.ite (.v 1) (.op .npp [.v 0] (.op (.pod LgT) [.v 0] (.op (.isr true) [.v 2] (.ret [.v 4])))) (.ret [.l (.bool false)]))
def sig3078 : Sig := { id := 3078, ins := [(false, (Ty.int .i64).sl), (false, Ty.int .i64)], outs := [(false, [(Ty.int .i64, none)])] }
def ir3078 : IR := .op .len [.v 0] (.loop [.l (.int .i64 0)] [Ty.int .i64] (.op (.icmp .lss) [.v 3, .v 2] (.ite (.v 4) (.op .inb [.v 0, .v 3] (.op (.idx (Ty.int .i64)) [.v 0, .v 3] (.op (.icmp .eql) [.v 1, .v 5] (.ite (.v 6) (.ret [.v 3]) (.op (.ibin .add .i64) [.v 3, .l (.int .i64 1)] (.jump 0 [.v 7])))))) (.ret [.l (.int .i64 (-1))]))))
def sig3070 : Sig := { id := 3070, ins := [(false, (Ty.int .i64).sl), (false, Ty.int .i64)], outs := [(false, [(Ty.bool, none)])] }
def ir3070 : IR := .op (.call 3078) [.v 0, .v 1] (.op (.icmp .geq) [.v 2, .l (.int .i64 0)] (.ret [.v 3]))
def sig3060 : Sig := { id := 3060, ins := [(false, Ty.int .i64), (false, Ty.int .i64), (false, (Ty.int .u8).sl)], outs := [(true, [(Ty.int .i64, none), (Ty.int .i64, none), (Ty.int .i64, none), (Ty.int .u32, none)]), (false, [(Ty.int .i64, none)])] }
def ir3060 : IR := .op .len [.v 2] (.op (.icmp .gtr) [.v 3, .l (.int .i64 4096)] (.ite (.v 4) (.ret [.l (.int .i64 0), .l (.int .i64 0), .l (.int .i64 0), .l (.int .u32 0), .l (.int .i64 6)]) (.op (.icmp .lss) [.v 1, .l (.int .i64 0)] (.ite (.v 5) (.ret [.l (.int .i64 0), .l (.int .i64 0), .l (.int .i64 0), .l (.int .u32 0), .l (.int .i64 1)]) (.op (.icmp .gtr) [.v 1, .l (.int .i64 4194304)] (.ite (.v 6) (.ret [.l (.int .i64 0), .l (.int .i64 0), .l (.int .i64 0), .l (.int .u32 0), .l (.int .i64 1)]) (.op .len [.v 2] (.op (.call 1039) [.v 7] (.op (.ibin .add .i64) [.v 1, .v 8] (.op (.call 26) [.v 0, .v 9, .v 2] (.ret [.v 12, .v 13, .v 14, .v 15, .v 16])))))))))))
def sig3063 : Sig := { id := 3063, ins := [(false, (Ty.int .u8).sl.sl)], outs := [(false, [((Ty.int .u8).sl, some 5)]), (false, [(Ty.int .i64, none)])] }
def ir3063 : IR := .op .len [.v 0] (.loop [.l (.nil (Ty.int .u8)), .l (.int .i64 0)] [(Ty.int .u8).sl, Ty.int .i64] (.op (.icmp .lss) [.v 3, .v 1] (.ite (.v 4) (.op .inb [.v 0, .v 3] (.op (.idx (Ty.int .u8).sl) [.v 0, .v 3] (.op .len [.v 5] (.op (.icmp .gtr) [.v 6, .l (.int .i64 4096)] (.ite (.v 7) (.ret [.l (.nil (Ty.int .u8)), .l (.int .i64 6)]) (.op (.mk ((Ty.int .i64).pair (Ty.int .u8).sl) 1) [.l (.int .i64 2), .v 5] (.op (.call 1035) [.v 8] (.op .app [.v 2, .v 9] (.op (.ibin .add .i64) [.v 3, .l (.int .i64 1)] (.jump 0 [.v 11, .v 12])))))))))) (.ret [.v 2, .l (.int .i64 0)]))))
def sig3068 : Sig := { id := 3068, ins := [(false, Ty.int .i64), (false, (Ty.int .u8).sl)], outs := [(false, [(PtT.sl, some 42)]), (false, [(Ty.int .i64, none)])] }
def ir3068 : IR := .op (.icmp .lss) [.v 0, .l (.int .i64 1)] (.ite (.v 2) (.ret [.l (.nil PtT), .l (.int .i64 0)]) (.op (.icmp .gtr) [.v 0, .l (.int .i64 2147483647)] (.ite (.v 3) (.ret [.l (.nil PtT), .l (.int .i64 0)]) (.op .len [.v 1] (.op (.icmp .gtr) [.v 4, .l (.int .i64 4194304)] (.ite (.v 5) (.ret [.l (.nil PtT), .l (.int .i64 0)]) (.loop [.l (.nil PtT), .l (.int .i64 0)] [PtT.sl, Ty.int .i64] (.op .sub [.v 1, .v 7] (.op (.call 1036) [.v 8] (.op (.icmp .neq) [.v 12, .l (.int .i64 0)] (.ite (.v 13) (.ret [.v 6, .v 7]) (.op (.icmp .neq) [.v 9, .l (.int .i64 2)] (.ite (.v 14) (.ret [.v 6, .v 7]) (.op .len [.v 10] (.op (.icmp .gtr) [.v 15, .l (.int .i64 4096)] (.ite (.v 16) (.ret [.v 6, .v 7]) (.op .len [.v 10] (.op (.call 1039) [.v 17] (.op (.ibin .add .i64) [.v 7, .v 18] (.op (.call 26) [.v 0, .v 19, .v 10] (.op (.mk PtT 1) [.v 22, .v 23, .v 24, .v 25] (.op .app [.v 6, .v 27] (.op (.ibin .add .i64) [.v 7, .v 11] (.jump 0 [.v 28, .v 29]))))))))))))))))))))))))
def sig3071 : Sig := { id := 3071, ins := [(false, (Ty.int .u8).sl), (true, PtT)], outs := [(false, [((Ty.int .u8).sl, some 5)]), (false, [(Ty.int .i64, none)])] }
def ir3071 : IR := .op (.call 68) [.v 1, .v 2, .v 3, .v 4] (.op (.icmp .neq) [.v 5, .l (.int .i64 0)] (.ite (.v 6) (.ret [.l (.nil (Ty.int .u8)), .v 5]) (.op .len [.v 0] (.op (.icmp .gtr) [.v 2, .v 7] (.ite (.v 8) (.ret [.l (.nil (Ty.int .u8)), .l (.int .i64 3)]) (.op .len [.v 0] (.op (.ibin .sub .i64) [.v 9, .v 2] (.op (.icmp .gtr) [.v 3, .v 10] (.ite (.v 11) (.ret [.l (.nil (Ty.int .u8)), .l (.int .i64 3)]) (.op (.ibin .add .i64) [.v 2, .v 3] (.op .sub [.v 0, .v 2, .v 12] (.op (.call 24) [.v 1, .v 2, .v 3, .v 4, .v 13] (.op .not [.v 14] (.ite (.v 15) (.ret [.l (.nil (Ty.int .u8)), .l (.int .i64 3)]) (.op (.ibin .add .i64) [.v 2, .v 3] (.op .sub [.v 0, .v 2, .v 16] (.op (.call 72) [.v 17] (.ret [.v 18, .l (.int .i64 0)]))))))))))))))))))
def sig3034 : Sig := { id := 3034, ins := [(false, (Ty.int .i64).sl)], outs := [(true, [((Ty.int .i64).sl, none), ((Ty.int .u8).sl.sl.sl, none)])] }
def ir3034 : IR := .op .len [.v 0] (.op (.mkz (Ty.int .u8).sl.sl) [.v 1] (.ret [.v 0, .v 2]))
def sig3028 : Sig := { id := 3028, ins := [(false, (Ty.int .u8).sl.sl)], outs := [(false, [(Ty.bool, none)])] }
def ir3028 : IR := .loop [.l (.int .i64 0)] [Ty.int .i64] (.op .len [.v 0] (.op (.icmp .lss) [.v 1, .v 2] (.ite (.v 3) (.op (.icmp .leq) [.v 1, .l (.int .i64 10)] (.ite (.v 4) (.op .inb [.v 0, .v 1] (.op (.idx (Ty.int .u8).sl) [.v 0, .v 1] (.op .len [.v 5] (.op (.icmp .gtr) [.v 6, .l (.int .i64 500)] (.ite (.v 7) (.ret [.l (.bool false)]) (.op (.ibin .add .i64) [.v 1, .l (.int .i64 1)] (.jump 0 [.v 8]))))))) (.op .len [.v 0] (.op (.icmp .leq) [.v 5, .l (.int .i64 10)] (.ret [.v 6]))))) (.op .len [.v 0] (.op (.icmp .leq) [.v 4, .l (.int .i64 10)] (.ret [.v 5]))))))
noncomputable def F3065 : List D → Option (List D) := Fof [] ir3065
noncomputable def c3065 : Ct := ⟨sig3065, F3065⟩
noncomputable def F3043 : List D → Option (List D) := Fof [] ir3043
noncomputable def c3043 : Ct := ⟨sig3043, F3043⟩
noncomputable def F3095 : List D → Option (List D) := Fof [] ir3095
noncomputable def c3095 : Ct := ⟨sig3095, F3095⟩
noncomputable def F3064 : List D → Option (List D) := Fof [c3095] ir3064
noncomputable def c3064 : Ct := ⟨sig3064, F3064⟩
noncomputable def F3061 : List D → Option (List D) := Fof [] ir3061
noncomputable def c3061 : Ct := ⟨sig3061, F3061⟩
noncomputable def F3042 : List D → Option (List D) := Fof [] ir3042
noncomputable def c3042 : Ct := ⟨sig3042, F3042⟩
noncomputable def F3078 : List D → Option (List D) := Fof [] ir3078
noncomputable def c3078 : Ct := ⟨sig3078, F3078⟩
noncomputable def F3070 : List D → Option (List D) := Fof [c3078] ir3070
noncomputable def c3070 : Ct := ⟨sig3070, F3070⟩
noncomputable def F3060 : List D → Option (List D) := Fof [c1039, c26] ir3060
noncomputable def c3060 : Ct := ⟨sig3060, F3060⟩
noncomputable def F3063 : List D → Option (List D) := Fof [c1035] ir3063
noncomputable def c3063 : Ct := ⟨sig3063, F3063⟩
noncomputable def F3068 : List D → Option (List D) := Fof [c1036, c1039, c26] ir3068
noncomputable def c3068 : Ct := ⟨sig3068, F3068⟩
noncomputable def F3071 : List D → Option (List D) := Fof [c68, c24, c72] ir3071
noncomputable def c3071 : Ct := ⟨sig3071, F3071⟩
noncomputable def F3034 : List D → Option (List D) := Fof [] ir3034
noncomputable def c3034 : Ct := ⟨sig3034, F3034⟩
noncomputable def F3028 : List D → Option (List D) := Fof [] ir3028
noncomputable def c3028 : Ct := ⟨sig3028, F3028⟩
end Go.Proofs.Ytmglkddddpipgaa.Sx

namespace Go.Proofs.Ytmglkddddpipgaa.Sx
theorem dropV {α : Type} {l : List α} {i : Int} {x : α} (h0 : 0 ≤ i) (hx : l[i.toNat]? = some x) : l.drop i.toNat = x :: l.drop (i + 1).toNat := by
  obtain ⟨h1, h2⟩ := List.getElem?_eq_some_iff.1 hx
  rw [List.drop_eq_getElem_cons h1, h2, show (i + 1).toNat = i.toNat + 1 by omega]
theorem mkD_pt (a b c d : Int) : mkD PtT 1 [⟨.int .i64, a⟩, ⟨.int .i64, b⟩, ⟨.int .i64, c⟩, ⟨.int .u32, d⟩] = some ⟨.sl PtT, [(a, b, c, d)]⟩ := rfl
theorem mkD_fr (k : Int) (v : List Int) : mkD FrT 1 [⟨.int .i64, k⟩, ⟨.sl (.int .u8), v⟩] = some ⟨.sl FrT, [(k, v)]⟩ := rfl
def lgv (a : Nat) (l : List Int) : (Ty.pt LgT).den := some (some a, l)
theorem o_podL {Φ : Nat → Cont} {k : IR} {R : Type} {lv n : Nat} {ρ : List (Nat × D)} {kr : List D → Option R} {kj : Nat → List D → Option R} (a : Nat) (l : List Int) :
    opD Φ (.pod LgT) [⟨.pt LgT, lgv a l⟩] k R lv n ρ kr kj = deb Φ k R lv (n + 2) ((n + 1, ⟨.sl (.int .i64), l⟩) :: (n, ⟨.ref 0, some a⟩) :: ρ) kr kj := by
  simp only [opD, evalPr, lgv]; rfl
theorem o_ispL {Φ : Nat → Cont} {k : IR} {R : Type} {lv n : Nat} {ρ : List (Nat × D)} {kr : List D → Option R} {kj : Nat → List D → Option R} (a : Nat) (l : List Int) :
    opD Φ (.isp true) [⟨.pt LgT, lgv a l⟩] k R lv n ρ kr kj = deb Φ k R lv (n + 1) ((n, ⟨.bool, true⟩) :: ρ) kr kj := rfl
theorem o_ispN {Φ : Nat → Cont} {k : IR} {R : Type} {lv n : Nat} {ρ : List (Nat × D)} {kr : List D → Option R} {kj : Nat → List D → Option R} (a : Nat) (l : List Int) :
    opD Φ (.isp false) [⟨.pt LgT, lgv a l⟩] k R lv n ρ kr kj = deb Φ k R lv (n + 1) ((n, ⟨.bool, false⟩) :: ρ) kr kj := rfl
theorem o_nppL {Φ : Nat → Cont} {k : IR} {R : Type} {lv n : Nat} {ρ : List (Nat × D)} {kr : List D → Option R} {kj : Nat → List D → Option R} (a : Nat) (l : List Int) :
    opD Φ .npp [⟨.pt LgT, lgv a l⟩] k R lv n ρ kr kj = deb Φ k R lv n ρ kr kj := rfl
theorem o_updB {Φ : Nat → Cont} {k : IR} {R : Type} {lv n : Nat} {ρ : List (Nat × D)} {kr : List D → Option R} {kj : Nat → List D → Option R} (xs : List Int) (ki : IntKind) (i z : Int) :
    opD Φ (.upd (.int .u8) 0) [⟨.sl (.int .u8), xs⟩, ⟨.int ki, i⟩, ⟨.int .u8, z⟩] k R lv n ρ kr kj =
      if 0 ≤ i ∧ i < (xs.length : Int) then deb Φ k R lv (n + 1) ((n, ⟨.sl (.int .u8), xs.set i.toNat z⟩) :: ρ) kr kj else none := by
  simp only [opD, evalPr, true_and]; rfl
theorem mkpD_L (a : Nat) (l : List Int) : mkpD LgT [⟨.ref 0, some a⟩, ⟨.sl (.int .i64), l⟩] = some ⟨.pt LgT, lgv a l⟩ := rfl
attribute [simp high] o_podL o_ispL o_ispN o_nppL
attribute [simp] mkD_pt mkD_fr mkpD_L o_updB

def mayGo : Int → List Int → Bool
  | _, [] => true
  | last, n :: r => if n ≤ last then false else if n > 2147483647 then false else mayGo n r
theorem f3065 (l : List Int) (hl : l.length ≤ 1000000) : F3065 [⟨.sl (.int .i64), l⟩] = some [⟨.bool, mayGo 0 l && decide ((l.length : Int) ≤ 64)⟩] := by
  simp only [F3065, Fof, ir3065]; simp -implicitDefEqProofs
  refine (iter_meas (fun s : Int × Int => (l.length - s.2).toNat) (fun s : Int × Int => ([⟨.bool, mayGo s.1 (l.drop s.2.toNat) && decide ((l.length : Int) ≤ 64)⟩] : List D)) (fun s => 0 ≤ s.2 ∧ s.2 ≤ l.length) (by exact ⟨by simp, by simp⟩) ?_).trans (by simp)
  rintro ⟨last, i⟩ ⟨h1, h2⟩
  simp only at h1 h2
  by_cases hi : i < l.length
  · obtain ⟨x, hx⟩ : ∃ x, l[i.toNat]? = some x := ⟨_, List.getElem?_eq_getElem (by omega)⟩
    obtain ⟨_, hx2⟩ := List.getElem?_eq_some_iff.1 hx
    have wi : IntKind.i64.wrap (i + 1) = i + 1 := wi64 _ (by omega) (by omega)
    simp only [dropV h1 hx, mayGo]; by_cases c1 : x ≤ last
    · refine .inr ?_
      simp -implicitDefEqProofs [hi, h1, hx, hx2, c1]
    · by_cases c2 : x > 2147483647
      · refine .inr ?_
        simp -implicitDefEqProofs [hi, h1, hx, hx2, c1, c2]
      · refine .inl ⟨(x, i + 1), ?_, ⟨by simp only; omega, by simp only; omega⟩, by simp only; omega, by simp only [if_neg c1, if_neg c2]⟩
        simp -implicitDefEqProofs [hi, h1, hx, hx2, c1, c2, wi]
  · simp only [List.drop_eq_nil_of_le (show l.length ≤ i.toNat by omega)]; refine .inr ?_
    simp -implicitDefEqProofs [hi, mayGo]
theorem s3065 {lc : List Ct} (hl0 : Sx.look (lc.map fun c => (c.sig.id, c)) 3065 = some c3065) : ∀ (l : List Int) (hl : l.length ≤ 1000000), Does1 (Phi lc) 3065 [⟨.sl (.int .i64), l⟩] [⟨.bool, mayGo 0 l && decide ((l.length : Int) ≤ 64)⟩] :=
  fun l hl => by
    have eFc : c3065.F = F3065 := rfl
    have eFh := f3065 l hl
    rw [← eFc] at eFh; exact Does1.of hl0 eFh rfl

theorem f3043 (l : List Int) (hl : l.length ≤ 1000000) : F3043 [⟨.sl (.int .i64), l⟩] = some [⟨.sl (.int .i64), l⟩] := by
  simp only [F3043, Fof, ir3043]; have hB : l.length ≤ BIG := by unfold BIG; omega
  cases l with
  | nil => simp -implicitDefEqProofs [eqO]
  | cons x l =>
    simp -implicitDefEqProofs
    simpa using hB
theorem s3043 {lc : List Ct} (hl0 : Sx.look (lc.map fun c => (c.sig.id, c)) 3043 = some c3043) : ∀ (l : List Int) (hl : l.length ≤ 1000000), Does1 (Phi lc) 3043 [⟨.sl (.int .i64), l⟩] [⟨.sl (.int .i64), l⟩] :=
  fun l hl => by
    have eFc : c3043.F = F3043 := rfl
    have eFh := f3043 l hl
    rw [← eFc] at eFh; exact Does1.of hl0 eFh rfl

def fillD : Nat → Int → List Int → List Int
  | 0, _, b => b
  | i + 1, m, b => fillD i (m / 10) (b.set (i + 1) (48 + m % 10))
def vName (n : Int) : List Int := fillD 10 n (118 :: List.replicate 10 0)
theorem f3095 (n : Int) (h1 : 1 ≤ n) (h2 : n ≤ 2147483647) : F3095 [⟨.int .i64, (3 : Int)⟩, ⟨.int .i64, n⟩] = some [⟨.str, vName n⟩, ⟨.int .i64, (0 : Int)⟩] := by
  simp only [F3095, Fof, ir3095]; have c1 : ¬ n < 1 := by omega
  have c2 : ¬ n > 2147483647 := by omega
  have w0 := wi64 0 (by omega) (by omega)
  have hd : dflt (Ty.int IntKind.u8) = (0 : Int) := rfl
  simp -implicitDefEqProofs [c1, c2, w0, hd]
  refine (iter_meas (fun s : Int × Int × List Int => s.2.1.toNat) (fun s : Int × Int × List Int => ([⟨.str, fillD s.2.1.toNat s.1 s.2.2⟩, ⟨.int .i64, (0 : Int)⟩] : List D)) (fun s => 0 ≤ s.1 ∧ s.1 ≤ 2147483647 ∧ 0 ≤ s.2.1 ∧ s.2.1 ≤ 10 ∧ s.2.2.length = 11) (by exact ⟨by show (0 : Int) ≤ n; omega, by show n ≤ _; omega, by show (0 : Int) ≤ 10; omega, by show (10 : Int) ≤ 10; omega, rfl⟩) ?_).trans rfl
  rintro ⟨m, i, b⟩ ⟨m1, m2, h3, h4, h5⟩
  simp only at m1 m2 h3 h4 h5
  by_cases hi : i > 0
  · obtain ⟨j, rfl⟩ : ∃ j : Nat, i = j + 1 := ⟨(i - 1).toNat, by omega⟩
    have e1 : m.tmod 10 = m % 10 := Int.tmod_eq_emod_of_nonneg m1
    have e2 : m.tdiv 10 = m / 10 := Int.tdiv_eq_ediv_of_nonneg m1
    have w1 : IntKind.i64.wrap (m % 10) = m % 10 := wi64 _ (by omega) (by omega)
    have w2 : IntKind.i64.wrap (48 + m % 10) = 48 + m % 10 := wi64 _ (by omega) (by omega)
    have w3 : IntKind.u8.wrap (48 + m % 10) = 48 + m % 10 := by rw [wu8]; omega
    have w4 : IntKind.i64.wrap (m / 10) = m / 10 := wi64 _ (by omega) (by omega)
    have w5 : IntKind.i64.wrap ((j : Int) + 1 - 1) = j := by rw [wi64 _ (by omega) (by omega)]; omega
    have w6 : IntKind.i64.wrap (j : Int) = j := wi64 _ (by omega) (by omega)
    have k1 : (0 : Int) ≤ (j : Int) + 1 := by omega
    have k2 : (j : Int) + 1 < 11 := by omega
    have k3 : ((j : Int) + 1).toNat = j + 1 := by omega
    refine .inl ⟨(m / 10, j, b.set (j + 1) (48 + m % 10)), ?_, ⟨by simp only; omega, by simp only; omega, by simp only; omega, by simp only; omega, by simp [h5]⟩, by simp only; omega, by simp only [k3, Int.toNat_natCast, fillD]⟩
    simp -implicitDefEqProofs [hi, e1, e2, w1, w2, w3, w4, w5, w6, k1, k2, k3, h5]
  · have hi0 : i = 0 := by omega
    subst hi0; refine .inr ?_
    simp -implicitDefEqProofs [fillD]
theorem s3095 {lc : List Ct} (hl0 : Sx.look (lc.map fun c => (c.sig.id, c)) 3095 = some c3095) : ∀ (n : Int) (h1 : 1 ≤ n) (h2 : n ≤ 2147483647), Does1 (Phi lc) 3095 [⟨.int .i64, (3 : Int)⟩, ⟨.int .i64, n⟩] [⟨.str, vName n⟩, ⟨.int .i64, (0 : Int)⟩] :=
  fun n h1 h2 => by
    have eFc : c3095.F = F3095 := rfl
    have eFh := f3095 n h1 h2
    rw [← eFc] at eFh; exact Does1.of hl0 eFh rfl
theorem f3064 (n : Int) (h1 : 1 ≤ n) (h2 : n ≤ 2147483647) : F3064 [⟨.int .i64, n⟩] = some [⟨.str, vName n⟩] := by
  have h3095 := s3095 (lc := [c3095]) rfl
  simp only [F3064, Fof, ir3064]; generalize Phi [c3095] = Φ at *
  have g := h3095 n h1 h2
  simp -implicitDefEqProofs [g]
theorem s3064 {lc : List Ct} (hl0 : Sx.look (lc.map fun c => (c.sig.id, c)) 3064 = some c3064) : ∀ (n : Int) (h1 : 1 ≤ n) (h2 : n ≤ 2147483647), Does1 (Phi lc) 3064 [⟨.int .i64, n⟩] [⟨.str, vName n⟩] :=
  fun n h1 h2 => by
    have eFc : c3064.F = F3064 := rfl
    have eFh := f3064 n h1 h2
    rw [← eFc] at eFh; exact Does1.of hl0 eFh rfl

theorem f3061 (a : Nat) (n : Int) : F3061 [⟨.pt LgT, lgv a [n]⟩] = some [⟨.int .i64, n⟩] := by
  simp only [F3061, Fof, ir3061]; have w0 := wi64 0 (by omega) (by omega)
  simp -implicitDefEqProofs [w0]
theorem s3061 {lc : List Ct} (hl0 : Sx.look (lc.map fun c => (c.sig.id, c)) 3061 = some c3061) : ∀ (a : Nat) (n : Int), Does1 (Phi lc) 3061 [⟨.pt LgT, lgv a [n]⟩] [⟨.int .i64, n⟩] :=
  fun a n => by
    have eFc : c3061.F = F3061 := rfl
    have eFh := f3061 a n
    rw [← eFc] at eFh; exact Does1.of hl0 eFh rfl
theorem f3042 (a : Nat) (l : List Int) : F3042 [⟨.pt LgT, lgv a l⟩] = some [⟨.bool, true⟩] := by
  simp only [F3042, Fof, ir3042]; simp -implicitDefEqProofs
theorem s3042 {lc : List Ct} (hl0 : Sx.look (lc.map fun c => (c.sig.id, c)) 3042 = some c3042) : ∀ (a : Nat) (l : List Int), Does1 (Phi lc) 3042 [⟨.pt LgT, lgv a l⟩] [⟨.bool, true⟩] :=
  fun a l => by
    have eFc : c3042.F = F3042 := rfl
    have eFh := f3042 a l
    rw [← eFc] at eFh; exact Does1.of hl0 eFh rfl
theorem f3078 (n : Int) : F3078 [⟨.sl (.int .i64), [n]⟩, ⟨.int .i64, n⟩] = some [⟨.int .i64, (0 : Int)⟩] := by
  simp only [F3078, Fof, ir3078]; simp -implicitDefEqProofs
  refine iter_meas (fun _ : Int => 0) (fun _ => _) (fun i => i = 0) rfl ?_
  rintro i rfl
  refine .inr ?_
  simp -implicitDefEqProofs
theorem s3078 {lc : List Ct} (hl0 : Sx.look (lc.map fun c => (c.sig.id, c)) 3078 = some c3078) : ∀ (n : Int), Does1 (Phi lc) 3078 [⟨.sl (.int .i64), [n]⟩, ⟨.int .i64, n⟩] [⟨.int .i64, (0 : Int)⟩] :=
  fun n => by
    have eFc : c3078.F = F3078 := rfl
    have eFh := f3078 n
    rw [← eFc] at eFh; exact Does1.of hl0 eFh rfl
theorem f3070 (n : Int) : F3070 [⟨.sl (.int .i64), [n]⟩, ⟨.int .i64, n⟩] = some [⟨.bool, true⟩] := by
  have h3078 := s3078 (lc := [c3078]) rfl
  simp only [F3070, Fof, ir3070]; generalize Phi [c3078] = Φ at *
  have g := h3078 n
  simp -implicitDefEqProofs [g]
theorem s3070 {lc : List Ct} (hl0 : Sx.look (lc.map fun c => (c.sig.id, c)) 3070 = some c3070) : ∀ (n : Int), Does1 (Phi lc) 3070 [⟨.sl (.int .i64), [n]⟩, ⟨.int .i64, n⟩] [⟨.bool, true⟩] :=
  fun n => by
    have eFc : c3070.F = F3070 := rfl
    have eFh := f3070 n
    rw [← eFc] at eFh; exact Does1.of hl0 eFh rfl

def ptAt (s z : Int) (v : List Int) : Pt := (s, z + headN v.length, (v.length : Int), crcOf v)
theorem headI_eq {v : List Int} (h : v.length ≤ 4096) : headI v.length = headN v.length := by
  unfold headI; rw [if_neg (by omega), Int.toNat_natCast]
theorem pt_ok {s z : Int} {v : List Int} (hs : 1 ≤ s) (hs2 : s ≤ 2147483647) (h1 : 0 ≤ z) (h2 : z ≤ 4194304) (hv : v.length ≤ 4096) : pOk s (z + headN v.length) v.length = true := by
  have := headN_r (n := v.length) (by omega)
  unfold pOk
  simp; omega
theorem f3060 (s z : Int) (v : List Int) (hs : 1 ≤ s) (hs2 : s ≤ 2147483647) (h1 : 0 ≤ z) (h2 : z ≤ 4194304) (hv : v.length ≤ 4096) (hb : ∀ c ∈ v, 0 ≤ c ∧ c < 256) : F3060 [⟨.int .i64, s⟩, ⟨.int .i64, z⟩, ⟨.sl (.int .u8), v⟩] = some [⟨.int .i64, s⟩, ⟨.int .i64, z + headN v.length⟩, ⟨.int .i64, (v.length : Int)⟩, ⟨.int .u32, crcOf v⟩, ⟨.int .i64, (0 : Int)⟩] := by
  have h1039 := s1039 (lc := [c1039, c26]) rfl
  have h26 := s26 (lc := [c1039, c26]) rfl
  simp only [F3060, Fof, ir3060]; generalize Phi [c1039, c26] = Φ at *
  have c1 : ¬ (v.length : Int) > 4096 := by omega
  have c2 : ¬ z < 0 := by omega
  have c3 : ¬ z > 4194304 := by omega
  have hh := headN_r (n := v.length) (by omega)
  have g1 := h1039 (v.length : Int)
  rw [headI_eq hv] at g1; have w1 : IntKind.i64.wrap (z + headN v.length) = z + headN v.length := wi64 _ (by omega) (by omega)
  have g2 := h26 s (z + headN v.length) v hb (by omega)
  simp only [pt_ok hs hs2 h1 h2 hv, if_true] at g2; simp -implicitDefEqProofs [c1, c2, c3, g1, w1, g2]
theorem s3060 {lc : List Ct} (hl0 : Sx.look (lc.map fun c => (c.sig.id, c)) 3060 = some c3060) : ∀ (s z : Int) (v : List Int) (hs : 1 ≤ s) (hs2 : s ≤ 2147483647) (h1 : 0 ≤ z) (h2 : z ≤ 4194304) (hv : v.length ≤ 4096) (hb : ∀ c ∈ v, 0 ≤ c ∧ c < 256), Does1 (Phi lc) 3060 [⟨.int .i64, s⟩, ⟨.int .i64, z⟩, ⟨.sl (.int .u8), v⟩] [⟨.int .i64, s⟩, ⟨.int .i64, z + headN v.length⟩, ⟨.int .i64, (v.length : Int)⟩, ⟨.int .u32, crcOf v⟩, ⟨.int .i64, (0 : Int)⟩] :=
  fun s z v hs hs2 h1 h2 hv hb => by
    have eFc : c3060.F = F3060 := rfl
    have eFh := f3060 s z v hs hs2 h1 h2 hv hb
    rw [← eFc] at eFh; exact Does1.of hl0 eFh rfl

def vfr (l : List (List Int)) : List Fr := l.map fun v => (2, v)
theorem okF_v {v : List Int} (h : v.length ≤ 4096) : okF (2, v) = true := by simp [okF]; omega
theorem f3063 (l : List (List Int)) (hl : l.length ≤ 1000) (hv : ∀ v ∈ l, v.length ≤ 4096 ∧ ∀ c ∈ v, 0 ≤ c ∧ c < 256) : F3063 [⟨.sl (.sl (.int .u8)), l⟩] = some [⟨.sl (.int .u8), putFs (vfr l)⟩, ⟨.int .i64, (0 : Int)⟩] := by
  have h1035 := s1035 (lc := [c1035]) rfl
  simp only [F3063, Fof, ir3063]; generalize Phi [c1035] = Φ at *
  simp -implicitDefEqProofs
  refine (iter_meas (fun s : List Int × Int => (l.length - s.2).toNat) (fun s : List Int × Int => ([⟨.sl (.int .u8), s.1 ++ putFs (vfr (l.drop s.2.toNat))⟩, ⟨.int .i64, (0 : Int)⟩] : List D)) (fun s => 0 ≤ s.2 ∧ s.2 ≤ l.length ∧ (s.1.length : Int) ≤ 5000 * s.2) (by exact ⟨by simp, by simp, by simp⟩) ?_).trans (by simp)
  rintro ⟨b, i⟩ ⟨h1, h2, h3⟩
  simp only at h1 h2 h3
  by_cases hi : i < l.length
  · obtain ⟨x, hx⟩ : ∃ x, l[i.toNat]? = some x := ⟨_, List.getElem?_eq_getElem (by omega)⟩
    obtain ⟨_, hx2⟩ := List.getElem?_eq_some_iff.1 hx
    obtain ⟨x1, x2⟩ := hv x (List.mem_of_getElem? hx)
    have wi : IntKind.i64.wrap (i + 1) = i + 1 := wi64 _ (by omega) (by omega)
    have c1 : ¬ (x.length : Int) > 4096 := by omega
    have hp := putF_le (f := (2, x)) (by simp only; omega)
    simp only at hp
    have g := h1035 [(2, x)] (by simp) (by simp; omega) (by simpa using x2)
    simp only [List.all_cons, okF_v x1, List.all_nil, Bool.and_self, resFr, if_true, List.nil_append, putFs, List.append_nil] at g; have hB : b.length + (putF (2, x)).length ≤ BIG := by unfold BIG; omega
    refine .inl ⟨(b ++ putF (2, x), i + 1), ?_, ⟨by simp only; omega, by simp only; omega, by simp only [List.length_append]; omega⟩, by simp only; omega, ?_⟩
    · simp -implicitDefEqProofs [hi, h1, hx, hx2, c1, wi, g, hB]
    · simp only [dropV h1 hx, vfr, List.map_cons, putFs, List.append_assoc]
  · simp only [List.drop_eq_nil_of_le (show l.length ≤ i.toNat by omega)]; refine .inr ?_
    simp -implicitDefEqProofs [hi, vfr, putFs]
theorem s3063 {lc : List Ct} (hl0 : Sx.look (lc.map fun c => (c.sig.id, c)) 3063 = some c3063) : ∀ (l : List (List Int)) (hl : l.length ≤ 1000) (hv : ∀ v ∈ l, v.length ≤ 4096 ∧ ∀ c ∈ v, 0 ≤ c ∧ c < 256), Does1 (Phi lc) 3063 [⟨.sl (.sl (.int .u8)), l⟩] [⟨.sl (.int .u8), putFs (vfr l)⟩, ⟨.int .i64, (0 : Int)⟩] :=
  fun l hl hv => by
    have eFc : c3063.F = F3063 := rfl
    have eFh := f3063 l hl hv
    rw [← eFc] at eFh; exact Does1.of hl0 eFh rfl

theorem f3071 (b : List Int) (s a n m : Int) (hb : ∀ c ∈ b, 0 ≤ c ∧ c < 256) (hl : b.length ≤ 4194304) (hp : pOk s a n = true) : F3071 [⟨.sl (.int .u8), b⟩, ⟨.int .i64, s⟩, ⟨.int .i64, a⟩, ⟨.int .i64, n⟩, ⟨.int .u32, m⟩] = some [⟨.sl (.int .u8), if a ≤ b.length ∧ n ≤ b.length - a ∧ m = crcOf ((b.take (a + n).toNat).drop a.toNat) then (b.take (a + n).toNat).drop a.toNat else []⟩, ⟨.int .i64, if a ≤ b.length ∧ n ≤ b.length - a ∧ m = crcOf ((b.take (a + n).toNat).drop a.toNat) then 0 else 3⟩] := by
  have h68 := s68 (lc := [c68, c24, c72]) rfl
  have h24 := s24 (lc := [c68, c24, c72]) rfl
  have h72 := s72 (lc := [c68, c24, c72]) rfl
  simp only [F3071, Fof, ir3071]; generalize Phi [c68, c24, c72] = Φ at *
  have hp' : 1 ≤ s ∧ s ≤ 2147483647 ∧ 0 ≤ a ∧ a ≤ 2147483647 ∧ 0 ≤ n ∧ n ≤ 4096 := by simpa [pOk] using hp
  obtain ⟨s1, s2, a1, a2, n1, n2⟩ := hp'; have g68 := h68 s a n m
  simp only [hp, if_true] at g68; by_cases c1 : a > b.length
  · have c1' : ¬ a ≤ b.length := by omega
    simp -implicitDefEqProofs [g68, c1, c1']
  have c1' : a ≤ b.length := by omega
  have w1 : IntKind.i64.wrap ((b.length : Int) - a) = (b.length : Int) - a := wi64 _ (by omega) (by omega)
  by_cases c2 : n > (b.length : Int) - a
  · have c2' : ¬ n ≤ (b.length : Int) - a := by omega
    simp -implicitDefEqProofs [g68, c1, c2, c2', w1]
  have c2' : n ≤ (b.length : Int) - a := by omega
  have w2 : IntKind.i64.wrap (a + n) = a + n := wi64 _ (by omega) (by omega)
  have k1 : a ≤ a + n := by omega
  have k2 : a + n ≤ b.length := by omega
  have hsl : ((b.take (a + n).toNat).drop a.toNat).length = n.toNat := by rw [List.length_drop, List.length_take]; omega
  have hn : n = (((b.take (a + n).toNat).drop a.toNat).length : Int) := by rw [hsl]; omega
  have hsb : ∀ c ∈ (b.take (a + n).toNat).drop a.toNat, 0 ≤ c ∧ c < 256 := fun c hc => hb c (List.mem_of_mem_take (List.mem_of_mem_drop hc))
  generalize hy : (b.take (a + n).toNat).drop a.toNat = y at *
  have g24 := h24 s a n m y hsb (by omega)
  have g72 := h72 y (by omega)
  by_cases c3 : m = crcOf y
  · have e : decide (n = y.length ∧ m = crcOf y) = true := by simp only [decide_eq_true_eq]; exact ⟨hn, c3⟩
    rw [e] at g24; subst c3; simp -implicitDefEqProofs [g68, c1, c2, c1', c2', w1, w2, a1, k1, k2, hy, g24, g72]
  · have e : decide (n = y.length ∧ m = crcOf y) = false := by simp [c3]
    rw [e] at g24; simp -implicitDefEqProofs [g68, c1, c2, c1', c2', w1, w2, a1, k1, k2, hy, g24, c3]
theorem s3071 {lc : List Ct} (hl0 : Sx.look (lc.map fun c => (c.sig.id, c)) 3071 = some c3071) : ∀ (b : List Int) (s a n m : Int) (hb : ∀ c ∈ b, 0 ≤ c ∧ c < 256) (hl : b.length ≤ 4194304) (hp : pOk s a n = true), Does1 (Phi lc) 3071 [⟨.sl (.int .u8), b⟩, ⟨.int .i64, s⟩, ⟨.int .i64, a⟩, ⟨.int .i64, n⟩, ⟨.int .u32, m⟩] [⟨.sl (.int .u8), if a ≤ b.length ∧ n ≤ b.length - a ∧ m = crcOf ((b.take (a + n).toNat).drop a.toNat) then (b.take (a + n).toNat).drop a.toNat else []⟩, ⟨.int .i64, if a ≤ b.length ∧ n ≤ b.length - a ∧ m = crcOf ((b.take (a + n).toNat).drop a.toNat) then 0 else 3⟩] :=
  fun b s a n m hb hl hp => by
    have eFc : c3071.F = F3071 := rfl
    have eFh := f3071 b s a n m hb hl hp
    rw [← eFc] at eFh; exact Does1.of hl0 eFh rfl

theorem f3034 (l : List Int) (hl : l.length ≤ 1000000) : F3034 [⟨.sl (.int .i64), l⟩] = some [⟨.sl (.int .i64), l⟩, ⟨.sl (.sl (.sl (.int .u8))), List.replicate l.length []⟩] := by
  simp only [F3034, Fof, ir3034]; have hB : (l.length : Int) ≤ 1099511627776 := by omega
  simp -implicitDefEqProofs [hB]
  exact .inr rfl
theorem s3034 {lc : List Ct} (hl0 : Sx.look (lc.map fun c => (c.sig.id, c)) 3034 = some c3034) : ∀ (l : List Int) (hl : l.length ≤ 1000000), Does1 (Phi lc) 3034 [⟨.sl (.int .i64), l⟩] [⟨.sl (.int .i64), l⟩, ⟨.sl (.sl (.sl (.int .u8))), List.replicate l.length []⟩] :=
  fun l hl => by
    have eFc : c3034.F = F3034 := rfl
    have eFh := f3034 l hl
    rw [← eFc] at eFh; exact Does1.of hl0 eFh rfl

def lightV (l : List (List Int)) : Bool := decide ((l.length : Int) ≤ 10) && l.all fun v => decide ((v.length : Int) ≤ 500)
theorem f3028 (l : List (List Int)) : F3028 [⟨.sl (.sl (.int .u8)), l⟩] = some [⟨.bool, lightV l⟩] := by
  simp only [F3028, Fof, ir3028]; simp -implicitDefEqProofs
  refine (iter_meas (fun i : Int => (l.length - i).toNat) (fun i : Int => ([⟨.bool, decide ((l.length : Int) ≤ 10) && (l.drop i.toNat).all fun v => decide ((v.length : Int) ≤ 500)⟩] : List D)) (fun i => 0 ≤ i ∧ i ≤ l.length) (by exact ⟨by omega, by omega⟩) ?_).trans (by simp [lightV])
  rintro i ⟨h1, h2⟩
  by_cases hi : i < l.length
  · by_cases h10 : i ≤ 10
    · obtain ⟨x, hx⟩ : ∃ x, l[i.toNat]? = some x := ⟨_, List.getElem?_eq_getElem (by omega)⟩
      obtain ⟨_, hx2⟩ := List.getElem?_eq_some_iff.1 hx
      have wi : IntKind.i64.wrap (i + 1) = i + 1 := wi64 _ (by omega) (by omega)
      rw [dropV h1 hx, List.all_cons]; by_cases c1 : (x.length : Int) > 500
      · have c1' : ¬ (x.length : Int) ≤ 500 := by omega
        refine .inr ?_
        simp -implicitDefEqProofs [hi, h1, h10, hx, hx2, c1, c1']
      · have c1' : (x.length : Int) ≤ 500 := by omega
        refine .inl ⟨i + 1, ?_, ⟨by omega, by omega⟩, by omega, by rw [decide_eq_true c1', Bool.true_and]⟩
        simp -implicitDefEqProofs [hi, h1, h10, hx, hx2, c1, wi]
    · have h11 : ¬ (l.length : Int) ≤ 10 := by omega
      refine .inr ?_
      simp -implicitDefEqProofs [hi, h10, h11]
  · rw [List.drop_eq_nil_of_le (by omega)]; refine .inr ?_
    simp -implicitDefEqProofs [hi]
theorem s3028 {lc : List Ct} (hl0 : Sx.look (lc.map fun c => (c.sig.id, c)) 3028 = some c3028) : ∀ (l : List (List Int)), Does1 (Phi lc) 3028 [⟨.sl (.sl (.int .u8)), l⟩] [⟨.bool, lightV l⟩] :=
  fun l => by
    have eFc : c3028.F = F3028 := rfl
    have eFh := f3028 l
    rw [← eFc] at eFh; exact Does1.of hl0 eFh rfl
end Go.Proofs.Ytmglkddddpipgaa.Sx

namespace Go.Proofs.Ytmglkddddpipgaa.Sx
abbrev Bts (b : List Int) : Prop := ∀ c ∈ b, 0 ≤ c ∧ c < 256
def walkL (s : Int) : Nat → Int → List Int → List Pt × Int
  | 0, z, _ => ([], z)
  | k + 1, z, r => match firstF r with
    | some (kd, y, n) => if kd = 2 ∧ y.length ≤ 4096 then (ptAt s z y :: (walkL s k (z + n) (r.drop n)).1, (walkL s k (z + n) (r.drop n)).2) else ([], z)
    | none => ([], z)
theorem firstF_n {r : List Int} (hb : Bts r) {k : Int} {y : List Int} {n : Nat} (h : firstF r = some (k, y, n)) : 6 ≤ n ∧ n ≤ r.length := by
  obtain ⟨_, e, _, h4⟩ := firstF_inv hb h; have := putF_pos (k, y)
  omega
theorem walk_fuel (s : Int) : ∀ (k k' : Nat) (z : Int) (r : List Int), Bts r → r.length < k → r.length < k' → walkL s k z r = walkL s k' z r
  | 0, _, _, _, _, h, _ => absurd h (by omega)
  | _, 0, _, _, _, _, h => absurd h (by omega)
  | k + 1, k' + 1, z, r, hb, h1, h2 => by
    unfold walkL; cases hf : firstF r with
    | none => rfl
    | some x =>
      obtain ⟨kd, y, n⟩ := x; obtain ⟨n1, n2⟩ := firstF_n hb hf; simp only
      split
      · rw [walk_fuel s k k' _ _ (fun c hc => hb c (List.mem_of_mem_drop hc)) (by rw [List.length_drop]; omega) (by rw [List.length_drop]; omega)]
      · rfl
theorem walk_le (s : Int) : ∀ (k : Nat) (z : Int) (r : List Int), Bts r → z ≤ (walkL s k z r).2 ∧ (walkL s k z r).2 ≤ z + r.length
  | 0, z, r, _ => by simp only [walkL]; omega
  | k + 1, z, r, hb => by
    unfold walkL; cases hf : firstF r with
    | none => simp only; omega
    | some x =>
      obtain ⟨kd, y, n⟩ := x; obtain ⟨n1, n2⟩ := firstF_n hb hf; simp only
      split
      · have := walk_le s k (z + n) (r.drop n) fun c hc => hb c (List.mem_of_mem_drop hc)
        rw [List.length_drop] at this; simp only
        omega
      · simp only; omega
theorem walk_ge (s : Int) : ∀ (a : List (List Int)) (k : Nat) (z : Int) (r : List Int), (∀ v ∈ a, v.length ≤ 4096) → Bts (putFs (vfr a) ++ r) → (putFs (vfr a) ++ r).length < k → z + (putFs (vfr a)).length ≤ (walkL s k z (putFs (vfr a) ++ r)).2
  | [], k, z, r, _, hb, _ => by
    have := (walk_le s k z (putFs (vfr []) ++ r) hb).1
    simp only [vfr, List.map_nil, putFs, List.length_nil] at this ⊢; omega
  | v :: a, 0, z, r, _, _, h => absurd h (by omega)
  | v :: a, k + 1, z, r, hv, hb, hk => by
    have hv1 := hv v (by simp)
    have e : putFs (vfr (v :: a)) ++ r = putF (2, v) ++ (putFs (vfr a) ++ r) := by simp only [vfr, List.map_cons, putFs, List.append_assoc]
    have hp := putF_pos (2, v)
    rw [e] at hb hk ⊢; rw [List.length_append] at hk; have ih := walk_ge s a k (z + (putF (2, v)).length) r (fun u hu => hv u (by simp [hu])) (fun c hc => hb c (List.mem_append_right _ hc)) (by omega)
    unfold walkL; rw [firstF_put (okF_v hv1)]; simp only
    rw [if_pos ⟨trivial, hv1⟩, List.drop_left]; have el : (putFs (vfr (v :: a))).length = (putF (2, v)).length + (putFs (vfr a)).length := by simp only [vfr, List.map_cons, putFs, List.length_append]
    simp only
    omega

theorem f3068 (s : Int) (b : List Int) (hs : 1 ≤ s) (hs2 : s ≤ 2147483647) (hl : b.length ≤ 4194304) (hb : ∀ c ∈ b, 0 ≤ c ∧ c < 256) : F3068 [⟨.int .i64, s⟩, ⟨.sl (.int .u8), b⟩] = some [⟨.sl PtT, (walkL s (b.length + 1) 0 b).1⟩, ⟨.int .i64, (walkL s (b.length + 1) 0 b).2⟩] := by
  have h1036 := s1036 (lc := [c1036, c1039, c26]) rfl
  have h1039 := s1039 (lc := [c1036, c1039, c26]) rfl
  have h26 := s26 (lc := [c1036, c1039, c26]) rfl
  simp only [F3068, Fof, ir3068]; generalize Phi [c1036, c1039, c26] = Φ at *
  have c1 : ¬ s < 1 := by omega
  have c2 : ¬ s > 2147483647 := by omega
  have c3 : ¬ (b.length : Int) > 4194304 := by omega
  simp -implicitDefEqProofs [c1, c2, c3]
  refine (iter_meas (fun s1 : List Pt × Int => (b.length - s1.2).toNat) (fun s1 : List Pt × Int => ([⟨.sl PtT, s1.1 ++ (walkL s (b.length + 1) s1.2 (b.drop s1.2.toNat)).1⟩, ⟨.int .i64, (walkL s (b.length + 1) s1.2 (b.drop s1.2.toNat)).2⟩] : List D)) (fun s1 => 0 ≤ s1.2 ∧ s1.2 ≤ b.length ∧ (s1.1.length : Int) ≤ s1.2) (by exact ⟨by simp, by simp, by simp⟩) ?_).trans (by simp)
  rintro ⟨ps, z⟩ ⟨h1, h2, h3⟩
  simp only at h1 h2 h3
  have hbr : Bts (b.drop z.toNat) := fun c hc => hb c (List.mem_of_mem_drop hc)
  have hlr : (b.drop z.toNat).length = b.length - z.toNat := List.length_drop
  have g := h1036 (b.drop z.toNat) hbr (by omega)
  cases hf : firstF (b.drop z.toNat) with
  | none =>
    rw [hf] at g; simp only [resF1] at g; have he : ¬ errF (b.drop z.toNat) = 0 := by rcases errF_pos (b.drop z.toNat) with h | h <;> omega
    refine .inr ?_
    unfold walkL; rw [hf]; simp -implicitDefEqProofs [h1, h2, g, he]
  | some x =>
    obtain ⟨kd, y, n⟩ := x; obtain ⟨n1, n2⟩ := firstF_n hbr hf; rw [hf] at g; simp only [resF1] at g; obtain ⟨_, _, hok, _⟩ := firstF_inv hbr hf; have hby : Bts y := by
      obtain ⟨e, _⟩ := firstF_inv hbr hf; intro c hc; refine hbr c ?_
      rw [e]; refine List.mem_append_left _ ?_
      simp only [putF, List.mem_append, List.mem_cons]; exact .inr (.inr (.inl hc))
    have e0 : walkL s (b.length + 1) z (b.drop z.toNat) = if kd = 2 ∧ y.length ≤ 4096 then (ptAt s z y :: (walkL s (b.length + 1) (z + n) ((b.drop z.toNat).drop n)).1, (walkL s (b.length + 1) (z + n) ((b.drop z.toNat).drop n)).2) else ([], z) := by
      rw [walk_fuel s (b.length + 1) (b.length + 1 + 1) z _ hbr (by omega) (by omega)]; conv => lhs; unfold walkL
      rw [hf]
    by_cases k1 : kd = 2
    · by_cases k2 : (y.length : Int) > 4096
      · have k2' : ¬ y.length ≤ 4096 := by omega
        have e1 : walkL s (b.length + 1) z (b.drop z.toNat) = ([], z) := by rw [e0]; exact if_neg fun h => k2' h.2
        refine .inr ?_
        simp -implicitDefEqProofs [e1, h1, h2, g, k1, k2]
      · have k2' : y.length ≤ 4096 := by omega
        have hh := headN_r (n := y.length) (by omega)
        have g1 := h1039 (y.length : Int)
        rw [headI_eq k2'] at g1; have w1 : IntKind.i64.wrap (z + headN y.length) = z + headN y.length := wi64 _ (by omega) (by omega)
        have w2 : IntKind.i64.wrap (z + n) = z + n := wi64 _ (by omega) (by omega)
        have g2 := h26 s (z + headN y.length) y hby (by omega)
        simp only [pt_ok hs hs2 h1 (by omega : z ≤ 4194304) k2', if_true] at g2; have hB : ps.length + 1 ≤ BIG := by unfold BIG; omega
        have ed : (b.drop z.toNat).drop n = b.drop (z + n).toNat := by rw [List.drop_drop, show z.toNat + n = (z + n).toNat by omega]
        refine .inl ⟨(ps ++ [ptAt s z y], z + n), ?_, ⟨by simp only; omega, by simp only; omega, by simp only [List.length_append, List.length_singleton]; omega⟩, by simp only; omega, ?_⟩
        · simp -implicitDefEqProofs [h1, h2, g, k1, k2, g1, w1, w2, g2, hB, ptAt]
        · have e1 : walkL s (b.length + 1) z (b.drop z.toNat) = (ptAt s z y :: (walkL s (b.length + 1) (z + n) (b.drop (z + n).toNat)).1, (walkL s (b.length + 1) (z + n) (b.drop (z + n).toNat)).2) := by rw [e0, ← ed]; exact if_pos ⟨k1, k2'⟩
          simp only [e1, List.append_assoc, List.cons_append, List.nil_append]
    · have e1 : walkL s (b.length + 1) z (b.drop z.toNat) = ([], z) := by rw [e0]; exact if_neg fun h => k1 h.1
      refine .inr ?_
      simp -implicitDefEqProofs [e1, h1, h2, g, k1]
theorem s3068 {lc : List Ct} (hl0 : Sx.look (lc.map fun c => (c.sig.id, c)) 3068 = some c3068) : ∀ (s : Int) (b : List Int) (hs : 1 ≤ s) (hs2 : s ≤ 2147483647) (hl : b.length ≤ 4194304) (hb : ∀ c ∈ b, 0 ≤ c ∧ c < 256), Does1 (Phi lc) 3068 [⟨.int .i64, s⟩, ⟨.sl (.int .u8), b⟩] [⟨.sl PtT, (walkL s (b.length + 1) 0 b).1⟩, ⟨.int .i64, (walkL s (b.length + 1) 0 b).2⟩] :=
  fun s b hs hs2 hl hb => by
    have eFc : c3068.F = F3068 := rfl
    have eFh := f3068 s b hs hs2 hl hb
    rw [← eFc] at eFh; exact Does1.of hl0 eFh rfl
end Go.Proofs.Ytmglkddddpipgaa.Sx

namespace Go.Proofs.Ytmglkddddpipgaa
open Sx
def sig66 : Sig := { id := 66, ins := [(false, Ty.ref 0)], outs := [(false, [(Ty.bool, none)])], ars := [(0, T0)] }
def ir66 : IR := .op (.call 55) [.v 0, .v 1] (.ret [.v 2, .v 3])
def sig24 : Sig := { id := 24, ins := [(false, Ty.ref 0), (false, Ty.str), (false, Ty.int .i64), (false, Ty.int .i64)], outs := [(false, [((Ty.int .u8).sl, some 5)]), (false, [(Ty.int .i64, none)])], ars := [(0, T0), (1, T1), (2, T2), (3, T3)] }
def ir24 : IR := .op (.call 55) [.v 0, .v 4] (.ite (.v 8) (.ret [.l (.nil (Ty.int .u8)), .l (.int .i64 9), .v 9, .v 5, .v 6, .v 7]) (.op (.call 56) [.v 0, .v 1, .v 9, .v 5, .v 7] (.op .not [.v 12] (.ite (.v 16) (.ret [.l (.nil (Ty.int .u8)), .l (.int .i64 3), .v 13, .v 14, .v 6, .v 15]) (.op (.icmp .lss) [.v 2, .l (.int .i64 0)] (.ite (.v 17) (.ret [.l (.nil (Ty.int .u8)), .l (.int .i64 1), .v 13, .v 14, .v 6, .v 15]) (.op (.icmp .lss) [.v 3, .l (.int .i64 0)] (.ite (.v 18) (.ret [.l (.nil (Ty.int .u8)), .l (.int .i64 1), .v 13, .v 14, .v 6, .v 15]) (.op (.hget FlT 2) [.v 6, .v 11] (.op .len [.v 19] (.op (.icmp .gtr) [.v 2, .v 21] (.ite (.v 22) (.op (.hset FlT 2) [.v 6, .v 11, .v 19, .v 20] (.ret [.l (.nil (Ty.int .u8)), .l (.int .i64 1), .v 13, .v 14, .v 23, .v 15])) (.op .len [.v 19] (.op (.ibin .sub .i64) [.v 23, .v 2] (.op (.icmp .gtr) [.v 3, .v 24] (.ite (.v 25) (.op (.hset FlT 2) [.v 6, .v 11, .v 19, .v 20] (.ret [.l (.nil (Ty.int .u8)), .l (.int .i64 1), .v 13, .v 14, .v 26, .v 15])) (.op (.mkz (Ty.int .u8)) [.v 3] (.op .sub [.v 19, .v 2] (.op (.cpy (Ty.int .u8)) [.v 26, .v 27] (.op (.hset FlT 2) [.v 6, .v 11, .v 19, .v 20] (.ret [.v 28, .l (.int .i64 0), .v 13, .v 14, .v 30, .v 15])))))))))))))))))))))
def sig59 : Sig := { id := 59, ins := [(false, (Ty.int .u8).sl), (false, (Ty.int .u8).sl)], outs := [(false, [(Ty.bool, none)])] }
def ir59 : IR := .op .len [.v 0] (.op .len [.v 1] (.op (.icmp .neq) [.v 2, .v 3] (.ite (.v 4) (.ret [.l (.bool false)]) (.loop [.l (.int .i64 0)] [Ty.int .i64] (.op .len [.v 0] (.op (.icmp .lss) [.v 5, .v 6] (.ite (.v 7) (.op .inb [.v 0, .v 5] (.op (.idx (Ty.int .u8)) [.v 0, .v 5] (.op .inb [.v 1, .v 5] (.op (.idx (Ty.int .u8)) [.v 1, .v 5] (.op (.icmp .neq) [.v 8, .v 9] (.ite (.v 10) (.ret [.l (.bool false)]) (.op (.ibin .add .i64) [.v 5, .l (.int .i64 1)] (.jump 0 [.v 11])))))))) (.ret [.l (.bool true)]))))))))
def sig27 : Sig := { id := 27, ins := [(false, (Ty.int .u8).sl), (false, (Ty.int .u8).sl)], outs := [(false, [(Ty.bool, none)])] }
def ir27 : IR := .op (.call 59) [.v 0, .v 1] (.ret [.v 2])
noncomputable def F66 : List D → Option (List D) := Fof [c55] ir66
noncomputable def c66 : Ct := ⟨sig66, F66⟩
noncomputable def F24 : List D → Option (List D) := Fof [c55, c56] ir24
noncomputable def c24 : Ct := ⟨sig24, F24⟩
noncomputable def F59 : List D → Option (List D) := Fof [] ir59
noncomputable def c59 : Ct := ⟨sig59, F59⟩
noncomputable def F27 : List D → Option (List D) := Fof [c59] ir27
noncomputable def c27 : Ct := ⟨sig27, F27⟩
end Go.Proofs.Ytmglkddddpipgaa

namespace Go.Proofs.Ytmglkddddpipgaa
open Sx Go.RowKit

theorem f66 (s : St) : F66 [⟨.ref 0, some 0⟩, ⟨.sl DkT, [s.d]⟩] = some [⟨.bool, s.de⟩, ⟨.sl DkT, [s.d]⟩] := by
  have h55S := s55S (lc := [c55]) rfl
  simp only [F66, Fof, ir66]; generalize Phi [c55] = Φ at *
  have g := h55S s
  simp -implicitDefEqProofs [g]
theorem s66 {lc : List Ct} (hl0 : Sx.look (lc.map fun c => (c.sig.id, c)) 66 = some c66) : ∀ (s : St), Does1 (Phi lc) 66 [⟨.ref 0, some 0⟩, ⟨.sl DkT, [s.d]⟩] [⟨.bool, s.de⟩, ⟨.sl DkT, [s.d]⟩] :=
  fun s => by
    have eFc : c66.F = F66 := rfl
    have eFh := f66 s
    rw [← eFc] at eFh; exact Does1.of hl0 eFh rfl

theorem f59 (a b : List Int) (hl : a.length ≤ 1000000000) : F59 [⟨.sl (.int .u8), a⟩, ⟨.sl (.int .u8), b⟩] = some [⟨.bool, decide (a = b)⟩] := by
  simp only [F59, Fof, ir59]; by_cases hne : (a.length : Int) = b.length
  · simp -implicitDefEqProofs [hne]
    refine (iter_meas (fun i : Int => (a.length - i).toNat) (fun i : Int => ([⟨.bool, decide (a.drop i.toNat = b.drop i.toNat)⟩] : List D)) (fun i => 0 ≤ i ∧ i ≤ a.length) (by exact ⟨by omega, by omega⟩) ?_).trans (by simp)
    rintro i ⟨h1, h2⟩
    by_cases hi : i < a.length
    · have hib : i < b.length := by omega
      obtain ⟨x, hx⟩ : ∃ x, a[i.toNat]? = some x := ⟨_, List.getElem?_eq_getElem (by omega)⟩
      obtain ⟨y, hy⟩ : ∃ y, b[i.toNat]? = some y := ⟨_, List.getElem?_eq_getElem (by omega)⟩
      obtain ⟨_, hx2⟩ := List.getElem?_eq_some_iff.1 hx
      obtain ⟨_, hy2⟩ := List.getElem?_eq_some_iff.1 hy
      have wi : IntKind.i64.wrap (i + 1) = i + 1 := wi64 _ (by omega) (by omega)
      rw [dropI' h1 hx, dropI' h1 hy]; by_cases he : x = y
      · refine .inl ⟨i + 1, ?_, ⟨by omega, by omega⟩, by omega, by simp [he]⟩
        simp -implicitDefEqProofs [hi, hib, h1, hx, hy, hx2, hy2, he, wi]
      · refine .inr ?_
        simp -implicitDefEqProofs [hi, hib, h1, hx, hy, hx2, hy2, he]
    · have hib : ¬ i < b.length := by omega
      rw [List.drop_eq_nil_of_le (by omega), List.drop_eq_nil_of_le (by omega)]; refine .inr ?_
      simp -implicitDefEqProofs [hi, hib]
  · have hab : ¬ a = b := fun e => hne (by rw [e])
    simp -implicitDefEqProofs [hne, hab]
theorem s59 {lc : List Ct} (hl0 : Sx.look (lc.map fun c => (c.sig.id, c)) 59 = some c59) : ∀ (a b : List Int) (hl : a.length ≤ 1000000000), Does1 (Phi lc) 59 [⟨.sl (.int .u8), a⟩, ⟨.sl (.int .u8), b⟩] [⟨.bool, decide (a = b)⟩] :=
  fun a b hl => by
    have eFc : c59.F = F59 := rfl
    have eFh := f59 a b hl
    rw [← eFc] at eFh; exact Does1.of hl0 eFh rfl

theorem f27 (a b : List Int) (hl : a.length ≤ 1000000000) : F27 [⟨.sl (.int .u8), a⟩, ⟨.sl (.int .u8), b⟩] = some [⟨.bool, decide (a = b)⟩] := by
  have h59 := s59 (lc := [c59]) rfl
  simp only [F27, Fof, ir27]; generalize Phi [c59] = Φ at *
  have g := h59 a b hl
  simp -implicitDefEqProofs [g]
theorem s27 {lc : List Ct} (hl0 : Sx.look (lc.map fun c => (c.sig.id, c)) 27 = some c27) : ∀ (a b : List Int) (hl : a.length ≤ 1000000000), Does1 (Phi lc) 27 [⟨.sl (.int .u8), a⟩, ⟨.sl (.int .u8), b⟩] [⟨.bool, decide (a = b)⟩] :=
  fun a b hl => by
    have eFc : c27.F = F27 := rfl
    have eFh := f27 a b hl
    rw [← eFc] at eFh; exact Does1.of hl0 eFh rfl

theorem o_cpy {Φ : Nat → Cont} {k : IR} {R : Type} {lv n : Nat} {ρ : List (Nat × D)} {kr : List D → Option R} {kj : Nat → List D → Option R} (xs zs : List Int) :
    opD Φ (.cpy (.int .u8)) [⟨.sl (.int .u8), xs⟩, ⟨.sl (.int .u8), zs⟩] k R lv n ρ kr kj =
      deb Φ k R lv (n + 2) ((n + 1, ⟨.int .i64, ((min zs.length xs.length : Nat) : Int)⟩) :: (n, ⟨.sl (.int .u8), zs.take xs.length ++ xs.drop zs.length⟩) :: ρ) kr kj := by
  simp only [opD, evalPr, D.get, dif_pos, if_true]; rfl

def readM (s : St) (a : List Int) (p n : Int) : List Int × Int :=
  if s.de = true then ([], 9) else match s.file a with
  | none => ([], 3)
  | some (_, f) => if p < 0 ∨ n < 0 ∨ p > f.1.length ∨ n > f.1.length - p then ([], 1) else ((f.1.drop p.toNat).take n.toNat, 0)

theorem f24 (s : St) (a : List Int) (p n : Int) (h : Ok s) : F24 [⟨.ref 0, some 0⟩, ⟨.str, a⟩, ⟨.int .i64, p⟩, ⟨.int .i64, n⟩, ⟨.sl DkT, [s.d]⟩, ⟨.sl (.sl MpT), s.A1⟩, ⟨.sl FlT, s.A2⟩, ⟨.sl (.sl FmT), [s.fm]⟩] = some [⟨.sl (.int .u8), (readM s a p n).1⟩, ⟨.int .i64, (readM s a p n).2⟩, ⟨.sl DkT, [s.d]⟩, ⟨.sl (.sl MpT), s.A1⟩, ⟨.sl FlT, s.A2⟩, ⟨.sl (.sl FmT), [s.fm]⟩] := by
  have h55S := s55S (lc := [c55, c56]) rfl
  have h56nS := s56nS (lc := [c55, c56]) rfl
  have h56sS := s56sS (lc := [c55, c56]) rfl
  simp only [F24, Fof, ir24]; generalize Phi [c55, c56] = Φ at *
  have g55 := h55S s
  cases hd : s.de with
  | true =>
    rw [hd] at g55; simp -implicitDefEqProofs [g55, hd, readM]
  | false =>
  rw [hd] at g55; have hfo : ((s.q, some 0, some s.jn, some s.js, s.ts, s.nx, s.st, s.fa, false) : DiskD) = s.d := by rw [← hd]
  cases hf : findS a s.nm with
  | none =>
    have g56 := h56nS s h a hf
    simp -implicitDefEqProofs [hfo, g55, g56, readM, St.file, hf, hd]
  | some i =>
    obtain ⟨k, f, hk, hk2, hkl, hf1, hf2, hf3⟩ := h.file hf; obtain ⟨_, hv⟩ := List.getElem?_eq_some_iff.1 hk2
    have hss : s.A2.set k (f.1, f.2) = s.A2 := set_same hk2
    have g56 := h56sS s h a i (some k) hf hk
    by_cases p1 : p < 0
    · simp -implicitDefEqProofs [hfo, g55, g56, readM, St.file, hf, hd, hk, hk2, p1]
    by_cases p2 : n < 0
    · simp -implicitDefEqProofs [hfo, g55, g56, readM, St.file, hf, hd, hk, hk2, p1, p2]
    by_cases p3 : p > f.1.length
    · simp -implicitDefEqProofs [hfo, g55, g56, readM, St.file, hf, hd, hk, hk2, hkl, hv, hss, p1, p2, p3]
    have wp : IntKind.i64.wrap ((f.1.length : Int) - p) = (f.1.length : Int) - p := wi64 _ (by omega) (by omega)
    by_cases p4 : n > (f.1.length : Int) - p
    · simp -implicitDefEqProofs [hfo, g55, g56, readM, St.file, hf, hd, hk, hk2, hkl, hv, hss, p1, p2, p3, p4, wp]
    have q1 : 0 ≤ n := by omega
    have q2 : n ≤ 1099511627776 := by omega
    have q3 : 0 ≤ p := by omega
    have q4 : p ≤ f.1.length := by omega
    have q5 : n.toNat ≤ f.1.length - p.toNat := by omega
    have q6 : n.toNat - (f.1.length - p.toNat) = 0 := by omega
    simp -implicitDefEqProofs [hfo, g55, g56, readM, St.file, hf, hd, hk, hk2, hkl, hv, hss, p1, p2, p3, p4, wp, q1, q2, q3, q4, q5, q6, o_cpy]
theorem s24 {lc : List Ct} (hl0 : Sx.look (lc.map fun c => (c.sig.id, c)) 24 = some c24) : ∀ (s : St) (a : List Int) (p n : Int) (h : Ok s), Does1 (Phi lc) 24 [⟨.ref 0, some 0⟩, ⟨.str, a⟩, ⟨.int .i64, p⟩, ⟨.int .i64, n⟩, ⟨.sl DkT, [s.d]⟩, ⟨.sl (.sl MpT), s.A1⟩, ⟨.sl FlT, s.A2⟩, ⟨.sl (.sl FmT), [s.fm]⟩] [⟨.sl (.int .u8), (readM s a p n).1⟩, ⟨.int .i64, (readM s a p n).2⟩, ⟨.sl DkT, [s.d]⟩, ⟨.sl (.sl MpT), s.A1⟩, ⟨.sl FlT, s.A2⟩, ⟨.sl (.sl FmT), [s.fm]⟩] :=
  fun s a p n h => by
    have eFc : c24.F = F24 := rfl
    have eFh := f24 s a p n h
    rw [← eFc] at eFh; exact Does1.of hl0 eFh rfl

end Go.Proofs.Ytmglkddddpipgaa

namespace Go.Proofs.Ytmglkddddpipgaa
open Sx
def sig3067 : Sig := { id := 3067, ins := [(false, LgT.pt), (false, Ty.int .i64)], outs := [(false, [((Ty.int .u8).sl, some 5)]), (false, [(Ty.int .i64, none)])], ars := [(0, T0), (1, T1), (2, T2), (3, T3)] }
def ir3067 : IR := .op .npp [.v 0] (.op (.pod LgT) [.v 0] (.op (.call 66) [.v 6, .v 2] (.ite (.v 8) (.ret [.l (.nil (Ty.int .u8)), .l (.int .i64 9), .v 9, .v 3, .v 4, .v 5]) (.op .npp [.v 0] (.op (.pod LgT) [.v 0] (.op (.call 3064) [.v 1] (.op (.call 23) [.v 10, .v 12, .v 9, .v 3, .v 4, .v 5] (.op .not [.v 14] (.ite (.v 19) (.ret [.l (.nil (Ty.int .u8)), .l (.int .i64 0), .v 15, .v 16, .v 17, .v 18]) (.op .npp [.v 0] (.op (.pod LgT) [.v 0] (.op (.call 3064) [.v 1] (.op (.call 24) [.v 20, .v 22, .l (.int .i64 0), .v 13, .v 15, .v 16, .v 17, .v 18] (.ret [.v 23, .v 24, .v 25, .v 26, .v 27, .v 28]))))))))))))))
def sig3062 : Sig := { id := 3062, ins := [(false, LgT.pt), (false, Ty.int .i64)], outs := [(false, [(Ty.int .i64, none)])], ars := [(0, T0), (1, T1), (2, T2), (3, T3)] }
def ir3062 : IR := .op (.call 3042) [.v 0] (.op .not [.v 6] (.ite (.v 7) (.ret [.l (.int .i64 0), .v 2, .v 3, .v 4, .v 5]) (.op .npp [.v 0] (.op (.pod LgT) [.v 0] (.op (.call 3070) [.v 9, .v 1] (.op .not [.v 10] (.ite (.v 11) (.ret [.l (.int .i64 0), .v 2, .v 3, .v 4, .v 5]) (.op .npp [.v 0] (.op (.pod LgT) [.v 0] (.op (.call 3064) [.v 1] (.op (.call 23) [.v 12, .v 14, .v 2, .v 3, .v 4, .v 5] (.ret [.v 15, .v 17, .v 18, .v 19, .v 20]))))))))))))
def sig3032 : Sig := { id := 3032, ins := [(false, Ty.ref 0), (false, (Ty.int .i64).sl)], outs := [(false, [(LgT.pt, none)]), (false, [(Ty.int .i64, none)])], ars := [(0, T0), (1, T1), (2, T2), (3, T3)] }
def ir3032 : IR := .op (.isr false) [.v 0] (.ite (.v 6) (.ret [.l (L.np LgT), .l (.int .i64 1), .v 2, .v 3, .v 4, .v 5]) (.op (.call 3065) [.v 1] (.op .not [.v 7] (.ite (.v 8) (.ret [.l (L.np LgT), .l (.int .i64 1), .v 2, .v 3, .v 4, .v 5]) (.op (.call 3043) [.v 1] (.op .len [.v 1] (.op (.icmp .eql) [.v 10, .l (.int .i64 0)] (.ite (.v 11) (.op (.call 66) [.v 0, .v 2] (.ite (.v 12) (.ret [.l (L.np LgT), .l (.int .i64 9), .v 13, .v 3, .v 4, .v 5]) (.op (.mkp LgT) [.v 0, .v 9] (.ret [.v 14, .l (.int .i64 0), .v 13, .v 3, .v 4, .v 5])))) (.op (.mkp LgT) [.v 0, .v 9] (.op (.call 3061) [.v 12] (.op (.call 3067) [.v 12, .v 13, .v 2, .v 3, .v 4, .v 5] (.op (.icmp .neq) [.v 15, .l (.int .i64 0)] (.ite (.v 20) (.ret [.l (L.np LgT), .v 15, .v 16, .v 17, .v 18, .v 19]) (.op (.call 3068) [.v 13, .v 14] (.op .len [.v 14] (.op (.icmp .lss) [.v 22, .v 23] (.ite (.v 24) (.op (.call 3064) [.v 13] (.op (.call 44) [.v 0, .v 25, .v 22, .v 16, .v 17, .v 18, .v 19] (.op (.icmp .neq) [.v 26, .l (.int .i64 0)] (.ite (.v 31) (.ret [.l (L.np LgT), .v 26, .v 27, .v 28, .v 29, .v 30]) (.ret [.v 12, .l (.int .i64 0), .v 27, .v 28, .v 29, .v 30]))))) (.ret [.v 12, .l (.int .i64 0), .v 16, .v 17, .v 18, .v 19]))))))))))))))))))
def sig3029 : Sig := { id := 3029, ins := [(false, LgT.pt), (false, (Ty.int .u8).sl)], outs := [(true, [(Ty.int .i64, none), (Ty.int .i64, none), (Ty.int .i64, none), (Ty.int .u32, none)]), (false, [(Ty.int .i64, none)])], ars := [(0, T0), (1, T1), (2, T2), (3, T3)] }
def ir3029 : IR := .op (.call 3042) [.v 0] (.op .not [.v 6] (.ite (.v 7) (.ret [.l (.int .i64 0), .l (.int .i64 0), .l (.int .i64 0), .l (.int .u32 0), .l (.int .i64 11), .v 2, .v 3, .v 4, .v 5]) (.op .npp [.v 0] (.op (.pod LgT) [.v 0] (.op .len [.v 9] (.op (.icmp .eql) [.v 10, .l (.int .i64 0)] (.ite (.v 11) (.ret [.l (.int .i64 0), .l (.int .i64 0), .l (.int .i64 0), .l (.int .u32 0), .l (.int .i64 11), .v 2, .v 3, .v 4, .v 5]) (.op (.call 3061) [.v 0] (.op (.call 3061) [.v 0] (.op (.call 3062) [.v 0, .v 13, .v 2, .v 3, .v 4, .v 5] (.op (.call 3060) [.v 12, .v 14, .v 1] (.op (.icmp .neq) [.v 23, .l (.int .i64 0)] (.ite (.v 24) (.ret [.l (.int .i64 0), .l (.int .i64 0), .l (.int .i64 0), .l (.int .u32 0), .v 23, .v 15, .v 16, .v 17, .v 18]) (.op (.mk (Ty.int .u8).sl 1) [.v 1] (.op (.call 3063) [.v 25] (.op .npp [.v 0] (.op (.pod LgT) [.v 0] (.op (.call 3061) [.v 0] (.op (.call 3064) [.v 30] (.op (.call 22) [.v 28, .v 31, .v 26, .v 15, .v 16, .v 17, .v 18] (.op (.icmp .neq) [.v 32, .l (.int .i64 0)] (.ite (.v 37) (.ret [.l (.int .i64 0), .l (.int .i64 0), .l (.int .i64 0), .l (.int .u32 0), .v 32, .v 33, .v 34, .v 35, .v 36]) (.ret [.v 19, .v 20, .v 21, .v 22, .l (.int .i64 0), .v 33, .v 34, .v 35, .v 36])))))))))))))))))))))))
def sig3030 : Sig := { id := 3030, ins := [(false, LgT.pt)], outs := [(false, [(Ty.int .i64, none)])], ars := [(0, T0), (1, T1), (2, T2), (3, T3)] }
def ir3030 : IR := .op (.call 3042) [.v 0] (.op .not [.v 5] (.ite (.v 6) (.ret [.l (.int .i64 11), .v 1, .v 2, .v 3, .v 4]) (.op .npp [.v 0] (.op (.pod LgT) [.v 0] (.op .len [.v 8] (.op (.icmp .eql) [.v 9, .l (.int .i64 0)] (.ite (.v 10) (.ret [.l (.int .i64 0), .v 1, .v 2, .v 3, .v 4]) (.op .npp [.v 0] (.op (.pod LgT) [.v 0] (.op (.call 3061) [.v 0] (.op (.call 3064) [.v 13] (.op (.call 23) [.v 11, .v 14, .v 1, .v 2, .v 3, .v 4] (.op .not [.v 16] (.ite (.v 21) (.ret [.l (.int .i64 0), .v 17, .v 18, .v 19, .v 20]) (.op .npp [.v 0] (.op (.pod LgT) [.v 0] (.op (.call 3061) [.v 0] (.op (.call 3064) [.v 24] (.op (.call 25) [.v 22, .v 25, .v 17, .v 18, .v 19, .v 20] (.ret [.v 26, .v 27, .v 28, .v 29, .v 30]))))))))))))))))))))
def sig3033 : Sig := { id := 3033, ins := [(false, LgT.pt), (true, PtT)], outs := [(false, [((Ty.int .u8).sl, some 5)]), (false, [(Ty.int .i64, none)])], ars := [(0, T0), (1, T1), (2, T2), (3, T3)] }
def ir3033 : IR := .op (.call 3042) [.v 0] (.op .not [.v 9] (.ite (.v 10) (.ret [.l (.nil (Ty.int .u8)), .l (.int .i64 11), .v 5, .v 6, .v 7, .v 8]) (.op (.call 68) [.v 1, .v 2, .v 3, .v 4] (.op (.icmp .neq) [.v 11, .l (.int .i64 0)] (.ite (.v 12) (.ret [.l (.nil (Ty.int .u8)), .l (.int .i64 1), .v 5, .v 6, .v 7, .v 8]) (.op .npp [.v 0] (.op (.pod LgT) [.v 0] (.op (.call 3070) [.v 14, .v 1] (.op .not [.v 15] (.ite (.v 16) (.ret [.l (.nil (Ty.int .u8)), .l (.int .i64 3), .v 5, .v 6, .v 7, .v 8]) (.op (.call 3067) [.v 0, .v 1, .v 5, .v 6, .v 7, .v 8] (.op (.icmp .neq) [.v 18, .l (.int .i64 0)] (.ite (.v 23) (.ret [.l (.nil (Ty.int .u8)), .v 18, .v 19, .v 20, .v 21, .v 22]) (.op (.call 3071) [.v 17, .v 1, .v 2, .v 3, .v 4] (.ret [.v 24, .v 25, .v 19, .v 20, .v 21, .v 22])))))))))))))))
def sig3009 : Sig := { id := 3009, ins := [(false, (Ty.int .i64).sl)], outs := [(false, [(((Ty.ref 0).pair (LgT.pt.pair (((Ty.int .i64).sl.pair (Ty.int .u8).sl.sl.sl).pair PtT.sl))).pt, none)]), (false, [(Ty.bool, none)])], ars := [(0, T0), (1, T1), (2, T2), (3, T3)] }
def ir3009 : IR := .op (.call 16) [.l (.int .i64 4194304), .v 1, .v 2, .v 3, .v 4] (.op (.call 3032) [.v 5, .v 0, .v 7, .v 8, .v 9, .v 10] (.op (.call 3034) [.v 0] (.op (.icmp .eql) [.v 12, .l (.int .i64 0)] (.ite (.v 19) (.op (.isr true) [.v 5] (.ite (.v 20) (.op (.isp true) [.v 11] (.op (.mkp ((Ty.ref 0).pair (LgT.pt.pair (((Ty.int .i64).sl.pair (Ty.int .u8).sl.sl.sl).pair PtT.sl)))) [.v 5, .v 11, .v 17, .v 18, .l (.nil PtT)] (.ret [.v 22, .v 21, .v 13, .v 14, .v 15, .v 16]))) (.op (.mkp ((Ty.ref 0).pair (LgT.pt.pair (((Ty.int .i64).sl.pair (Ty.int .u8).sl.sl.sl).pair PtT.sl)))) [.v 5, .v 11, .v 17, .v 18, .l (.nil PtT)] (.ret [.v 21, .l (.bool false), .v 13, .v 14, .v 15, .v 16])))) (.op (.mkp ((Ty.ref 0).pair (LgT.pt.pair (((Ty.int .i64).sl.pair (Ty.int .u8).sl.sl.sl).pair PtT.sl)))) [.v 5, .v 11, .v 17, .v 18, .l (.nil PtT)] (.ret [.v 20, .l (.bool false), .v 13, .v 14, .v 15, .v 16]))))))
def sig3008 : Sig := { id := 3008, ins := [], outs := [(false, [(Ty.bool, none)])] }
def ir3008 : IR := .op (.call 16) [.l (.int .i64 1000), .l (.nil DkT), .l (.nil (Ty.str.pair (Ty.int .i64)).sl), .l (.nil FlT), .l (.nil ((Ty.int .i64).pair (Ty.ref 2)).sl)] (.op (.mk (Ty.int .i64) 1) [.l (.int .i64 1)] (.op (.call 3032) [.v 0, .v 6, .v 2, .v 3, .v 4, .v 5] (.op (.icmp .neq) [.v 8, .l (.int .i64 0)] (.ite (.v 13) (.ret [.l (.bool false)]) (.op (.isp false) [.v 7] (.ite (.v 14) (.ret [.l (.bool false)]) (.op (.mk (Ty.int .u8) 2) [.l (.int .u8 7), .l (.int .u8 8)] (.op (.call 3029) [.v 7, .v 15, .v 9, .v 10, .v 11, .v 12] (.op (.call 3033) [.v 7, .v 16, .v 17, .v 18, .v 19, .v 21, .v 22, .v 23, .v 24] (.op (.icmp .eql) [.v 20, .l (.int .i64 0)] (.ite (.v 31) (.op (.icmp .eql) [.v 26, .l (.int .i64 0)] (.ite (.v 32) (.op (.icmp .eql) [.v 16, .l (.int .i64 1)] (.ite (.v 33) (.op (.mk (Ty.int .u8) 2) [.l (.int .u8 7), .l (.int .u8 8)] (.op (.call 27) [.v 25, .v 34] (.ret [.v 35]))) (.ret [.l (.bool false)]))) (.ret [.l (.bool false)]))) (.ret [.l (.bool false)]))))))))))))
def sig3006 : Sig := { id := 3006, ins := [(false, (Ty.int .u8).sl.sl), (false, (Ty.int .u8).sl.sl), (true, (Ty.int .i64).pair ((Ty.int .i64).pair (Ty.int .i64).sl))], outs := [(false, [(Ty.bool, none)])] }
def ir3006 : IR := .op (.call 3028) [.v 0] (.op .not [.v 5] (.ite (.v 6) (.op (.call 3008) [] (.ret [.v 7])) (.op (.call 3028) [.v 1] (.op .not [.v 7] (.ite (.v 8) (.op (.call 3008) [] (.ret [.v 9])) (.op .len [.v 4] (.op (.icmp .gtr) [.v 9, .l (.int .i64 100)] (.ite (.v 10) (.op (.call 3008) [] (.ret [.v 11])) (.op (.mk (Ty.int .i64) 1) [.l (.int .i64 3)] (.op (.call 3009) [.v 11, .l (.nil DkT), .l (.nil (Ty.str.pair (Ty.int .i64)).sl), .l (.nil FlT), .l (.nil ((Ty.int .i64).pair (Ty.ref 2)).sl)] (.op .not [.v 13] (.ite (.v 18) (.ret [.l (.bool false)]) (.op (.mk PtT 0) [] (.loop [.v 19, .l (.int .i64 0), .v 17, .v 16, .v 15, .v 14] [PtT.sl, Ty.int .i64, ((Ty.int .i64).pair (Ty.ref 2)).sl.sl, FlT.sl, (Ty.str.pair (Ty.int .i64)).sl.sl, DkT.sl] (.op .len [.v 0] (.op (.icmp .lss) [.v 21, .v 26] (.ite (.v 27) (.op .npp [.v 12] (.op (.pod ((Ty.ref 0).pair (LgT.pt.pair (((Ty.int .i64).sl.pair (Ty.int .u8).sl.sl.sl).pair PtT.sl)))) [.v 12] (.op .inb [.v 0, .v 21] (.op (.idx (Ty.int .u8).sl) [.v 0, .v 21] (.op (.call 3029) [.v 29, .v 33, .v 25, .v 24, .v 23, .v 22] (.op (.icmp .neq) [.v 38, .l (.int .i64 0)] (.ite (.v 43) (.ret [.l (.bool false)]) (.op (.mk PtT 1) [.v 34, .v 35, .v 36, .v 37] (.op .app [.v 20, .v 44] (.op (.ibin .add .i64) [.v 21, .l (.int .i64 1)] (.jump 0 [.v 45, .v 46, .v 42, .v 41, .v 40, .v 39]))))))))))) (.op .npp [.v 12] (.op (.pod ((Ty.ref 0).pair (LgT.pt.pair (((Ty.int .i64).sl.pair (Ty.int .u8).sl.sl.sl).pair PtT.sl)))) [.v 12] (.op (.call 3030) [.v 29, .v 25, .v 24, .v 23, .v 22] (.op (.icmp .neq) [.v 33, .l (.int .i64 0)] (.ite (.v 38) (.ret [.l (.bool false)]) (.op .npp [.v 12] (.op (.pod ((Ty.ref 0).pair (LgT.pt.pair (((Ty.int .i64).sl.pair (Ty.int .u8).sl.sl.sl).pair PtT.sl)))) [.v 12] (.op (.call 26) [.v 39, .v 34, .v 35, .v 36, .v 37] (.op (.icmp .neq) [.v 44, .l (.int .i64 0)] (.ite (.v 49) (.ret [.l (.bool false)]) (.op .npp [.v 12] (.op (.pod ((Ty.ref 0).pair (LgT.pt.pair (((Ty.int .i64).sl.pair (Ty.int .u8).sl.sl.sl).pair PtT.sl)))) [.v 12] (.op (.call 31) [.v 50, .v 2, .v 45] (.loop [.v 20, .l (.int .i64 0), .v 48, .v 47, .v 46, .v 55] [PtT.sl, Ty.int .i64, ((Ty.int .i64).pair (Ty.ref 2)).sl.sl, FlT.sl, (Ty.str.pair (Ty.int .i64)).sl.sl, DkT.sl] (.op .len [.v 1] (.op (.icmp .lss) [.v 57, .v 62] (.ite (.v 63) (.op .npp [.v 12] (.op (.pod ((Ty.ref 0).pair (LgT.pt.pair (((Ty.int .i64).sl.pair (Ty.int .u8).sl.sl.sl).pair PtT.sl)))) [.v 12] (.op .inb [.v 1, .v 57] (.op (.idx (Ty.int .u8).sl) [.v 1, .v 57] (.op (.call 3029) [.v 65, .v 69, .v 61, .v 60, .v 59, .v 58] (.op (.icmp .neq) [.v 74, .l (.int .i64 0)] (.ite (.v 79) (.op .npp [.v 12] (.op (.pod ((Ty.ref 0).pair (LgT.pt.pair (((Ty.int .i64).sl.pair (Ty.int .u8).sl.sl.sl).pair PtT.sl)))) [.v 12] (.op (.call 21) [.v 80, .v 3, .v 4, .v 75, .v 76, .v 77, .v 78] (.op .npp [.v 12] (.op (.pod ((Ty.ref 0).pair (LgT.pt.pair (((Ty.int .i64).sl.pair (Ty.int .u8).sl.sl.sl).pair PtT.sl)))) [.v 12] (.op (.mk (Ty.int .i64) 1) [.l (.int .i64 3)] (.op (.call 3032) [.v 89, .v 94, .v 85, .v 86, .v 87, .v 88] (.op (.icmp .neq) [.v 96, .l (.int .i64 0)] (.ite (.v 101) (.ret [.l (.bool false)]) (.op (.isp false) [.v 95] (.ite (.v 102) (.ret [.l (.bool false)]) (.loop [.l (.int .i64 0), .v 100, .v 99, .v 98, .v 97] [Ty.int .i64, ((Ty.int .i64).pair (Ty.ref 2)).sl.sl, FlT.sl, (Ty.str.pair (Ty.int .i64)).sl.sl, DkT.sl] (.op .len [.v 56] (.op (.icmp .lss) [.v 103, .v 108] (.ite (.v 109) (.op .inb [.v 56, .v 103] (.op (.idx PtT) [.v 56, .v 103] (.op (.call 3033) [.v 95, .v 110, .v 111, .v 112, .v 113, .v 107, .v 106, .v 105, .v 104] (.op .len [.v 0] (.op (.icmp .lss) [.v 103, .v 120] (.ite (.v 121) (.op (.icmp .neq) [.v 115, .l (.int .i64 0)] (.ite (.v 122) (.ret [.l (.bool false)]) (.op .inb [.v 0, .v 103] (.op (.idx (Ty.int .u8).sl) [.v 0, .v 103] (.op (.call 27) [.v 114, .v 123] (.op .not [.v 124] (.ite (.v 125) (.ret [.l (.bool false)]) (.op .len [.v 0] (.op (.icmp .geq) [.v 103, .v 126] (.ite (.v 127) (.op (.icmp .neq) [.v 115, .l (.int .i64 3)] (.ite (.v 128) (.op (.icmp .neq) [.v 115, .l (.int .i64 0)] (.ite (.v 129) (.ret [.l (.bool false)]) (.op .len [.v 0] (.op (.ibin .sub .i64) [.v 103, .v 130] (.op .inb [.v 1, .v 131] (.op (.idx (Ty.int .u8).sl) [.v 1, .v 131] (.op (.call 27) [.v 114, .v 132] (.op .not [.v 133] (.ite (.v 134) (.ret [.l (.bool false)]) (.op (.ibin .add .i64) [.v 103, .l (.int .i64 1)] (.jump 2 [.v 135, .v 119, .v 118, .v 117, .v 116]))))))))))) (.op (.ibin .add .i64) [.v 103, .l (.int .i64 1)] (.jump 2 [.v 129, .v 119, .v 118, .v 117, .v 116])))) (.op (.ibin .add .i64) [.v 103, .l (.int .i64 1)] (.jump 2 [.v 128, .v 119, .v 118, .v 117, .v 116])))))))))))) (.op .len [.v 0] (.op (.icmp .geq) [.v 103, .v 122] (.ite (.v 123) (.op (.icmp .neq) [.v 115, .l (.int .i64 3)] (.ite (.v 124) (.op (.icmp .neq) [.v 115, .l (.int .i64 0)] (.ite (.v 125) (.ret [.l (.bool false)]) (.op .len [.v 0] (.op (.ibin .sub .i64) [.v 103, .v 126] (.op .inb [.v 1, .v 127] (.op (.idx (Ty.int .u8).sl) [.v 1, .v 127] (.op (.call 27) [.v 114, .v 128] (.op .not [.v 129] (.ite (.v 130) (.ret [.l (.bool false)]) (.op (.ibin .add .i64) [.v 103, .l (.int .i64 1)] (.jump 2 [.v 131, .v 119, .v 118, .v 117, .v 116]))))))))))) (.op (.ibin .add .i64) [.v 103, .l (.int .i64 1)] (.jump 2 [.v 125, .v 119, .v 118, .v 117, .v 116])))) (.op (.ibin .add .i64) [.v 103, .l (.int .i64 1)] (.jump 2 [.v 124, .v 119, .v 118, .v 117, .v 116]))))))))))) (.op (.call 3008) [] (.ret [.v 110]))))))))))))))))) (.op (.mk PtT 1) [.v 70, .v 71, .v 72, .v 73] (.op .app [.v 56, .v 80] (.op (.ibin .add .i64) [.v 57, .l (.int .i64 1)] (.jump 1 [.v 81, .v 82, .v 78, .v 77, .v 76, .v 75]))))))))))) (.op .npp [.v 12] (.op (.pod ((Ty.ref 0).pair (LgT.pt.pair (((Ty.int .i64).sl.pair (Ty.int .u8).sl.sl.sl).pair PtT.sl)))) [.v 12] (.op (.call 21) [.v 64, .v 3, .v 4, .v 61, .v 60, .v 59, .v 58] (.op .npp [.v 12] (.op (.pod ((Ty.ref 0).pair (LgT.pt.pair (((Ty.int .i64).sl.pair (Ty.int .u8).sl.sl.sl).pair PtT.sl)))) [.v 12] (.op (.mk (Ty.int .i64) 1) [.l (.int .i64 3)] (.op (.call 3032) [.v 73, .v 78, .v 69, .v 70, .v 71, .v 72] (.op (.icmp .neq) [.v 80, .l (.int .i64 0)] (.ite (.v 85) (.ret [.l (.bool false)]) (.op (.isp false) [.v 79] (.ite (.v 86) (.ret [.l (.bool false)]) (.loop [.l (.int .i64 0), .v 84, .v 83, .v 82, .v 81] [Ty.int .i64, ((Ty.int .i64).pair (Ty.ref 2)).sl.sl, FlT.sl, (Ty.str.pair (Ty.int .i64)).sl.sl, DkT.sl] (.op .len [.v 56] (.op (.icmp .lss) [.v 87, .v 92] (.ite (.v 93) (.op .inb [.v 56, .v 87] (.op (.idx PtT) [.v 56, .v 87] (.op (.call 3033) [.v 79, .v 94, .v 95, .v 96, .v 97, .v 91, .v 90, .v 89, .v 88] (.op .len [.v 0] (.op (.icmp .lss) [.v 87, .v 104] (.ite (.v 105) (.op (.icmp .neq) [.v 99, .l (.int .i64 0)] (.ite (.v 106) (.ret [.l (.bool false)]) (.op .inb [.v 0, .v 87] (.op (.idx (Ty.int .u8).sl) [.v 0, .v 87] (.op (.call 27) [.v 98, .v 107] (.op .not [.v 108] (.ite (.v 109) (.ret [.l (.bool false)]) (.op .len [.v 0] (.op (.icmp .geq) [.v 87, .v 110] (.ite (.v 111) (.op (.icmp .neq) [.v 99, .l (.int .i64 3)] (.ite (.v 112) (.op (.icmp .neq) [.v 99, .l (.int .i64 0)] (.ite (.v 113) (.ret [.l (.bool false)]) (.op .len [.v 0] (.op (.ibin .sub .i64) [.v 87, .v 114] (.op .inb [.v 1, .v 115] (.op (.idx (Ty.int .u8).sl) [.v 1, .v 115] (.op (.call 27) [.v 98, .v 116] (.op .not [.v 117] (.ite (.v 118) (.ret [.l (.bool false)]) (.op (.ibin .add .i64) [.v 87, .l (.int .i64 1)] (.jump 2 [.v 119, .v 103, .v 102, .v 101, .v 100]))))))))))) (.op (.ibin .add .i64) [.v 87, .l (.int .i64 1)] (.jump 2 [.v 113, .v 103, .v 102, .v 101, .v 100])))) (.op (.ibin .add .i64) [.v 87, .l (.int .i64 1)] (.jump 2 [.v 112, .v 103, .v 102, .v 101, .v 100])))))))))))) (.op .len [.v 0] (.op (.icmp .geq) [.v 87, .v 106] (.ite (.v 107) (.op (.icmp .neq) [.v 99, .l (.int .i64 3)] (.ite (.v 108) (.op (.icmp .neq) [.v 99, .l (.int .i64 0)] (.ite (.v 109) (.ret [.l (.bool false)]) (.op .len [.v 0] (.op (.ibin .sub .i64) [.v 87, .v 110] (.op .inb [.v 1, .v 111] (.op (.idx (Ty.int .u8).sl) [.v 1, .v 111] (.op (.call 27) [.v 98, .v 112] (.op .not [.v 113] (.ite (.v 114) (.ret [.l (.bool false)]) (.op (.ibin .add .i64) [.v 87, .l (.int .i64 1)] (.jump 2 [.v 115, .v 103, .v 102, .v 101, .v 100]))))))))))) (.op (.ibin .add .i64) [.v 87, .l (.int .i64 1)] (.jump 2 [.v 109, .v 103, .v 102, .v 101, .v 100])))) (.op (.ibin .add .i64) [.v 87, .l (.int .i64 1)] (.jump 2 [.v 108, .v 103, .v 102, .v 101, .v 100]))))))))))) (.op (.call 3008) [] (.ret [.v 94])))))))))))))))))))))))))))))))))))))))))))))))))))
noncomputable def F3067 : List D → Option (List D) := Fof [c66, c3064, c23, c24] ir3067
noncomputable def c3067 : Ct := ⟨sig3067, F3067⟩
noncomputable def F3062 : List D → Option (List D) := Fof [c3042, c3070, c3064, c23] ir3062
noncomputable def c3062 : Ct := ⟨sig3062, F3062⟩
noncomputable def F3032 : List D → Option (List D) := Fof [c3065, c3043, c66, c3061, c3067, c3068, c3064, c44] ir3032
noncomputable def c3032 : Ct := ⟨sig3032, F3032⟩
noncomputable def F3029 : List D → Option (List D) := Fof [c3042, c3061, c3062, c3060, c3063, c3064, c22] ir3029
noncomputable def c3029 : Ct := ⟨sig3029, F3029⟩
noncomputable def F3030 : List D → Option (List D) := Fof [c3042, c3061, c3064, c23, c25] ir3030
noncomputable def c3030 : Ct := ⟨sig3030, F3030⟩
noncomputable def F3033 : List D → Option (List D) := Fof [c3042, c68, c3070, c3067, c3071] ir3033
noncomputable def c3033 : Ct := ⟨sig3033, F3033⟩
noncomputable def F3009 : List D → Option (List D) := Fof [c16, c3032, c3034] ir3009
noncomputable def c3009 : Ct := ⟨sig3009, F3009⟩
noncomputable def F3008 : List D → Option (List D) := Fof [c16, c3032, c3029, c3033, c27] ir3008
noncomputable def c3008 : Ct := ⟨sig3008, F3008⟩
noncomputable def F3006 : List D → Option (List D) := Fof [c3028, c3008, c3009, c3029, c3030, c26, c31, c21, c3032, c3033, c27] ir3006
end Go.Proofs.Ytmglkddddpipgaa

namespace Go.Proofs.Ytmglkddddpipgaa
open Sx Go.RowKit

def bytesM (s : St) (n : Int) : List Int × Int := if s.de = true then ([], 9) else match s.file (vName n) with
  | none => ([], 0)
  | some x => (x.2.1, 0)

theorem f3067 (s : St) (l : List Int) (n : Int) (h : Ok s) (h1 : 1 ≤ n) (h2 : n ≤ 2147483647) : F3067 [⟨.pt LgT, lgv 0 l⟩, ⟨.int .i64, n⟩, ⟨.sl DkT, [s.d]⟩, ⟨.sl (.sl MpT), s.A1⟩, ⟨.sl FlT, s.A2⟩, ⟨.sl (.sl FmT), [s.fm]⟩] = some [⟨.sl (.int .u8), (bytesM s n).1⟩, ⟨.int .i64, (bytesM s n).2⟩, ⟨.sl DkT, [s.d]⟩, ⟨.sl (.sl MpT), s.A1⟩, ⟨.sl FlT, s.A2⟩, ⟨.sl (.sl FmT), [s.fm]⟩] := by
  have h66 := s66 (lc := [c66, c3064, c23, c24]) rfl
  have h3064 := s3064 (lc := [c66, c3064, c23, c24]) rfl
  have h23 := s23 (lc := [c66, c3064, c23, c24]) rfl
  have h24 := s24 (lc := [c66, c3064, c23, c24]) rfl
  simp only [F3067, Fof, ir3067]; generalize Phi [c66, c3064, c23, c24] = Φ at *
  have g66 := h66 s
  have g64 := h3064 n h1 h2
  have g23 := h23 s (vName n) h
  cases hd : s.de with
  | true =>
    rw [hd] at g66; simp -implicitDefEqProofs [g66, bytesM, hd]
  | false =>
  rw [hd] at g66; have hfo : ((s.q, some 0, some s.jn, some s.js, s.ts, s.nx, s.st, s.fa, false) : DiskD) = s.d := by rw [← hd]
  cases hf : s.file (vName n) with
  | none =>
    have hz : sizeM s (vName n) = 0 := by unfold sizeM; rw [hf]
    rw [hz, hf] at g23; simp only [Option.isSome_none] at g23; simp -implicitDefEqProofs [hfo, g66, g64, g23, bytesM, hd, hf]
  | some x =>
    obtain ⟨k, f⟩ := x; have hz : sizeM s (vName n) = f.1.length := by unfold sizeM; rw [hf]
    rw [hz, hf] at g23; simp only [Option.isSome_some] at g23; have g24 := h24 s (vName n) 0 f.1.length h
    have hr : readM s (vName n) 0 f.1.length = (f.1, 0) := by unfold readM; rw [hd, hf]; simp
    rw [hr] at g24; simp -implicitDefEqProofs [hfo, g66, g64, g23, g24, bytesM, hd, hf]
theorem s3067 {lc : List Ct} (hl0 : Sx.look (lc.map fun c => (c.sig.id, c)) 3067 = some c3067) : ∀ (s : St) (l : List Int) (n : Int) (h : Ok s) (h1 : 1 ≤ n) (h2 : n ≤ 2147483647), Does1 (Phi lc) 3067 [⟨.pt LgT, lgv 0 l⟩, ⟨.int .i64, n⟩, ⟨.sl DkT, [s.d]⟩, ⟨.sl (.sl MpT), s.A1⟩, ⟨.sl FlT, s.A2⟩, ⟨.sl (.sl FmT), [s.fm]⟩] [⟨.sl (.int .u8), (bytesM s n).1⟩, ⟨.int .i64, (bytesM s n).2⟩, ⟨.sl DkT, [s.d]⟩, ⟨.sl (.sl MpT), s.A1⟩, ⟨.sl FlT, s.A2⟩, ⟨.sl (.sl FmT), [s.fm]⟩] :=
  fun s l n h h1 h2 => by
    have eFc : c3067.F = F3067 := rfl
    have eFh := f3067 s l n h h1 h2
    rw [← eFc] at eFh; exact Does1.of hl0 eFh rfl

theorem f3062 (s : St) (n : Int) (h : Ok s) (h1 : 1 ≤ n) (h2 : n ≤ 2147483647) : F3062 [⟨.pt LgT, lgv 0 [n]⟩, ⟨.int .i64, n⟩, ⟨.sl DkT, [s.d]⟩, ⟨.sl (.sl MpT), s.A1⟩, ⟨.sl FlT, s.A2⟩, ⟨.sl (.sl FmT), [s.fm]⟩] = some [⟨.int .i64, sizeM s (vName n)⟩, ⟨.sl DkT, [s.d]⟩, ⟨.sl (.sl MpT), s.A1⟩, ⟨.sl FlT, s.A2⟩, ⟨.sl (.sl FmT), [s.fm]⟩] := by
  have h3042 := s3042 (lc := [c3042, c3070, c3064, c23]) rfl
  have h3070 := s3070 (lc := [c3042, c3070, c3064, c23]) rfl
  have h3064 := s3064 (lc := [c3042, c3070, c3064, c23]) rfl
  have h23 := s23 (lc := [c3042, c3070, c3064, c23]) rfl
  simp only [F3062, Fof, ir3062]; generalize Phi [c3042, c3070, c3064, c23] = Φ at *
  have g42 := h3042 0 [n]
  have g70 := h3070 n
  have g64 := h3064 n h1 h2
  have g23 := h23 s (vName n) h
  simp -implicitDefEqProofs [g42, g70, g64, g23]
theorem s3062 {lc : List Ct} (hl0 : Sx.look (lc.map fun c => (c.sig.id, c)) 3062 = some c3062) : ∀ (s : St) (n : Int) (h : Ok s) (h1 : 1 ≤ n) (h2 : n ≤ 2147483647), Does1 (Phi lc) 3062 [⟨.pt LgT, lgv 0 [n]⟩, ⟨.int .i64, n⟩, ⟨.sl DkT, [s.d]⟩, ⟨.sl (.sl MpT), s.A1⟩, ⟨.sl FlT, s.A2⟩, ⟨.sl (.sl FmT), [s.fm]⟩] [⟨.int .i64, sizeM s (vName n)⟩, ⟨.sl DkT, [s.d]⟩, ⟨.sl (.sl MpT), s.A1⟩, ⟨.sl FlT, s.A2⟩, ⟨.sl (.sl FmT), [s.fm]⟩] :=
  fun s n h h1 h2 => by
    have eFc : c3062.F = F3062 := rfl
    have eFh := f3062 s n h h1 h2
    rw [← eFc] at eFh; exact Does1.of hl0 eFh rfl

def endM (s : St) (n : Int) : Int := (walkL n ((bytesM s n).1.length + 1) 0 (bytesM s n).1).2
def openM (s : St) (n : Int) : Int × St := if endM s n < (bytesM s n).1.length then cutM s (vName n) (endM s n) else (0, s)

theorem f3032 (s : St) (n : Int) (h : Ok s) (h1 : 1 ≤ n) (h2 : n ≤ 2147483647) (hd : s.de = false) (hb : Bts (bytesM s n).1) (hl : (bytesM s n).1.length ≤ 4194304) (ho : (openM s n).1 = 0) : F3032 [⟨.ref 0, some 0⟩, ⟨.sl (.int .i64), [n]⟩, ⟨.sl DkT, [s.d]⟩, ⟨.sl (.sl MpT), s.A1⟩, ⟨.sl FlT, s.A2⟩, ⟨.sl (.sl FmT), [s.fm]⟩] = some [⟨.pt LgT, lgv 0 [n]⟩, ⟨.int .i64, (0 : Int)⟩, ⟨.sl DkT, [(openM s n).2.d]⟩, ⟨.sl (.sl MpT), (openM s n).2.A1⟩, ⟨.sl FlT, (openM s n).2.A2⟩, ⟨.sl (.sl FmT), [(openM s n).2.fm]⟩] := by
  have h3065 := s3065 (lc := [c3065, c3043, c66, c3061, c3067, c3068, c3064, c44]) rfl
  have h3043 := s3043 (lc := [c3065, c3043, c66, c3061, c3067, c3068, c3064, c44]) rfl
  have h66 := s66 (lc := [c3065, c3043, c66, c3061, c3067, c3068, c3064, c44]) rfl
  have h3061 := s3061 (lc := [c3065, c3043, c66, c3061, c3067, c3068, c3064, c44]) rfl
  have h3067 := s3067 (lc := [c3065, c3043, c66, c3061, c3067, c3068, c3064, c44]) rfl
  have h3068 := s3068 (lc := [c3065, c3043, c66, c3061, c3067, c3068, c3064, c44]) rfl
  have h3064 := s3064 (lc := [c3065, c3043, c66, c3061, c3067, c3068, c3064, c44]) rfl
  have h44 := s44 (lc := [c3065, c3043, c66, c3061, c3067, c3068, c3064, c44]) rfl
  simp only [F3032, Fof, ir3032]; generalize Phi [c3065, c3043, c66, c3061, c3067, c3068, c3064, c44] = Φ at *
  have g65 := h3065 [n] (by simp)
  have em : (mayGo 0 [n] && decide (((([n] : List Int).length : Nat) : Int) ≤ 64)) = true := by
    simp [mayGo]; omega
  rw [em] at g65; have g43 := h3043 [n] (by simp)
  have g61 := h3061 0 n
  have g67 := h3067 s [n] n h h1 h2
  have e2 : (bytesM s n).2 = 0 := by unfold bytesM; rw [hd]; cases s.file (vName n) <;> rfl
  rw [e2] at g67; have g68 := h3068 n (bytesM s n).1 h1 h2 hl hb
  have g64 := h3064 n h1 h2
  have ew : (walkL n ((bytesM s n).1.length + 1) 0 (bytesM s n).1).2 = endM s n := rfl
  rw [ew] at g68; have g44 := h44 s (vName n) (endM s n) h
  by_cases c : endM s n < (bytesM s n).1.length
  · have e3 : openM s n = cutM s (vName n) (endM s n) := by unfold openM; rw [if_pos c]
    rw [e3] at ho ⊢; rw [ho] at g44; simp -implicitDefEqProofs [g65, g43, g61, g67, g68, g64, g44, c]
  · have e3 : openM s n = (0, s) := by unfold openM; rw [if_neg c]
    rw [e3]; simp -implicitDefEqProofs [g65, g43, g61, g67, g68, g64, c]
theorem s3032 {lc : List Ct} (hl0 : Sx.look (lc.map fun c => (c.sig.id, c)) 3032 = some c3032) : ∀ (s : St) (n : Int) (h : Ok s) (h1 : 1 ≤ n) (h2 : n ≤ 2147483647) (hd : s.de = false) (hb : Bts (bytesM s n).1) (hl : (bytesM s n).1.length ≤ 4194304) (ho : (openM s n).1 = 0), Does1 (Phi lc) 3032 [⟨.ref 0, some 0⟩, ⟨.sl (.int .i64), [n]⟩, ⟨.sl DkT, [s.d]⟩, ⟨.sl (.sl MpT), s.A1⟩, ⟨.sl FlT, s.A2⟩, ⟨.sl (.sl FmT), [s.fm]⟩] [⟨.pt LgT, lgv 0 [n]⟩, ⟨.int .i64, (0 : Int)⟩, ⟨.sl DkT, [(openM s n).2.d]⟩, ⟨.sl (.sl MpT), (openM s n).2.A1⟩, ⟨.sl FlT, (openM s n).2.A2⟩, ⟨.sl (.sl FmT), [(openM s n).2.fm]⟩] :=
  fun s n h h1 h2 hd hb hl ho => by
    have eFc : c3032.F = F3032 := rfl
    have eFh := f3032 s n h h1 h2 hd hb hl ho
    rw [← eFc] at eFh; exact Does1.of hl0 eFh rfl

def putV (s : St) (n : Int) (v : List Int) : Int × St := appendM s (vName n) (putFs (vfr [v])) (usedN s.A2 s.fm)
theorem vfr_one (v : List Int) : putFs (vfr [v]) = putF (2, v) := by simp [vfr, putFs]

theorem f3029 (s : St) (N : Nat) (n : Int) (v : List Int) (hi : Inv s N) (hN : N < 1000000) (h1 : 1 ≤ n) (h2 : n ≤ 2147483647) (hv : v.length ≤ 4096) (hb : Bts v) : F3029 [⟨.pt LgT, lgv 0 [n]⟩, ⟨.sl (.int .u8), v⟩, ⟨.sl DkT, [s.d]⟩, ⟨.sl (.sl MpT), s.A1⟩, ⟨.sl FlT, s.A2⟩, ⟨.sl (.sl FmT), [s.fm]⟩] = some [⟨.int .i64, if (putV s n v).1 = 0 then n else 0⟩, ⟨.int .i64, if (putV s n v).1 = 0 then sizeM s (vName n) + headN v.length else 0⟩, ⟨.int .i64, if (putV s n v).1 = 0 then (v.length : Int) else 0⟩, ⟨.int .u32, if (putV s n v).1 = 0 then crcOf v else 0⟩, ⟨.int .i64, (putV s n v).1⟩, ⟨.sl DkT, [(putV s n v).2.d]⟩, ⟨.sl (.sl MpT), (putV s n v).2.A1⟩, ⟨.sl FlT, (putV s n v).2.A2⟩, ⟨.sl (.sl FmT), [(putV s n v).2.fm]⟩] := by
  have h3042 := s3042 (lc := [c3042, c3061, c3062, c3060, c3063, c3064, c22]) rfl
  have h3061 := s3061 (lc := [c3042, c3061, c3062, c3060, c3063, c3064, c22]) rfl
  have h3062 := s3062 (lc := [c3042, c3061, c3062, c3060, c3063, c3064, c22]) rfl
  have h3060 := s3060 (lc := [c3042, c3061, c3062, c3060, c3063, c3064, c22]) rfl
  have h3063 := s3063 (lc := [c3042, c3061, c3062, c3060, c3063, c3064, c22]) rfl
  have h3064 := s3064 (lc := [c3042, c3061, c3062, c3060, c3063, c3064, c22]) rfl
  have h22 := s22 (lc := [c3042, c3061, c3062, c3060, c3063, c3064, c22]) rfl
  simp only [F3029, Fof, ir3029]; generalize Phi [c3042, c3061, c3062, c3060, c3063, c3064, c22] = Φ at *
  have g42 := h3042 0 [n]
  have g61 := h3061 0 n
  have g62 := h3062 s n hi.ok h1 h2
  have hz : 0 ≤ sizeM s (vName n) ∧ sizeM s (vName n) ≤ 4194304 := by
    unfold sizeM; cases hf : s.file (vName n) with
    | none => simp only; omega
    | some x =>
      obtain ⟨k, f⟩ := x; obtain ⟨_, _, _, _, _, e3, _, _⟩ := hi.at hf; simp only
      omega
  have g60 := h3060 n (sizeM s (vName n)) v h1 h2 hz.1 hz.2 hv hb
  have g63 := h3063 [v] (by simp) (by simpa using ⟨hv, hb⟩)
  have g64 := h3064 n h1 h2
  have hp := putF_le (f := (2, v)) (by simp only; omega)
  have g22 := h22 s (vName n) (putFs (vfr [v])) _ hi.ok hi.len hi.un2 (by rw [vfr_one]; simp only at hp; omega) (by have := hi.nxN; omega)
  have hpl : (putFs (vfr [v])).length ≤ BIG := by rw [vfr_one]; simp only at hp; unfold BIG; omega
  unfold putV; generalize appendM s (vName n) (putFs (vfr [v])) (usedN s.A2 s.fm) = r at *
  by_cases c : r.1 = 0
  · rw [c] at g22; simp -implicitDefEqProofs [g42, g61, g62, g60, g63, g64, g22, c]
  · simp -implicitDefEqProofs [g42, g61, g62, g60, g63, g64, g22, c]
theorem s3029 {lc : List Ct} (hl0 : Sx.look (lc.map fun c => (c.sig.id, c)) 3029 = some c3029) : ∀ (s : St) (N : Nat) (n : Int) (v : List Int) (hi : Inv s N) (hN : N < 1000000) (h1 : 1 ≤ n) (h2 : n ≤ 2147483647) (hv : v.length ≤ 4096) (hb : Bts v), Does1 (Phi lc) 3029 [⟨.pt LgT, lgv 0 [n]⟩, ⟨.sl (.int .u8), v⟩, ⟨.sl DkT, [s.d]⟩, ⟨.sl (.sl MpT), s.A1⟩, ⟨.sl FlT, s.A2⟩, ⟨.sl (.sl FmT), [s.fm]⟩] [⟨.int .i64, if (putV s n v).1 = 0 then n else 0⟩, ⟨.int .i64, if (putV s n v).1 = 0 then sizeM s (vName n) + headN v.length else 0⟩, ⟨.int .i64, if (putV s n v).1 = 0 then (v.length : Int) else 0⟩, ⟨.int .u32, if (putV s n v).1 = 0 then crcOf v else 0⟩, ⟨.int .i64, (putV s n v).1⟩, ⟨.sl DkT, [(putV s n v).2.d]⟩, ⟨.sl (.sl MpT), (putV s n v).2.A1⟩, ⟨.sl FlT, (putV s n v).2.A2⟩, ⟨.sl (.sl FmT), [(putV s n v).2.fm]⟩] :=
  fun s N n v hi hN h1 h2 hv hb => by
    have eFc : c3029.F = F3029 := rfl
    have eFh := f3029 s N n v hi hN h1 h2 hv hb
    rw [← eFc] at eFh; exact Does1.of hl0 eFh rfl

def syncV (s : St) (n : Int) : Int × St := if (s.file (vName n)).isSome = true then syncM s (vName n) else (0, s)
theorem f3030 (s : St) (n : Int) (h : Ok s) (h1 : 1 ≤ n) (h2 : n ≤ 2147483647) : F3030 [⟨.pt LgT, lgv 0 [n]⟩, ⟨.sl DkT, [s.d]⟩, ⟨.sl (.sl MpT), s.A1⟩, ⟨.sl FlT, s.A2⟩, ⟨.sl (.sl FmT), [s.fm]⟩] = some [⟨.int .i64, (syncV s n).1⟩, ⟨.sl DkT, [(syncV s n).2.d]⟩, ⟨.sl (.sl MpT), (syncV s n).2.A1⟩, ⟨.sl FlT, (syncV s n).2.A2⟩, ⟨.sl (.sl FmT), [(syncV s n).2.fm]⟩] := by
  have h3042 := s3042 (lc := [c3042, c3061, c3064, c23, c25]) rfl
  have h3061 := s3061 (lc := [c3042, c3061, c3064, c23, c25]) rfl
  have h3064 := s3064 (lc := [c3042, c3061, c3064, c23, c25]) rfl
  have h23 := s23 (lc := [c3042, c3061, c3064, c23, c25]) rfl
  have h25 := s25 (lc := [c3042, c3061, c3064, c23, c25]) rfl
  simp only [F3030, Fof, ir3030]; generalize Phi [c3042, c3061, c3064, c23, c25] = Φ at *
  have g42 := h3042 0 [n]
  have g61 := h3061 0 n
  have g64 := h3064 n h1 h2
  have g23 := h23 s (vName n) h
  have g25 := h25 s (vName n) h
  cases c : (s.file (vName n)).isSome with
  | true =>
    rw [c] at g23; simp -implicitDefEqProofs [g42, g61, g64, g23, g25, syncV, c]
  | false =>
    rw [c] at g23; simp -implicitDefEqProofs [g42, g61, g64, g23, syncV, c]
theorem s3030 {lc : List Ct} (hl0 : Sx.look (lc.map fun c => (c.sig.id, c)) 3030 = some c3030) : ∀ (s : St) (n : Int) (h : Ok s) (h1 : 1 ≤ n) (h2 : n ≤ 2147483647), Does1 (Phi lc) 3030 [⟨.pt LgT, lgv 0 [n]⟩, ⟨.sl DkT, [s.d]⟩, ⟨.sl (.sl MpT), s.A1⟩, ⟨.sl FlT, s.A2⟩, ⟨.sl (.sl FmT), [s.fm]⟩] [⟨.int .i64, (syncV s n).1⟩, ⟨.sl DkT, [(syncV s n).2.d]⟩, ⟨.sl (.sl MpT), (syncV s n).2.A1⟩, ⟨.sl FlT, (syncV s n).2.A2⟩, ⟨.sl (.sl FmT), [(syncV s n).2.fm]⟩] :=
  fun s n h h1 h2 => by
    have eFc : c3030.F = F3030 := rfl
    have eFh := f3030 s n h h1 h2
    rw [← eFc] at eFh; exact Does1.of hl0 eFh rfl

def inB (b : List Int) (a n m : Int) : Prop := a ≤ b.length ∧ n ≤ b.length - a ∧ m = crcOf ((b.take (a + n).toNat).drop a.toNat)
instance (b : List Int) (a n m : Int) : Decidable (inB b a n m) := by unfold inB; exact inferInstance
theorem f3033 (s : St) (n a k m : Int) (h : Ok s) (h1 : 1 ≤ n) (h2 : n ≤ 2147483647) (hd : s.de = false) (hb : Bts (bytesM s n).1) (hl : (bytesM s n).1.length ≤ 4194304) (hp : pOk n a k = true) : F3033 [⟨.pt LgT, lgv 0 [n]⟩, ⟨.int .i64, n⟩, ⟨.int .i64, a⟩, ⟨.int .i64, k⟩, ⟨.int .u32, m⟩, ⟨.sl DkT, [s.d]⟩, ⟨.sl (.sl MpT), s.A1⟩, ⟨.sl FlT, s.A2⟩, ⟨.sl (.sl FmT), [s.fm]⟩] = some [⟨.sl (.int .u8), if inB (bytesM s n).1 a k m then ((bytesM s n).1.take (a + k).toNat).drop a.toNat else []⟩, ⟨.int .i64, if inB (bytesM s n).1 a k m then 0 else 3⟩, ⟨.sl DkT, [s.d]⟩, ⟨.sl (.sl MpT), s.A1⟩, ⟨.sl FlT, s.A2⟩, ⟨.sl (.sl FmT), [s.fm]⟩] := by
  have h3042 := s3042 (lc := [c3042, c68, c3070, c3067, c3071]) rfl
  have h68 := s68 (lc := [c3042, c68, c3070, c3067, c3071]) rfl
  have h3070 := s3070 (lc := [c3042, c68, c3070, c3067, c3071]) rfl
  have h3067 := s3067 (lc := [c3042, c68, c3070, c3067, c3071]) rfl
  have h3071 := s3071 (lc := [c3042, c68, c3070, c3067, c3071]) rfl
  simp only [F3033, Fof, ir3033]; generalize Phi [c3042, c68, c3070, c3067, c3071] = Φ at *
  have g42 := h3042 0 [n]
  have g68 := h68 n a k m
  simp only [hp, if_true] at g68; have g70 := h3070 n
  have g67 := h3067 s [n] n h h1 h2
  have e2 : (bytesM s n).2 = 0 := by unfold bytesM; rw [hd]; cases s.file (vName n) <;> rfl
  rw [e2] at g67; have g71 := h3071 (bytesM s n).1 n a k m hb hl hp
  simp -implicitDefEqProofs [g42, g68, g70, g67, g71, inB]
theorem s3033 {lc : List Ct} (hl0 : Sx.look (lc.map fun c => (c.sig.id, c)) 3033 = some c3033) : ∀ (s : St) (n a k m : Int) (h : Ok s) (h1 : 1 ≤ n) (h2 : n ≤ 2147483647) (hd : s.de = false) (hb : Bts (bytesM s n).1) (hl : (bytesM s n).1.length ≤ 4194304) (hp : pOk n a k = true), Does1 (Phi lc) 3033 [⟨.pt LgT, lgv 0 [n]⟩, ⟨.int .i64, n⟩, ⟨.int .i64, a⟩, ⟨.int .i64, k⟩, ⟨.int .u32, m⟩, ⟨.sl DkT, [s.d]⟩, ⟨.sl (.sl MpT), s.A1⟩, ⟨.sl FlT, s.A2⟩, ⟨.sl (.sl FmT), [s.fm]⟩] [⟨.sl (.int .u8), if inB (bytesM s n).1 a k m then ((bytesM s n).1.take (a + k).toNat).drop a.toNat else []⟩, ⟨.int .i64, if inB (bytesM s n).1 a k m then 0 else 3⟩, ⟨.sl DkT, [s.d]⟩, ⟨.sl (.sl MpT), s.A1⟩, ⟨.sl FlT, s.A2⟩, ⟨.sl (.sl FmT), [s.fm]⟩] :=
  fun s n a k m h h1 h2 hd hb hl hp => by
    have eFc : c3033.F = F3033 := rfl
    have eFh := f3033 s n a k m h h1 h2 hd hb hl hp
    rw [← eFc] at eFh; exact Does1.of hl0 eFh rfl
end Go.Proofs.Ytmglkddddpipgaa
