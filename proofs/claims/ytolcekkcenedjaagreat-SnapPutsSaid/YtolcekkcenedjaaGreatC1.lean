/-
  Contracts of the functions that the laws reach, each by what its text is reckoned to.
-/
import Derived.Test.YtolcekkcenedjaaGreatT4
import Derived.Test.YtolcekkcenedjaaGreatRows
import Derived.Lib.Small
import Derived.Lib.Walk
import Derived.Lib.Bytealg
import Derived.Lib.Strings
import Derived.ProofKit
set_option linter.unusedVariables false
set_option linter.unusedSimpArgs false
namespace Go.Proofs.YtolcekkcenedjaaGreat
open Go.RowKit Go.Lib Go.Proofs.YtolcekkcenedjaaGreat.Sx

set_option maxHeartbeats 1000000 in
set_option maxRecDepth 100000 in
theorem k107 (a b : ByteArray) (w : World) :
    Calls Tryz.prog 119 #[.string a, .string b] w fun e w' => e = .returned (.int .i64 (Lib.compareBytes a.data.toList b.data.toList)) ∧ w' = w := by
  go_enter Tryz.func119, Tryz.ntmps119
  go_wp2
  rw [run_callFunc_extern Tryz.func134 (by kernel_rfl) (by kernel_rfl) (by kernel_rfl) (e := Extern.BytealgCompare.compare) (by kernel_rfl), Lib.run_compareString]
  simp only [Result.andThen]
  rw [Oper.upon_value]
  go_wp2
  go_ret
  exact ⟨rfl, rfl⟩

set_option maxHeartbeats 1000000 in
theorem k76 (a b : ByteArray) (w : World) :
    Calls Tryz.prog 86 #[.string a, .string b] w fun e w' => e = .returned (.int .i64 (Lib.compareBytes a.data.toList b.data.toList)) ∧ w' = w := by
  go_enter Tryz.func86, Tryz.ntmps86
  go_wp2_with (go_at_call 119; refine (k107 _ _ _).mono ?_; rintro e w' ⟨rfl, rfl⟩)
  go_ret
  exact ⟨rfl, rfl⟩

theorem cmp_bytes : ∀ (a b : List UInt8), Lib.compareBytes a b = Sx.cmpL (a.map fun b => (b.toNat : Int)) (b.map fun b => (b.toNat : Int))
  | [], [] => by simp [Lib.compareBytes, Sx.cmpL, ltL]
  | [], _ :: _ => by simp [Lib.compareBytes, Sx.cmpL, ltL]
  | _ :: _, [] => by simp [Lib.compareBytes, Sx.cmpL, ltL]
  | a :: al, b :: bl => by
    simp only [Lib.compareBytes, cmp_bytes al bl, Sx.cmpL, ltL, List.map_cons, List.cons.injEq]
    have h1 : a < b ↔ a.toNat < b.toNat := UInt8.lt_iff_toNat_lt
    have h2 : b < a ↔ b.toNat < a.toNat := UInt8.lt_iff_toNat_lt
    by_cases e1 : a < b
    · have := h1.1 e1
      simp [e1, show (a.toNat : Int) < b.toNat by omega]
    · by_cases e2 : b < a
      · have := h2.1 e2
        simp [e1, e2, show ¬ (a.toNat : Int) < b.toNat by omega, show ¬ (a.toNat : Int) = b.toNat by omega]
      · have e3 : (a.toNat : Int) = b.toNat := by
          rw [h1] at e1; rw [h2] at e2; omega
        simp [e1, e2, e3]

theorem ok138 : FnOk Tryz.prog 86 sig138 F138 := by
  refine ⟨⟨Tryz.f86, (Tryz.f86.body).getD .skip, Tryz.func86, by kernel_rfl, by kernel_rfl⟩, ?_⟩
  intro w p vs cs ds rs hp hpart hrep hty hF
  match ds, hty with
  | [⟨t1, x⟩, ⟨t2, y⟩], hty =>
    have hty' : t1 = .str ∧ t2 = .str := by simpa [sig138, inL, Ty.cells] using hty
    obtain ⟨rfl, rfl⟩ := hty'
    simp only [F138, Option.some.injEq] at hF
    subst hF
    match cs, hrep with
    | [vx, vy], .cons h1 (.cons h2 .nil) =>
      obtain ⟨a, ha, hxa, _⟩ := h1
      obtain ⟨b, hb, hyb, _⟩ := h2
      simp only [List.cons.injEq, and_true] at ha hb
      subst ha; subst hb
      replace hxa : x = bytesI a := hxa
      replace hyb : y = bytesI b := hyb
      have hv : vs = [.string a, .string b] := by
        simp only [sig138, List.map_cons, List.map_nil, Ty.cells, List.length_cons, List.length_nil] at hpart
        match vs, hpart with
        | [u1, u2], ⟨c1, c2, e1, l1, q1, c3, c4, e2, l2, q2, e3⟩ =>
          rcases q1 with ⟨h, _⟩ | ⟨_, rfl⟩
          · cases h
          rcases q2 with ⟨h, _⟩ | ⟨_, rfl⟩
          · cases h
          replace e3 : c4 = [] := e3
          subst e3
          subst e2
          simp only [List.cons_append, List.nil_append, List.cons.injEq, and_true] at e1
          rw [e1.1, e1.2]
      subst hv
      refine (k76 a b w).mono ?_
      rintro e w' ⟨rfl, rfl⟩
      refine ⟨_, rfl, p, [.int .i64 (Sx.cmpL x y)], [.int .i64 (Sx.cmpL x y)], ?_⟩
      refine { val := ?_, bel := Below.refl _ _, old := fun _ _ _ => Iff.rfl, wf := hp, parts := ?_, rep := .cons ⟨rfl, Sx.cmpL_wf x y⟩ .nil, tys := rfl, own := ?_ }
      · rw [cmp_bytes, hxa, hyb]; rfl
      · exact ⟨[.int .i64 (Sx.cmpL x y)], [], rfl, rfl, .inr ⟨rfl, rfl⟩, rfl⟩
      · have e : ownList (outL sig138) [Value.int .i64 (Sx.cmpL x y)] = [] := rfl
        rw [e]
        constructor <;> (intros; simp_all)
end Go.Proofs.YtolcekkcenedjaaGreat

namespace Go.Proofs.YtolcekkcenedjaaGreat
open Go.Proofs.YtolcekkcenedjaaGreat.Sx Go.RowKit Go.ChangeShapes

theorem own : ownKnob Tryz.prog.godebug = none := by kernel_rfl
theorem laidOut : laidOutB Tryz.prog = true := by kernel_rfl
theorem mixed : Tryz.prog.follows .mixedOrders = true := by kernel_rfl
abbrev inlT : FuncId → Bool := fun f => f == 96 || f == 120 || f == 135 || f == 121 || f == 87 || f == 88 || f == 70 || f == 71 || f == 89 || f == 57 || f == 58 || f == 47 || f == 84 || f == 85 || f == 80 || f == 81 || f == 82 || f == 83 || f == 114 || f == 115
theorem ok1032 : FnOk Tryz.prog 56 sig1032 F1032 :=
  ok_of (l := []) mixed .nil (inl := inlT) (nop := false) (unr := fun _ => false) (mt := fun _ => false) (by kernel_rfl)
theorem ok67 : FnOk Tryz.prog 36 sig67 F67 :=
  ok_of (l := []) mixed .nil (inl := inlT) (nop := false) (unr := fun _ => false) (mt := fun _ => false) (by kernel_rfl)
theorem ok17 : FnOk Tryz.prog 102 sig17 F17 :=
  ok_of (l := [(36, c67)]) mixed (.add (f := 36) (c := c67) ok67 (by kernel_rfl) .nil) (inl := inlT) (nop := false) (unr := fun _ => false) (mt := fun _ => false) (by kernel_rfl)
theorem ok68 : FnOk Tryz.prog 127 sig68 F68 :=
  ok_of (l := []) mixed .nil (inl := inlT) (nop := false) (unr := fun _ => false) (mt := fun _ => false) (by kernel_rfl)
theorem ok20 : FnOk Tryz.prog 103 sig20 F20 :=
  ok_of (l := [(127, c68)]) mixed (.add (f := 127) (c := c68) ok68 (by kernel_rfl) .nil) (inl := inlT) (nop := false) (unr := fun _ => false) (mt := fun _ => false) (by kernel_rfl)
theorem ok98 : FnOk Tryz.prog 68 sig98 F98 :=
  ok_of (l := [(102, c17), (103, c20)]) mixed (.add (f := 102) (c := c17) ok17 (by kernel_rfl) (.add (f := 103) (c := c20) ok20 (by kernel_rfl) .nil)) (inl := inlT) (nop := false) (unr := fun _ => false) (mt := fun _ => false) (by kernel_rfl)
theorem ok75 : FnOk Tryz.prog 35 sig75 F75 :=
  ok_of (l := [(68, c98)]) mixed (.add (f := 68) (c := c98) ok98 (by kernel_rfl) .nil) (inl := inlT) (nop := false) (unr := fun _ => false) (mt := fun _ => false) (by kernel_rfl)
theorem ok66 : FnOk Tryz.prog 60 sig66 F66 :=
  ok_of (l := []) mixed .nil (inl := inlT) (nop := false) (unr := fun _ => false) (mt := fun _ => false) (by kernel_rfl)
theorem ok1050 : FnOk Tryz.prog 95 sig1050 F1050 :=
  ok_of (l := []) mixed .nil (inl := inlT) (nop := false) (unr := fun _ => false) (mt := fun _ => false) (by kernel_rfl)
theorem ok122 : FnOk Tryz.prog 122 sig122 F122 :=
  ok_of (l := []) mixed .nil (inl := inlT) (nop := false) (unr := fun _ => false) (mt := fun _ => false) (by kernel_rfl)
theorem ok73 : FnOk Tryz.prog 106 sig73 F73 :=
  ok_of (l := [(122, c122)]) mixed (.add (f := 122) (c := c122) ok122 (by kernel_rfl) .nil) (inl := inlT) (nop := false) (unr := fun _ => false) (mt := fun _ => false) (by kernel_rfl)
theorem ok1052 : FnOk Tryz.prog 93 sig1052 F1052 :=
  ok_of (l := [(106, c73), (122, c122)]) mixed (.add (f := 106) (c := c73) ok73 (by kernel_rfl) (.add (f := 122) (c := c122) ok122 (by kernel_rfl) .nil)) (inl := inlT) (nop := false) (unr := fun _ => false) (mt := fun _ => false) (by kernel_rfl)
theorem ok1035 : FnOk Tryz.prog 59 sig1035 F1035 :=
  ok_of (l := [(95, c1050), (60, c66), (93, c1052)]) mixed (.add (f := 95) (c := c1050) ok1050 (by kernel_rfl) (.add (f := 60) (c := c66) ok66 (by kernel_rfl) (.add (f := 93) (c := c1052) ok1052 (by kernel_rfl) .nil))) (inl := inlT) (nop := false) (unr := fun _ => false) (mt := fun _ => false) (by kernel_rfl)
theorem ok1060 : FnOk Tryz.prog 116 sig1060 F1060 :=
  ok_of (l := []) mixed .nil (inl := inlT) (nop := false) (unr := fun _ => false) (mt := fun _ => false) (by kernel_rfl)
theorem ok1056 : FnOk Tryz.prog 94 sig1056 F1056 :=
  ok_of (l := []) mixed .nil (inl := inlT) (nop := false) (unr := fun _ => false) (mt := fun _ => false) (by kernel_rfl)
theorem ok1062 : FnOk Tryz.prog 118 sig1062 F1062 :=
  ok_of (l := [(94, c1056)]) mixed (.add (f := 94) (c := c1056) ok1056 (by kernel_rfl) .nil) (inl := inlT) (nop := false) (unr := fun _ => false) (mt := fun _ => false) (by kernel_rfl)
theorem ok1069 : FnOk Tryz.prog 133 sig1069 F1069 :=
  ok_of (l := []) mixed .nil (inl := inlT) (nop := false) (unr := fun _ => false) (mt := fun _ => false) (by kernel_rfl)
theorem ok1068 : FnOk Tryz.prog 132 sig1068 F1068 :=
  ok_of (l := []) mixed .nil (inl := inlT) (nop := false) (unr := fun _ => false) (mt := fun _ => false) (by kernel_rfl)
theorem ok1061 : FnOk Tryz.prog 117 sig1061 F1061 :=
  FnOk.any (ok_rec (l := [(133, c1069), (132, c1068)]) mixed (.add (f := 133) (c := c1069) ok1069 (by kernel_rfl) (.add (f := 132) (c := c1068) ok1068 (by kernel_rfl) .nil)) (inl := fun _ => false) (fun q hq => by rcases List.mem_cons.1 hq with rfl | hq; exact (by decide); rcases List.mem_cons.1 hq with rfl | hq; exact (by decide); cases hq) ⟨_, _, Tryz.func117, rfl, by kernel_rfl⟩ (by kernel_rfl)) any1061
theorem ok1021 : FnOk Tryz.prog 46 sig1021 F1021 :=
  ok_of (l := [(68, c98), (116, c1060), (118, c1062), (117, c1061)]) mixed (.add (f := 68) (c := c98) ok98 (by kernel_rfl) (.add (f := 116) (c := c1060) ok1060 (by kernel_rfl) (.add (f := 118) (c := c1062) ok1062 (by kernel_rfl) (.add (f := 117) (c := c1061) ok1061 (by kernel_rfl) .nil)))) (inl := inlT) (nop := false) (unr := fun _ => false) (mt := fun _ => false) (by kernel_rfl)
theorem ok30 : FnOk Tryz.prog 100 sig30 F30 :=
  ok_of (l := []) mixed .nil (inl := inlT) (nop := false) (unr := fun _ => false) (mt := fun _ => false) (by kernel_rfl)
theorem ok76 : FnOk Tryz.prog 104 sig76 F76 :=
  ok_of (l := []) mixed .nil (inl := inlT) (nop := false) (unr := fun _ => false) (mt := fun _ => false) (by kernel_rfl)
theorem ok65 : FnOk Tryz.prog 128 sig65 F65 :=
  ok_of (l := [(127, c68), (60, c66)]) mixed (.add (f := 127) (c := c68) ok68 (by kernel_rfl) (.add (f := 60) (c := c66) ok66 (by kernel_rfl) .nil)) (inl := inlT) (nop := false) (unr := fun _ => false) (mt := fun _ => false) (by kernel_rfl)
theorem ok16 : FnOk Tryz.prog 105 sig16 F16 :=
  ok_of (l := [(103, c20), (128, c65), (60, c66)]) mixed (.add (f := 103) (c := c20) ok20 (by kernel_rfl) (.add (f := 128) (c := c65) ok65 (by kernel_rfl) (.add (f := 60) (c := c66) ok66 (by kernel_rfl) .nil))) (inl := inlT) (nop := false) (unr := fun _ => false) (mt := fun _ => false) (by kernel_rfl)
theorem ok32 : FnOk Tryz.prog 69 sig32 F32 :=
  ok_of (l := [(35, c75), (60, c66), (100, c30), (104, c76), (105, c16)]) mixed (.add (f := 35) (c := c75) ok75 (by kernel_rfl) (.add (f := 60) (c := c66) ok66 (by kernel_rfl) (.add (f := 100) (c := c30) ok30 (by kernel_rfl) (.add (f := 104) (c := c76) ok76 (by kernel_rfl) (.add (f := 105) (c := c16) ok16 (by kernel_rfl) .nil))))) (inl := inlT) (nop := false) (unr := fun _ => false) (mt := fun _ => false) (by kernel_rfl)
theorem ok157 : FnOk Tryz.prog 124 sig157 F157 :=
  ok_of (l := []) mixed .nil (inl := inlT) (nop := false) (unr := fun _ => false) (mt := fun _ => false) (by kernel_rfl)
theorem ok1057 : FnOk Tryz.prog 99 sig1057 F1057 :=
  ok_of (l := [(124, c157)]) mixed (.add (f := 124) (c := c157) ok157 (by kernel_rfl) .nil) (inl := inlT) (nop := false) (unr := fun _ => false) (mt := fun _ => false) (by kernel_rfl)
theorem ok1039 : FnOk Tryz.prog 65 sig1039 F1039 :=
  ok_of (l := [(99, c1057)]) mixed (.add (f := 99) (c := c1057) ok1057 (by kernel_rfl) .nil) (inl := inlT) (nop := false) (unr := fun _ => false) (mt := fun _ => false) (by kernel_rfl)
theorem ok1029 : FnOk Tryz.prog 39 sig1029 F1029 :=
  ok_of (l := []) mixed .nil (inl := inlT) (nop := false) (unr := fun _ => false) (mt := fun _ => false) (by kernel_rfl)
theorem ok1065 : FnOk Tryz.prog 107 sig1065 F1065 :=
  ok_of (l := []) mixed .nil (inl := inlT) (nop := false) (unr := fun _ => false) (mt := fun _ => false) (by kernel_rfl)
theorem ok1028 : FnOk Tryz.prog 38 sig1028 F1028 :=
  ok_of (l := [(106, c73), (107, c1065)]) mixed (.add (f := 106) (c := c73) ok73 (by kernel_rfl) (.add (f := 107) (c := c1065) ok1065 (by kernel_rfl) .nil)) (inl := inlT) (nop := false) (unr := fun _ => false) (mt := fun _ => false) (by kernel_rfl)
theorem ok1020 : FnOk Tryz.prog 37 sig1020 F1020 :=
  ok_of (l := [(69, c32), (60, c66), (65, c1039), (59, c1035), (39, c1029), (38, c1028)]) mixed (.add (f := 69) (c := c32) ok32 (by kernel_rfl) (.add (f := 60) (c := c66) ok66 (by kernel_rfl) (.add (f := 65) (c := c1039) ok1039 (by kernel_rfl) (.add (f := 59) (c := c1035) ok1035 (by kernel_rfl) (.add (f := 39) (c := c1029) ok1029 (by kernel_rfl) (.add (f := 38) (c := c1028) ok1028 (by kernel_rfl) .nil)))))) (inl := inlT) (nop := false) (unr := fun _ => false) (mt := fun _ => false) (by kernel_rfl)
theorem ok1005 : FnOk Tryz.prog 13 sig1005 F1005 :=
  ok_of (l := [(35, c75), (46, c1021), (37, c1020)]) mixed (.add (f := 35) (c := c75) ok75 (by kernel_rfl) (.add (f := 46) (c := c1021) ok1021 (by kernel_rfl) (.add (f := 37) (c := c1020) ok1020 (by kernel_rfl) .nil))) (inl := inlT) (nop := false) (unr := fun _ => false) (mt := fun _ => false) (by kernel_rfl)
theorem ok1017 : FnOk Tryz.prog 24 sig1017 F1017 :=
  ok_of (l := [(56, c1032), (35, c75), (60, c66), (59, c1035), (13, c1005)]) mixed (.add (f := 56) (c := c1032) ok1032 (by kernel_rfl) (.add (f := 35) (c := c75) ok75 (by kernel_rfl) (.add (f := 60) (c := c66) ok66 (by kernel_rfl) (.add (f := 59) (c := c1035) ok1035 (by kernel_rfl) (.add (f := 13) (c := c1005) ok1005 (by kernel_rfl) .nil))))) (inl := inlT) (nop := false) (unr := fun _ => false) (mt := fun _ => false) (by kernel_rfl)
theorem ok1053 : FnOk Tryz.prog 90 sig1053 F1053 :=
  ok_of (l := []) mixed .nil (inl := inlT) (nop := false) (unr := fun _ => false) (mt := fun _ => false) (by kernel_rfl)
theorem ok90 : FnOk Tryz.prog 66 sig90 F90 :=
  ok_of (l := []) mixed .nil (inl := inlT) (nop := false) (unr := fun _ => false) (mt := fun _ => false) (by kernel_rfl)
theorem ok1054 : FnOk Tryz.prog 91 sig1054 F1054 :=
  ok_of (l := [(65, c1039)]) mixed (.add (f := 65) (c := c1039) ok1039 (by kernel_rfl) .nil) (inl := inlT) (nop := false) (unr := fun _ => false) (mt := fun _ => false) (by kernel_rfl)
theorem ok1055 : FnOk Tryz.prog 92 sig1055 F1055 :=
  ok_of (l := []) mixed .nil (inl := inlT) (nop := false) (unr := fun _ => false) (mt := fun _ => false) (by kernel_rfl)
theorem ok1036 : FnOk Tryz.prog 51 sig1036 F1036 :=
  ok_of (l := [(90, c1053), (66, c90), (91, c1054), (92, c1055), (93, c1052), (94, c1056)]) mixed (.add (f := 90) (c := c1053) ok1053 (by kernel_rfl) (.add (f := 66) (c := c90) ok90 (by kernel_rfl) (.add (f := 91) (c := c1054) ok1054 (by kernel_rfl) (.add (f := 92) (c := c1055) ok1055 (by kernel_rfl) (.add (f := 93) (c := c1052) ok1052 (by kernel_rfl) (.add (f := 94) (c := c1056) ok1056 (by kernel_rfl) .nil)))))) (inl := inlT) (nop := false) (unr := fun _ => false) (mt := fun _ => false) (by kernel_rfl)
theorem ok129 : FnOk Tryz.prog 52 sig129 F129 :=
  ok_of (l := [(66, c90)]) mixed (.add (f := 66) (c := c90) ok90 (by kernel_rfl) .nil) (inl := inlT) (nop := false) (unr := fun _ => false) (mt := fun _ => false) (by kernel_rfl)
theorem ok1027 : FnOk Tryz.prog 33 sig1027 F1027 :=
  ok_of (l := [(51, c1036), (65, c1039)]) mixed (.add (f := 51) (c := c1036) ok1036 (by kernel_rfl) (.add (f := 65) (c := c1039) ok1039 (by kernel_rfl) .nil)) (inl := inlT) (nop := false) (unr := fun _ => false) (mt := fun _ => false) (by kernel_rfl)
theorem ok130 : FnOk Tryz.prog 138 sig130 F130 :=
  ok_of (l := []) mixed .nil (inl := inlT) (nop := false) (unr := fun _ => false) (mt := fun _ => false) (by kernel_rfl)
theorem ok131 : FnOk Tryz.prog 139 sig131 F131 :=
  ok_of (l := []) mixed .nil (inl := inlT) (nop := false) (unr := fun _ => false) (mt := fun _ => false) (by kernel_rfl)
theorem ok89 : FnOk Tryz.prog 125 sig89 F89 :=
  ok_of (l := [(52, c129), (138, c130), (139, c131), (127, c68)]) mixed (.add (f := 52) (c := c129) ok129 (by kernel_rfl) (.add (f := 138) (c := c130) ok130 (by kernel_rfl) (.add (f := 139) (c := c131) ok131 (by kernel_rfl) (.add (f := 127) (c := c68) ok68 (by kernel_rfl) .nil)))) (inl := inlT) (nop := false) (unr := fun _ => false) (mt := fun _ => false) (by kernel_rfl)
theorem ok72 : FnOk Tryz.prog 126 sig72 F72 :=
  ok_of (l := []) mixed .nil (inl := inlT) (nop := false) (unr := fun _ => false) (mt := fun _ => false) (by kernel_rfl)
theorem ok43 : FnOk Tryz.prog 101 sig43 F43 :=
  ok_of (l := [(125, c89), (66, c90), (126, c72)]) mixed (.add (f := 125) (c := c89) ok89 (by kernel_rfl) (.add (f := 66) (c := c90) ok90 (by kernel_rfl) (.add (f := 126) (c := c72) ok72 (by kernel_rfl) .nil))) (inl := inlT) (nop := false) (unr := fun _ => false) (mt := fun _ => false) (by kernel_rfl)
theorem ok97 : FnOk Tryz.prog 67 sig97 F97 :=
  ok_of (l := [(52, c129), (100, c30), (101, c43)]) mixed (.add (f := 52) (c := c129) ok129 (by kernel_rfl) (.add (f := 100) (c := c30) ok30 (by kernel_rfl) (.add (f := 101) (c := c43) ok43 (by kernel_rfl) .nil))) (inl := inlT) (nop := false) (unr := fun _ => false) (mt := fun _ => false) (by kernel_rfl)
theorem ok47 : FnOk Tryz.prog 34 sig47 F47 :=
  ok_of (l := [(66, c90), (67, c97), (68, c98)]) mixed (.add (f := 66) (c := c90) ok90 (by kernel_rfl) (.add (f := 67) (c := c97) ok97 (by kernel_rfl) (.add (f := 68) (c := c98) ok98 (by kernel_rfl) .nil))) (inl := inlT) (nop := false) (unr := fun _ => false) (mt := fun _ => false) (by kernel_rfl)
theorem ok1008 : FnOk Tryz.prog 8 sig1008 F1008 :=
  ok_of (l := [(33, c1027), (35, c75), (37, c1020), (36, c67), (39, c1029), (38, c1028), (34, c47)]) mixed (.add (f := 33) (c := c1027) ok1027 (by kernel_rfl) (.add (f := 35) (c := c75) ok75 (by kernel_rfl) (.add (f := 37) (c := c1020) ok1020 (by kernel_rfl) (.add (f := 36) (c := c67) ok67 (by kernel_rfl) (.add (f := 39) (c := c1029) ok1029 (by kernel_rfl) (.add (f := 38) (c := c1028) ok1028 (by kernel_rfl) (.add (f := 34) (c := c47) ok47 (by kernel_rfl) .nil))))))) (inl := inlT) (nop := false) (unr := fun _ => false) (mt := fun _ => false) (by kernel_rfl)
theorem ok1010 : FnOk Tryz.prog 32 sig1010 F1010 :=
  ok_of (l := []) mixed .nil (inl := inlT) (nop := false) (unr := fun _ => false) (mt := fun _ => false) (by kernel_rfl)
theorem ok1014 : FnOk Tryz.prog 19 sig1014 F1014 :=
  ok_of (l := [(86, c138), (34, c47)]) mixed (.add (f := 86) (c := c138) ok138 (by kernel_rfl) (.add (f := 34) (c := c47) ok47 (by kernel_rfl) .nil)) (inl := inlT) (nop := false) (unr := fun _ => false) (mt := fun _ => false) (by kernel_rfl)
theorem ok1009 : FnOk Tryz.prog 44 sig1009 F1009 :=
  ok_of (l := [(32, c1010), (19, c1014)]) mixed (.add (f := 32) (c := c1010) ok1010 (by kernel_rfl) (.add (f := 19) (c := c1014) ok1014 (by kernel_rfl) .nil)) (inl := inlT) (nop := false) (unr := fun _ => false) (mt := fun _ => false) (by kernel_rfl)
theorem ok1037 : FnOk Tryz.prog 53 sig1037 F1037 :=
  ok_of (l := [(8, c1008), (44, c1009)]) mixed (.add (f := 8) (c := c1008) ok1008 (by kernel_rfl) (.add (f := 44) (c := c1009) ok1009 (by kernel_rfl) .nil)) (inl := inlT) (nop := false) (unr := fun _ => false) (mt := fun _ => false) (by kernel_rfl)
theorem ok1018 : FnOk Tryz.prog 22 sig1018 F1018 :=
  ok_of (l := [(51, c1036), (52, c129), (53, c1037), (24, c1017), (36, c67)]) mixed (.add (f := 51) (c := c1036) ok1036 (by kernel_rfl) (.add (f := 52) (c := c129) ok129 (by kernel_rfl) (.add (f := 53) (c := c1037) ok1037 (by kernel_rfl) (.add (f := 24) (c := c1017) ok1017 (by kernel_rfl) (.add (f := 36) (c := c67) ok67 (by kernel_rfl) .nil))))) (inl := inlT) (nop := false) (unr := fun _ => false) (mt := fun _ => false) (by kernel_rfl)
theorem ok1016 : FnOk Tryz.prog 21 sig1016 F1016 :=
  ok_of (l := [(24, c1017), (22, c1018)]) mixed (.add (f := 24) (c := c1017) ok1017 (by kernel_rfl) (.add (f := 22) (c := c1018) ok1018 (by kernel_rfl) .nil)) (inl := inlT) (nop := false) (unr := fun _ => false) (mt := fun _ => false) (by kernel_rfl)
theorem ok133 : FnOk Tryz.prog 108 sig133 F133 :=
  ok_of (l := []) mixed .nil (inl := inlT) (nop := false) (unr := fun _ => false) (mt := fun _ => false) (by kernel_rfl)
theorem ok71 : FnOk Tryz.prog 76 sig71 F71 :=
  FnOk.any (ok_rec (l := []) mixed .nil (inl := fun _ => false) (fun q hq => by cases hq) ⟨_, _, Tryz.func76, rfl, by kernel_rfl⟩ (by kernel_rfl)) any71
theorem ok69 : FnOk Tryz.prog 61 sig69 F69 :=
  ok_of (l := []) mixed .nil (inl := inlT) (nop := false) (unr := fun _ => false) (mt := fun _ => false) (by kernel_rfl)
theorem ok92 : FnOk Tryz.prog 72 sig92 F92 :=
  ok_of (l := [(108, c133), (76, c71), (61, c69)]) mixed (.add (f := 108) (c := c133) ok133 (by kernel_rfl) (.add (f := 76) (c := c71) ok71 (by kernel_rfl) (.add (f := 61) (c := c69) ok69 (by kernel_rfl) .nil))) (inl := inlT) (nop := false) (unr := fun _ => false) (mt := fun _ => false) (by kernel_rfl)
theorem ok143 : FnOk Tryz.prog 137 sig143 F143 :=
  ok_of (l := []) mixed .nil (inl := inlT) (nop := false) (unr := fun _ => false) (mt := fun _ => false) (by kernel_rfl)
theorem ok142 : FnOk Tryz.prog 136 sig142 F142 :=
  ok_of (l := [(137, c143)]) mixed (.add (f := 137) (c := c143) ok143 (by kernel_rfl) .nil) (inl := inlT) (nop := false) (unr := fun _ => false) (mt := fun _ => false) (by kernel_rfl)
theorem ok123 : FnOk Tryz.prog 123 sig123 F123 :=
  ok_of (l := [(137, c143), (136, c142)]) mixed (.add (f := 137) (c := c143) ok143 (by kernel_rfl) (.add (f := 136) (c := c142) ok142 (by kernel_rfl) .nil)) (inl := inlT) (nop := false) (unr := fun _ => false) (mt := fun _ => false) (by kernel_rfl)
theorem ok74 : FnOk Tryz.prog 97 sig74 F74 :=
  ok_of (l := [(123, c123)]) mixed (.add (f := 123) (c := c123) ok123 (by kernel_rfl) .nil) (inl := inlT) (nop := false) (unr := fun _ => false) (mt := fun _ => false) (by kernel_rfl)
theorem ok1023 : FnOk Tryz.prog 63 sig1023 F1023 :=
  ok_of (l := [(76, c71), (97, c74)]) mixed (.add (f := 76) (c := c71) ok71 (by kernel_rfl) (.add (f := 97) (c := c74) ok74 (by kernel_rfl) .nil)) (inl := inlT) (nop := false) (unr := fun _ => false) (mt := fun _ => false) (by kernel_rfl)
theorem ok21 : FnOk Tryz.prog 29 sig21 F21 :=
  ok_of (l := [(61, c69)]) mixed (.add (f := 61) (c := c69) ok69 (by kernel_rfl) .nil) (inl := inlT) (nop := false) (unr := fun _ => false) (mt := fun _ => false) (by kernel_rfl)
theorem ok1038 : FnOk Tryz.prog 54 sig1038 F1038 :=
  ok_of (l := [(72, c92), (63, c1023), (29, c21)]) mixed (.add (f := 72) (c := c92) ok92 (by kernel_rfl) (.add (f := 63) (c := c1023) ok1023 (by kernel_rfl) (.add (f := 29) (c := c21) ok21 (by kernel_rfl) .nil))) (inl := inlT) (nop := false) (unr := fun _ => false) (mt := fun _ => false) (by kernel_rfl)
theorem ok132 : FnOk Tryz.prog 55 sig132 F132 :=
  ok_of (l := [(72, c92)]) mixed (.add (f := 72) (c := c92) ok92 (by kernel_rfl) .nil) (inl := inlT) (nop := false) (unr := fun _ => false) (mt := fun _ => false) (by kernel_rfl)
theorem ok1019 : FnOk Tryz.prog 31 sig1019 F1019 :=
  ok_of (l := [(54, c1038)]) mixed (.add (f := 54) (c := c1038) ok1038 (by kernel_rfl) .nil) (inl := inlT) (nop := false) (unr := fun _ => false) (mt := fun _ => false) (by kernel_rfl)
theorem ok27 : FnOk Tryz.prog 113 sig27 F27 :=
  ok_of (l := []) mixed .nil (inl := inlT) (nop := false) (unr := fun _ => false) (mt := fun _ => false) (by kernel_rfl)
theorem ok91 : FnOk Tryz.prog 109 sig91 F91 :=
  ok_of (l := [(55, c132), (113, c27)]) mixed (.add (f := 55) (c := c132) ok132 (by kernel_rfl) (.add (f := 113) (c := c27) ok27 (by kernel_rfl) .nil)) (inl := inlT) (nop := false) (unr := fun _ => false) (mt := fun _ => false) (by kernel_rfl)
theorem ok44 : FnOk Tryz.prog 73 sig44 F44 :=
  ok_of (l := [(109, c91), (72, c92)]) mixed (.add (f := 109) (c := c91) ok91 (by kernel_rfl) (.add (f := 72) (c := c92) ok92 (by kernel_rfl) .nil)) (inl := inlT) (nop := false) (unr := fun _ => false) (mt := fun _ => false) (by kernel_rfl)
theorem ok19 : FnOk Tryz.prog 79 sig19 F19 :=
  ok_of (l := [(113, c27)]) mixed (.add (f := 113) (c := c27) ok27 (by kernel_rfl) .nil) (inl := inlT) (nop := false) (unr := fun _ => false) (mt := fun _ => false) (by kernel_rfl)
theorem ok18 : FnOk Tryz.prog 49 sig18 F18 :=
  ok_of (l := [(29, c21)]) mixed (.add (f := 29) (c := c21) ok21 (by kernel_rfl) .nil) (inl := inlT) (nop := false) (unr := fun _ => false) (mt := fun _ => false) (by kernel_rfl)
theorem ok124 : FnOk Tryz.prog 45 sig124 F124 :=
  ok_of (l := [(79, c19), (49, c18)]) mixed (.add (f := 79) (c := c19) ok19 (by kernel_rfl) (.add (f := 49) (c := c18) ok18 (by kernel_rfl) .nil)) (inl := inlT) (nop := false) (unr := fun _ => false) (mt := fun _ => false) (by kernel_rfl)
theorem ok77 : FnOk Tryz.prog 12 sig77 F77 :=
  ok_of (l := [(45, c124)]) mixed (.add (f := 45) (c := c124) ok124 (by kernel_rfl) .nil) (inl := inlT) (nop := false) (unr := fun _ => false) (mt := fun _ => false) (by kernel_rfl)
theorem ok33 : FnOk Tryz.prog 74 sig33 F33 :=
  ok_of (l := [(12, c77)]) mixed (.add (f := 12) (c := c77) ok77 (by kernel_rfl) .nil) (inl := inlT) (nop := false) (unr := fun _ => false) (mt := fun _ => false) (by kernel_rfl)
theorem ok31 : FnOk Tryz.prog 110 sig31 F31 :=
  ok_of (l := []) mixed .nil (inl := inlT) (nop := false) (unr := fun _ => false) (mt := fun _ => false) (by kernel_rfl)
theorem ok120 : FnOk Tryz.prog 62 sig120 F120 :=
  ok_of (l := [(76, c71)]) mixed (.add (f := 76) (c := c71) ok71 (by kernel_rfl) .nil) (inl := inlT) (nop := false) (unr := fun _ => false) (mt := fun _ => false) (by kernel_rfl)
theorem ok121 : FnOk Tryz.prog 140 sig121 F121 :=
  ok_of (l := []) mixed .nil (inl := inlT) (nop := false) (unr := fun _ => false) (mt := fun _ => false) (by kernel_rfl)
theorem ok70 : FnOk Tryz.prog 129 sig70 F70 :=
  ok_of (l := [(62, c120), (140, c121)]) mixed (.add (f := 62) (c := c120) ok120 (by kernel_rfl) (.add (f := 140) (c := c121) ok121 (by kernel_rfl) .nil)) (inl := inlT) (nop := false) (unr := fun _ => false) (mt := fun _ => false) (by kernel_rfl)
theorem ok22 : FnOk Tryz.prog 111 sig22 F22 :=
  ok_of (l := [(129, c70), (76, c71)]) mixed (.add (f := 129) (c := c70) ok70 (by kernel_rfl) (.add (f := 76) (c := c71) ok71 (by kernel_rfl) .nil)) (inl := inlT) (nop := false) (unr := fun _ => false) (mt := fun _ => false) (by kernel_rfl)
theorem ok34 : FnOk Tryz.prog 75 sig34 F34 :=
  ok_of (l := [(76, c71), (110, c31), (111, c22)]) mixed (.add (f := 76) (c := c71) ok71 (by kernel_rfl) (.add (f := 110) (c := c31) ok31 (by kernel_rfl) (.add (f := 111) (c := c22) ok22 (by kernel_rfl) .nil))) (inl := inlT) (nop := false) (unr := fun _ => false) (mt := fun _ => false) (by kernel_rfl)
theorem ok48 : FnOk Tryz.prog 40 sig48 F48 :=
  ok_of (l := [(72, c92), (73, c44), (74, c33), (75, c34), (29, c21)]) mixed (.add (f := 72) (c := c92) ok92 (by kernel_rfl) (.add (f := 73) (c := c44) ok44 (by kernel_rfl) (.add (f := 74) (c := c33) ok33 (by kernel_rfl) (.add (f := 75) (c := c34) ok34 (by kernel_rfl) (.add (f := 29) (c := c21) ok21 (by kernel_rfl) .nil))))) (inl := inlT) (nop := false) (unr := fun _ => false) (mt := fun _ => false) (by kernel_rfl)
theorem ok1022 : FnOk Tryz.prog 41 sig1022 F1022 :=
  ok_of (l := []) mixed .nil (inl := inlT) (nop := false) (unr := fun _ => false) (mt := fun _ => false) (by kernel_rfl)
theorem ok1064 : FnOk Tryz.prog 131 sig1064 F1064 :=
  ok_of (l := [(97, c74)]) mixed (.add (f := 97) (c := c74) ok74 (by kernel_rfl) .nil) (inl := inlT) (nop := false) (unr := fun _ => false) (mt := fun _ => false) (by kernel_rfl)
theorem ok1063 : FnOk Tryz.prog 130 sig1063 F1063 :=
  ok_of (l := []) mixed .nil (inl := inlT) (nop := false) (unr := fun _ => false) (mt := fun _ => false) (by kernel_rfl)
theorem ok1044 : FnOk Tryz.prog 112 sig1044 F1044 :=
  ok_of (l := [(131, c1064), (130, c1063)]) mixed (.add (f := 131) (c := c1064) ok1064 (by kernel_rfl) (.add (f := 130) (c := c1063) ok1063 (by kernel_rfl) .nil)) (inl := inlT) (nop := false) (unr := fun _ => false) (mt := fun _ => false) (by kernel_rfl)
theorem ok1025 : FnOk Tryz.prog 78 sig1025 F1025 :=
  ok_of (l := [(112, c1044)]) mixed (.add (f := 112) (c := c1044) ok1044 (by kernel_rfl) .nil) (inl := inlT) (nop := false) (unr := fun _ => false) (mt := fun _ => false) (by kernel_rfl)
theorem ok1024 : FnOk Tryz.prog 77 sig1024 F1024 :=
  ok_of (l := [(63, c1023)]) mixed (.add (f := 63) (c := c1023) ok1023 (by kernel_rfl) .nil) (inl := inlT) (nop := false) (unr := fun _ => false) (mt := fun _ => false) (by kernel_rfl)
theorem ok1006 : FnOk Tryz.prog 42 sig1006 F1006 :=
  ok_of (l := [(41, c1022), (75, c34), (63, c1023), (76, c71), (78, c1025), (77, c1024)]) mixed (.add (f := 41) (c := c1022) ok1022 (by kernel_rfl) (.add (f := 75) (c := c34) ok34 (by kernel_rfl) (.add (f := 63) (c := c1023) ok1023 (by kernel_rfl) (.add (f := 76) (c := c71) ok71 (by kernel_rfl) (.add (f := 78) (c := c1025) ok1025 (by kernel_rfl) (.add (f := 77) (c := c1024) ok1024 (by kernel_rfl) .nil)))))) (inl := inlT) (nop := false) (unr := fun _ => false) (mt := fun _ => false) (by kernel_rfl)
theorem ok2004 : FnOk Tryz.prog 9 sig2004 F2004 :=
  ok_of (l := [(31, c1019), (40, c48), (41, c1022), (12, c77), (42, c1006), (29, c21)]) mixed (.add (f := 31) (c := c1019) ok1019 (by kernel_rfl) (.add (f := 40) (c := c48) ok48 (by kernel_rfl) (.add (f := 41) (c := c1022) ok1022 (by kernel_rfl) (.add (f := 12) (c := c77) ok77 (by kernel_rfl) (.add (f := 42) (c := c1006) ok1006 (by kernel_rfl) (.add (f := 29) (c := c21) ok21 (by kernel_rfl) .nil)))))) (inl := inlT) (nop := false) (unr := fun _ => false) (mt := fun _ => false) (by kernel_rfl)
theorem ok1015 : FnOk Tryz.prog 28 sig1015 F1015 :=
  ok_of (l := [(12, c77)]) mixed (.add (f := 12) (c := c77) ok77 (by kernel_rfl) .nil) (inl := inlT) (nop := false) (unr := fun _ => false) (mt := fun _ => false) (by kernel_rfl)
theorem ok1026 : FnOk Tryz.prog 98 sig1026 F1026 :=
  ok_of (l := []) mixed .nil (inl := inlT) (nop := false) (unr := fun _ => false) (mt := fun _ => false) (by kernel_rfl)
theorem ok1007 : FnOk Tryz.prog 64 sig1007 F1007 :=
  ok_of (l := [(98, c1026)]) mixed (.add (f := 98) (c := c1026) ok1026 (by kernel_rfl) .nil) (inl := inlT) (nop := false) (unr := fun _ => false) (mt := fun _ => false) (by kernel_rfl)
theorem ok2011 : FnOk Tryz.prog 30 sig2011 F2011 :=
  ok_of (l := [(62, c120), (63, c1023), (64, c1007), (42, c1006)]) mixed (.add (f := 62) (c := c120) ok120 (by kernel_rfl) (.add (f := 63) (c := c1023) ok1023 (by kernel_rfl) (.add (f := 64) (c := c1007) ok1007 (by kernel_rfl) (.add (f := 42) (c := c1006) ok1006 (by kernel_rfl) .nil)))) (inl := inlT) (nop := false) (unr := fun _ => false) (mt := fun _ => false) (by kernel_rfl)
theorem ok2007 : FnOk Tryz.prog 23 sig2007 F2007 :=
  ok_of (l := [(54, c1038), (55, c132), (9, c2004), (28, c1015), (30, c2011), (29, c21)]) mixed (.add (f := 54) (c := c1038) ok1038 (by kernel_rfl) (.add (f := 55) (c := c132) ok132 (by kernel_rfl) (.add (f := 9) (c := c2004) ok2004 (by kernel_rfl) (.add (f := 28) (c := c1015) ok1015 (by kernel_rfl) (.add (f := 30) (c := c2011) ok2011 (by kernel_rfl) (.add (f := 29) (c := c21) ok21 (by kernel_rfl) .nil)))))) (inl := inlT) (nop := false) (unr := fun _ => false) (mt := fun _ => false) (by kernel_rfl)
theorem ok52 : FnOk Tryz.prog 15 sig52 F52 :=
  ok_of (l := [(49, c18)]) mixed (.add (f := 49) (c := c18) ok18 (by kernel_rfl) .nil) (inl := inlT) (nop := false) (unr := fun _ => false) (mt := fun _ => false) (by kernel_rfl)
theorem ok50 : FnOk Tryz.prog 18 sig50 F50 :=
  ok_of (l := [(15, c52)]) mixed (.add (f := 15) (c := c52) ok52 (by kernel_rfl) .nil) (inl := inlT) (nop := false) (unr := fun _ => false) (mt := fun _ => false) (by kernel_rfl)
theorem ok28 : FnOk Tryz.prog 11 sig28 F28 :=
  ok_of (l := []) mixed .nil (inl := inlT) (nop := false) (unr := fun _ => false) (mt := fun _ => false) (by kernel_rfl)
theorem ok2009 : FnOk Tryz.prog 26 sig2009 F2009 :=
  ok_of (l := []) mixed .nil (inl := inlT) (nop := false) (unr := fun _ => false) (mt := fun _ => false) (by kernel_rfl)
theorem ok2010 : FnOk Tryz.prog 27 sig2010 F2010 :=
  ok_of (l := []) mixed .nil (inl := inlT) (nop := false) (unr := fun _ => false) (mt := fun _ => false) (by kernel_rfl)
theorem ok2008 : FnOk Tryz.prog 25 sig2008 F2008 :=
  ok_of (l := []) mixed .nil (inl := inlT) (nop := false) (unr := fun _ => false) (mt := fun _ => false) (by kernel_rfl)
end Go.Proofs.YtolcekkcenedjaaGreat
