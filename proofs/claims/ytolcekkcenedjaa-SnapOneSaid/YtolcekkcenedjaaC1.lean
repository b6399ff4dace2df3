/-
  Contracts of the functions that the laws reach, each by what its text is reckoned to.
-/
import Derived.Test.YtolcekkcenedjaaT4
import Derived.Test.YtolcekkcenedjaaRows
import Derived.Lib.Small
import Derived.Lib.Walk
import Derived.Lib.Bytealg
import Derived.Lib.Strings
import Derived.ProofKit
set_option linter.unusedVariables false
set_option linter.unusedSimpArgs false
namespace Go.Proofs.Ytolcekkcenedjaa
open Go.RowKit Go.Lib Go.Proofs.Ytolcekkcenedjaa.Sx

set_option maxHeartbeats 1000000 in
set_option maxRecDepth 100000 in
theorem k107 (a b : ByteArray) (w : World) :
    Calls Try.prog 107 #[.string a, .string b] w fun e w' => e = .returned (.int .i64 (Lib.compareBytes a.data.toList b.data.toList)) ∧ w' = w := by
  go_enter Try.func107, Try.ntmps107
  go_wp2
  rw [run_callFunc_extern Try.func123 (by kernel_rfl) (by kernel_rfl) (by kernel_rfl) (e := Extern.BytealgCompare.compare) (by kernel_rfl), Lib.run_compareString]
  simp only [Result.andThen]
  rw [Oper.upon_value]
  go_wp2
  go_ret
  exact ⟨rfl, rfl⟩

set_option maxHeartbeats 1000000 in
theorem k76 (a b : ByteArray) (w : World) :
    Calls Try.prog 76 #[.string a, .string b] w fun e w' => e = .returned (.int .i64 (Lib.compareBytes a.data.toList b.data.toList)) ∧ w' = w := by
  go_enter Try.func76, Try.ntmps76
  go_wp2_with (go_at_call 107; refine (k107 _ _ _).mono ?_; rintro e w' ⟨rfl, rfl⟩)
  go_ret
  exact ⟨rfl, rfl⟩

theorem cmp_bytes : ∀ (a b : List UInt8), Lib.compareBytes a b = Sx.cmpL (a.map fun b => (b.toNat : Int)) (b.map fun b => (b.toNat : Int))
  | [], [] => by simp [Lib.compareBytes, Sx.cmpL, ltL]
  | [], _ :: _ => by simp [Lib.compareBytes, Sx.cmpL, ltL]
  | _ :: _, [] => by simp [Lib.compareBytes, Sx.cmpL, ltL]
  | a :: al, b :: bl => by
    simp only [Lib.compareBytes, cmp_bytes al bl, Sx.cmpL, ltL, List.map_cons, List.cons.injEq]
    have h1 : a < b ↔ a.toNat < b.toNat := UInt8.lt_iff_toNat_lt
    have h2 : b < a ↔ b.toNat < a.toNat := UInt8.lt_iff_toNat_lt
    by_cases e1 : a < b
    · have := h1.1 e1
      simp [e1, show (a.toNat : Int) < b.toNat by omega]
    · by_cases e2 : b < a
      · have := h2.1 e2
        simp [e1, e2, show ¬ (a.toNat : Int) < b.toNat by omega, show ¬ (a.toNat : Int) = b.toNat by omega]
      · have e3 : (a.toNat : Int) = b.toNat := by
          rw [h1] at e1; rw [h2] at e2; omega
        simp [e1, e2, e3]

theorem ok138 : FnOk Try.prog 76 sig138 F138 := by
  refine ⟨⟨Try.f76, (Try.f76.body).getD .skip, Try.func76, by kernel_rfl, by kernel_rfl⟩, ?_⟩
  intro w p vs cs ds rs hp hpart hrep hty hF
  match ds, hty with
  | [⟨t1, x⟩, ⟨t2, y⟩], hty =>
    have hty' : t1 = .str ∧ t2 = .str := by simpa [sig138, inL, Ty.cells] using hty
    obtain ⟨rfl, rfl⟩ := hty'
    simp only [F138, Option.some.injEq] at hF
    subst hF
    match cs, hrep with
    | [vx, vy], .cons h1 (.cons h2 .nil) =>
      obtain ⟨a, ha, hxa, _⟩ := h1
      obtain ⟨b, hb, hyb, _⟩ := h2
      simp only [List.cons.injEq, and_true] at ha hb
      subst ha; subst hb
      replace hxa : x = bytesI a := hxa
      replace hyb : y = bytesI b := hyb
      have hv : vs = [.string a, .string b] := by
        simp only [sig138, List.map_cons, List.map_nil, Ty.cells, List.length_cons, List.length_nil] at hpart
        match vs, hpart with
        | [u1, u2], ⟨c1, c2, e1, l1, q1, c3, c4, e2, l2, q2, e3⟩ =>
          rcases q1 with ⟨h, _⟩ | ⟨_, rfl⟩
          · cases h
          rcases q2 with ⟨h, _⟩ | ⟨_, rfl⟩
          · cases h
          replace e3 : c4 = [] := e3
          subst e3
          subst e2
          simp only [List.cons_append, List.nil_append, List.cons.injEq, and_true] at e1
          rw [e1.1, e1.2]
      subst hv
      refine (k76 a b w).mono ?_
      rintro e w' ⟨rfl, rfl⟩
      refine ⟨_, rfl, p, [.int .i64 (Sx.cmpL x y)], [.int .i64 (Sx.cmpL x y)], ?_⟩
      refine { val := ?_, bel := Below.refl _ _, old := fun _ _ _ => Iff.rfl, wf := hp, parts := ?_, rep := .cons ⟨rfl, Sx.cmpL_wf x y⟩ .nil, tys := rfl, own := ?_ }
      · rw [cmp_bytes, hxa, hyb]; rfl
      · exact ⟨[.int .i64 (Sx.cmpL x y)], [], rfl, rfl, .inr ⟨rfl, rfl⟩, rfl⟩
      · have e : ownList (outL sig138) [Value.int .i64 (Sx.cmpL x y)] = [] := rfl
        rw [e]
        constructor <;> (intros; simp_all)
end Go.Proofs.Ytolcekkcenedjaa

namespace Go.Proofs.Ytolcekkcenedjaa
open Go.Proofs.Ytolcekkcenedjaa.Sx Go.RowKit Go.ChangeShapes

theorem own : ownKnob Try.prog.godebug = none := by kernel_rfl
theorem laidOut : laidOutB Try.prog = true := by kernel_rfl
theorem mixed : Try.prog.follows .mixedOrders = true := by kernel_rfl
abbrev inlT : FuncId → Bool := fun f => f == 81 || f == 109 || f == 124 || f == 110 || f == 77 || f == 78 || f == 72 || f == 73 || f == 79 || f == 49 || f == 50 || f == 45 || f == 74 || f == 75 || f == 60 || f == 61 || f == 62 || f == 63 || f == 94 || f == 95
theorem ok28 : FnOk Try.prog 7 sig28 F28 :=
  ok_of (l := []) mixed .nil (inl := inlT) (nop := false) (unr := fun _ => false) (mt := fun _ => false) (by kernel_rfl)
theorem ok1032 : FnOk Try.prog 48 sig1032 F1032 :=
  ok_of (l := []) mixed .nil (inl := inlT) (nop := false) (unr := fun _ => false) (mt := fun _ => false) (by kernel_rfl)
theorem ok67 : FnOk Try.prog 41 sig67 F67 :=
  ok_of (l := []) mixed .nil (inl := inlT) (nop := false) (unr := fun _ => false) (mt := fun _ => false) (by kernel_rfl)
theorem ok17 : FnOk Try.prog 88 sig17 F17 :=
  ok_of (l := [(41, c67)]) mixed (.add (f := 41) (c := c67) ok67 (by kernel_rfl) .nil) (inl := inlT) (nop := false) (unr := fun _ => false) (mt := fun _ => false) (by kernel_rfl)
theorem ok68 : FnOk Try.prog 112 sig68 F68 :=
  ok_of (l := []) mixed .nil (inl := inlT) (nop := false) (unr := fun _ => false) (mt := fun _ => false) (by kernel_rfl)
theorem ok20 : FnOk Try.prog 89 sig20 F20 :=
  ok_of (l := [(112, c68)]) mixed (.add (f := 112) (c := c68) ok68 (by kernel_rfl) .nil) (inl := inlT) (nop := false) (unr := fun _ => false) (mt := fun _ => false) (by kernel_rfl)
theorem ok98 : FnOk Try.prog 57 sig98 F98 :=
  ok_of (l := [(88, c17), (89, c20)]) mixed (.add (f := 88) (c := c17) ok17 (by kernel_rfl) (.add (f := 89) (c := c20) ok20 (by kernel_rfl) .nil)) (inl := inlT) (nop := false) (unr := fun _ => false) (mt := fun _ => false) (by kernel_rfl)
theorem ok75 : FnOk Try.prog 27 sig75 F75 :=
  ok_of (l := [(57, c98)]) mixed (.add (f := 57) (c := c98) ok98 (by kernel_rfl) .nil) (inl := inlT) (nop := false) (unr := fun _ => false) (mt := fun _ => false) (by kernel_rfl)
theorem ok66 : FnOk Try.prog 52 sig66 F66 :=
  ok_of (l := []) mixed .nil (inl := inlT) (nop := false) (unr := fun _ => false) (mt := fun _ => false) (by kernel_rfl)
theorem ok1050 : FnOk Try.prog 80 sig1050 F1050 :=
  ok_of (l := []) mixed .nil (inl := inlT) (nop := false) (unr := fun _ => false) (mt := fun _ => false) (by kernel_rfl)
theorem ok122 : FnOk Try.prog 108 sig122 F122 :=
  ok_of (l := []) mixed .nil (inl := inlT) (nop := false) (unr := fun _ => false) (mt := fun _ => false) (by kernel_rfl)
theorem ok73 : FnOk Try.prog 105 sig73 F73 :=
  ok_of (l := [(108, c122)]) mixed (.add (f := 108) (c := c122) ok122 (by kernel_rfl) .nil) (inl := inlT) (nop := false) (unr := fun _ => false) (mt := fun _ => false) (by kernel_rfl)
theorem ok1052 : FnOk Try.prog 82 sig1052 F1052 :=
  ok_of (l := [(105, c73), (108, c122)]) mixed (.add (f := 105) (c := c73) ok73 (by kernel_rfl) (.add (f := 108) (c := c122) ok122 (by kernel_rfl) .nil)) (inl := inlT) (nop := false) (unr := fun _ => false) (mt := fun _ => false) (by kernel_rfl)
theorem ok1035 : FnOk Try.prog 51 sig1035 F1035 :=
  ok_of (l := [(80, c1050), (52, c66), (82, c1052)]) mixed (.add (f := 80) (c := c1050) ok1050 (by kernel_rfl) (.add (f := 52) (c := c66) ok66 (by kernel_rfl) (.add (f := 82) (c := c1052) ok1052 (by kernel_rfl) .nil))) (inl := inlT) (nop := false) (unr := fun _ => false) (mt := fun _ => false) (by kernel_rfl)
theorem ok1060 : FnOk Try.prog 96 sig1060 F1060 :=
  ok_of (l := []) mixed .nil (inl := inlT) (nop := false) (unr := fun _ => false) (mt := fun _ => false) (by kernel_rfl)
theorem ok1056 : FnOk Try.prog 86 sig1056 F1056 :=
  ok_of (l := []) mixed .nil (inl := inlT) (nop := false) (unr := fun _ => false) (mt := fun _ => false) (by kernel_rfl)
theorem ok1062 : FnOk Try.prog 98 sig1062 F1062 :=
  ok_of (l := [(86, c1056)]) mixed (.add (f := 86) (c := c1056) ok1056 (by kernel_rfl) .nil) (inl := inlT) (nop := false) (unr := fun _ => false) (mt := fun _ => false) (by kernel_rfl)
theorem ok1069 : FnOk Try.prog 116 sig1069 F1069 :=
  ok_of (l := []) mixed .nil (inl := inlT) (nop := false) (unr := fun _ => false) (mt := fun _ => false) (by kernel_rfl)
theorem ok1068 : FnOk Try.prog 115 sig1068 F1068 :=
  ok_of (l := []) mixed .nil (inl := inlT) (nop := false) (unr := fun _ => false) (mt := fun _ => false) (by kernel_rfl)
theorem ok1061 : FnOk Try.prog 97 sig1061 F1061 :=
  FnOk.any (ok_rec (l := [(116, c1069), (115, c1068)]) mixed (.add (f := 116) (c := c1069) ok1069 (by kernel_rfl) (.add (f := 115) (c := c1068) ok1068 (by kernel_rfl) .nil)) (inl := fun _ => false) (fun q hq => by rcases List.mem_cons.1 hq with rfl | hq; exact (by decide); rcases List.mem_cons.1 hq with rfl | hq; exact (by decide); cases hq) ⟨_, _, Try.func97, rfl, by kernel_rfl⟩ (by kernel_rfl)) any1061
theorem ok1021 : FnOk Try.prog 29 sig1021 F1021 :=
  ok_of (l := [(57, c98), (96, c1060), (98, c1062), (97, c1061)]) mixed (.add (f := 57) (c := c98) ok98 (by kernel_rfl) (.add (f := 96) (c := c1060) ok1060 (by kernel_rfl) (.add (f := 98) (c := c1062) ok1062 (by kernel_rfl) (.add (f := 97) (c := c1061) ok1061 (by kernel_rfl) .nil)))) (inl := inlT) (nop := false) (unr := fun _ => false) (mt := fun _ => false) (by kernel_rfl)
theorem ok30 : FnOk Try.prog 90 sig30 F30 :=
  ok_of (l := []) mixed .nil (inl := inlT) (nop := false) (unr := fun _ => false) (mt := fun _ => false) (by kernel_rfl)
theorem ok76 : FnOk Try.prog 91 sig76 F76 :=
  ok_of (l := []) mixed .nil (inl := inlT) (nop := false) (unr := fun _ => false) (mt := fun _ => false) (by kernel_rfl)
theorem ok65 : FnOk Try.prog 113 sig65 F65 :=
  ok_of (l := [(112, c68), (52, c66)]) mixed (.add (f := 112) (c := c68) ok68 (by kernel_rfl) (.add (f := 52) (c := c66) ok66 (by kernel_rfl) .nil)) (inl := inlT) (nop := false) (unr := fun _ => false) (mt := fun _ => false) (by kernel_rfl)
theorem ok16 : FnOk Try.prog 92 sig16 F16 :=
  ok_of (l := [(89, c20), (113, c65), (52, c66)]) mixed (.add (f := 89) (c := c20) ok20 (by kernel_rfl) (.add (f := 113) (c := c65) ok65 (by kernel_rfl) (.add (f := 52) (c := c66) ok66 (by kernel_rfl) .nil))) (inl := inlT) (nop := false) (unr := fun _ => false) (mt := fun _ => false) (by kernel_rfl)
theorem ok32 : FnOk Try.prog 58 sig32 F32 :=
  ok_of (l := [(27, c75), (52, c66), (90, c30), (91, c76), (92, c16)]) mixed (.add (f := 27) (c := c75) ok75 (by kernel_rfl) (.add (f := 52) (c := c66) ok66 (by kernel_rfl) (.add (f := 90) (c := c30) ok30 (by kernel_rfl) (.add (f := 91) (c := c76) ok76 (by kernel_rfl) (.add (f := 92) (c := c16) ok16 (by kernel_rfl) .nil))))) (inl := inlT) (nop := false) (unr := fun _ => false) (mt := fun _ => false) (by kernel_rfl)
theorem ok157 : FnOk Try.prog 114 sig157 F157 :=
  ok_of (l := []) mixed .nil (inl := inlT) (nop := false) (unr := fun _ => false) (mt := fun _ => false) (by kernel_rfl)
theorem ok1057 : FnOk Try.prog 93 sig1057 F1057 :=
  ok_of (l := [(114, c157)]) mixed (.add (f := 114) (c := c157) ok157 (by kernel_rfl) .nil) (inl := inlT) (nop := false) (unr := fun _ => false) (mt := fun _ => false) (by kernel_rfl)
theorem ok1039 : FnOk Try.prog 59 sig1039 F1039 :=
  ok_of (l := [(93, c1057)]) mixed (.add (f := 93) (c := c1057) ok1057 (by kernel_rfl) .nil) (inl := inlT) (nop := false) (unr := fun _ => false) (mt := fun _ => false) (by kernel_rfl)
theorem ok1029 : FnOk Try.prog 43 sig1029 F1029 :=
  ok_of (l := []) mixed .nil (inl := inlT) (nop := false) (unr := fun _ => false) (mt := fun _ => false) (by kernel_rfl)
theorem ok1065 : FnOk Try.prog 106 sig1065 F1065 :=
  ok_of (l := []) mixed .nil (inl := inlT) (nop := false) (unr := fun _ => false) (mt := fun _ => false) (by kernel_rfl)
theorem ok1028 : FnOk Try.prog 42 sig1028 F1028 :=
  ok_of (l := [(105, c73), (106, c1065)]) mixed (.add (f := 105) (c := c73) ok73 (by kernel_rfl) (.add (f := 106) (c := c1065) ok1065 (by kernel_rfl) .nil)) (inl := inlT) (nop := false) (unr := fun _ => false) (mt := fun _ => false) (by kernel_rfl)
theorem ok1020 : FnOk Try.prog 28 sig1020 F1020 :=
  ok_of (l := [(58, c32), (52, c66), (59, c1039), (51, c1035), (43, c1029), (42, c1028)]) mixed (.add (f := 58) (c := c32) ok32 (by kernel_rfl) (.add (f := 52) (c := c66) ok66 (by kernel_rfl) (.add (f := 59) (c := c1039) ok1039 (by kernel_rfl) (.add (f := 51) (c := c1035) ok1035 (by kernel_rfl) (.add (f := 43) (c := c1029) ok1029 (by kernel_rfl) (.add (f := 42) (c := c1028) ok1028 (by kernel_rfl) .nil)))))) (inl := inlT) (nop := false) (unr := fun _ => false) (mt := fun _ => false) (by kernel_rfl)
theorem ok1005 : FnOk Try.prog 9 sig1005 F1005 :=
  ok_of (l := [(27, c75), (29, c1021), (28, c1020)]) mixed (.add (f := 27) (c := c75) ok75 (by kernel_rfl) (.add (f := 29) (c := c1021) ok1021 (by kernel_rfl) (.add (f := 28) (c := c1020) ok1020 (by kernel_rfl) .nil))) (inl := inlT) (nop := false) (unr := fun _ => false) (mt := fun _ => false) (by kernel_rfl)
theorem ok1017 : FnOk Try.prog 24 sig1017 F1017 :=
  ok_of (l := [(48, c1032), (27, c75), (52, c66), (51, c1035), (9, c1005)]) mixed (.add (f := 48) (c := c1032) ok1032 (by kernel_rfl) (.add (f := 27) (c := c75) ok75 (by kernel_rfl) (.add (f := 52) (c := c66) ok66 (by kernel_rfl) (.add (f := 51) (c := c1035) ok1035 (by kernel_rfl) (.add (f := 9) (c := c1005) ok1005 (by kernel_rfl) .nil))))) (inl := inlT) (nop := false) (unr := fun _ => false) (mt := fun _ => false) (by kernel_rfl)
theorem ok1053 : FnOk Try.prog 83 sig1053 F1053 :=
  ok_of (l := []) mixed .nil (inl := inlT) (nop := false) (unr := fun _ => false) (mt := fun _ => false) (by kernel_rfl)
theorem ok90 : FnOk Try.prog 70 sig90 F90 :=
  ok_of (l := []) mixed .nil (inl := inlT) (nop := false) (unr := fun _ => false) (mt := fun _ => false) (by kernel_rfl)
theorem ok1054 : FnOk Try.prog 84 sig1054 F1054 :=
  ok_of (l := [(59, c1039)]) mixed (.add (f := 59) (c := c1039) ok1039 (by kernel_rfl) .nil) (inl := inlT) (nop := false) (unr := fun _ => false) (mt := fun _ => false) (by kernel_rfl)
theorem ok1055 : FnOk Try.prog 85 sig1055 F1055 :=
  ok_of (l := []) mixed .nil (inl := inlT) (nop := false) (unr := fun _ => false) (mt := fun _ => false) (by kernel_rfl)
theorem ok1036 : FnOk Try.prog 53 sig1036 F1036 :=
  ok_of (l := [(83, c1053), (70, c90), (84, c1054), (85, c1055), (82, c1052), (86, c1056)]) mixed (.add (f := 83) (c := c1053) ok1053 (by kernel_rfl) (.add (f := 70) (c := c90) ok90 (by kernel_rfl) (.add (f := 84) (c := c1054) ok1054 (by kernel_rfl) (.add (f := 85) (c := c1055) ok1055 (by kernel_rfl) (.add (f := 82) (c := c1052) ok1052 (by kernel_rfl) (.add (f := 86) (c := c1056) ok1056 (by kernel_rfl) .nil)))))) (inl := inlT) (nop := false) (unr := fun _ => false) (mt := fun _ => false) (by kernel_rfl)
theorem ok129 : FnOk Try.prog 54 sig129 F129 :=
  ok_of (l := [(70, c90)]) mixed (.add (f := 70) (c := c90) ok90 (by kernel_rfl) .nil) (inl := inlT) (nop := false) (unr := fun _ => false) (mt := fun _ => false) (by kernel_rfl)
theorem ok1027 : FnOk Try.prog 39 sig1027 F1027 :=
  ok_of (l := [(53, c1036), (59, c1039)]) mixed (.add (f := 53) (c := c1036) ok1036 (by kernel_rfl) (.add (f := 59) (c := c1039) ok1039 (by kernel_rfl) .nil)) (inl := inlT) (nop := false) (unr := fun _ => false) (mt := fun _ => false) (by kernel_rfl)
theorem ok130 : FnOk Try.prog 125 sig130 F130 :=
  ok_of (l := []) mixed .nil (inl := inlT) (nop := false) (unr := fun _ => false) (mt := fun _ => false) (by kernel_rfl)
theorem ok131 : FnOk Try.prog 126 sig131 F131 :=
  ok_of (l := []) mixed .nil (inl := inlT) (nop := false) (unr := fun _ => false) (mt := fun _ => false) (by kernel_rfl)
theorem ok89 : FnOk Try.prog 121 sig89 F89 :=
  ok_of (l := [(54, c129), (125, c130), (126, c131), (112, c68)]) mixed (.add (f := 54) (c := c129) ok129 (by kernel_rfl) (.add (f := 125) (c := c130) ok130 (by kernel_rfl) (.add (f := 126) (c := c131) ok131 (by kernel_rfl) (.add (f := 112) (c := c68) ok68 (by kernel_rfl) .nil)))) (inl := inlT) (nop := false) (unr := fun _ => false) (mt := fun _ => false) (by kernel_rfl)
theorem ok72 : FnOk Try.prog 122 sig72 F72 :=
  ok_of (l := []) mixed .nil (inl := inlT) (nop := false) (unr := fun _ => false) (mt := fun _ => false) (by kernel_rfl)
theorem ok43 : FnOk Try.prog 104 sig43 F43 :=
  ok_of (l := [(121, c89), (70, c90), (122, c72)]) mixed (.add (f := 121) (c := c89) ok89 (by kernel_rfl) (.add (f := 70) (c := c90) ok90 (by kernel_rfl) (.add (f := 122) (c := c72) ok72 (by kernel_rfl) .nil))) (inl := inlT) (nop := false) (unr := fun _ => false) (mt := fun _ => false) (by kernel_rfl)
theorem ok97 : FnOk Try.prog 71 sig97 F97 :=
  ok_of (l := [(54, c129), (90, c30), (104, c43)]) mixed (.add (f := 54) (c := c129) ok129 (by kernel_rfl) (.add (f := 90) (c := c30) ok30 (by kernel_rfl) (.add (f := 104) (c := c43) ok43 (by kernel_rfl) .nil))) (inl := inlT) (nop := false) (unr := fun _ => false) (mt := fun _ => false) (by kernel_rfl)
theorem ok47 : FnOk Try.prog 40 sig47 F47 :=
  ok_of (l := [(70, c90), (71, c97), (57, c98)]) mixed (.add (f := 70) (c := c90) ok90 (by kernel_rfl) (.add (f := 71) (c := c97) ok97 (by kernel_rfl) (.add (f := 57) (c := c98) ok98 (by kernel_rfl) .nil))) (inl := inlT) (nop := false) (unr := fun _ => false) (mt := fun _ => false) (by kernel_rfl)
theorem ok1008 : FnOk Try.prog 14 sig1008 F1008 :=
  ok_of (l := [(39, c1027), (27, c75), (28, c1020), (41, c67), (43, c1029), (42, c1028), (40, c47)]) mixed (.add (f := 39) (c := c1027) ok1027 (by kernel_rfl) (.add (f := 27) (c := c75) ok75 (by kernel_rfl) (.add (f := 28) (c := c1020) ok1020 (by kernel_rfl) (.add (f := 41) (c := c67) ok67 (by kernel_rfl) (.add (f := 43) (c := c1029) ok1029 (by kernel_rfl) (.add (f := 42) (c := c1028) ok1028 (by kernel_rfl) (.add (f := 40) (c := c47) ok47 (by kernel_rfl) .nil))))))) (inl := inlT) (nop := false) (unr := fun _ => false) (mt := fun _ => false) (by kernel_rfl)
theorem ok1010 : FnOk Try.prog 17 sig1010 F1010 :=
  ok_of (l := []) mixed .nil (inl := inlT) (nop := false) (unr := fun _ => false) (mt := fun _ => false) (by kernel_rfl)
theorem ok1014 : FnOk Try.prog 21 sig1014 F1014 :=
  ok_of (l := [(76, c138), (40, c47)]) mixed (.add (f := 76) (c := c138) ok138 (by kernel_rfl) (.add (f := 40) (c := c47) ok47 (by kernel_rfl) .nil)) (inl := inlT) (nop := false) (unr := fun _ => false) (mt := fun _ => false) (by kernel_rfl)
theorem ok1009 : FnOk Try.prog 16 sig1009 F1009 :=
  ok_of (l := [(17, c1010), (21, c1014)]) mixed (.add (f := 17) (c := c1010) ok1010 (by kernel_rfl) (.add (f := 21) (c := c1014) ok1014 (by kernel_rfl) .nil)) (inl := inlT) (nop := false) (unr := fun _ => false) (mt := fun _ => false) (by kernel_rfl)
theorem ok1037 : FnOk Try.prog 55 sig1037 F1037 :=
  ok_of (l := [(14, c1008), (16, c1009)]) mixed (.add (f := 14) (c := c1008) ok1008 (by kernel_rfl) (.add (f := 16) (c := c1009) ok1009 (by kernel_rfl) .nil)) (inl := inlT) (nop := false) (unr := fun _ => false) (mt := fun _ => false) (by kernel_rfl)
theorem ok1018 : FnOk Try.prog 25 sig1018 F1018 :=
  ok_of (l := [(53, c1036), (54, c129), (55, c1037), (24, c1017), (41, c67)]) mixed (.add (f := 53) (c := c1036) ok1036 (by kernel_rfl) (.add (f := 54) (c := c129) ok129 (by kernel_rfl) (.add (f := 55) (c := c1037) ok1037 (by kernel_rfl) (.add (f := 24) (c := c1017) ok1017 (by kernel_rfl) (.add (f := 41) (c := c67) ok67 (by kernel_rfl) .nil))))) (inl := inlT) (nop := false) (unr := fun _ => false) (mt := fun _ => false) (by kernel_rfl)
theorem ok1016 : FnOk Try.prog 23 sig1016 F1016 :=
  ok_of (l := [(24, c1017), (25, c1018)]) mixed (.add (f := 24) (c := c1017) ok1017 (by kernel_rfl) (.add (f := 25) (c := c1018) ok1018 (by kernel_rfl) .nil)) (inl := inlT) (nop := false) (unr := fun _ => false) (mt := fun _ => false) (by kernel_rfl)
theorem ok27 : FnOk Try.prog 99 sig27 F27 :=
  ok_of (l := []) mixed .nil (inl := inlT) (nop := false) (unr := fun _ => false) (mt := fun _ => false) (by kernel_rfl)
theorem ok19 : FnOk Try.prog 64 sig19 F19 :=
  ok_of (l := [(99, c27)]) mixed (.add (f := 99) (c := c27) ok27 (by kernel_rfl) .nil) (inl := inlT) (nop := false) (unr := fun _ => false) (mt := fun _ => false) (by kernel_rfl)
theorem ok69 : FnOk Try.prog 31 sig69 F69 :=
  ok_of (l := []) mixed .nil (inl := inlT) (nop := false) (unr := fun _ => false) (mt := fun _ => false) (by kernel_rfl)
theorem ok21 : FnOk Try.prog 11 sig21 F21 :=
  ok_of (l := [(31, c69)]) mixed (.add (f := 31) (c := c69) ok69 (by kernel_rfl) .nil) (inl := inlT) (nop := false) (unr := fun _ => false) (mt := fun _ => false) (by kernel_rfl)
theorem ok18 : FnOk Try.prog 65 sig18 F18 :=
  ok_of (l := [(11, c21)]) mixed (.add (f := 11) (c := c21) ok21 (by kernel_rfl) .nil) (inl := inlT) (nop := false) (unr := fun _ => false) (mt := fun _ => false) (by kernel_rfl)
theorem ok124 : FnOk Try.prog 30 sig124 F124 :=
  ok_of (l := [(64, c19), (65, c18)]) mixed (.add (f := 64) (c := c19) ok19 (by kernel_rfl) (.add (f := 65) (c := c18) ok18 (by kernel_rfl) .nil)) (inl := inlT) (nop := false) (unr := fun _ => false) (mt := fun _ => false) (by kernel_rfl)
theorem ok77 : FnOk Try.prog 10 sig77 F77 :=
  ok_of (l := [(30, c124)]) mixed (.add (f := 30) (c := c124) ok124 (by kernel_rfl) .nil) (inl := inlT) (nop := false) (unr := fun _ => false) (mt := fun _ => false) (by kernel_rfl)
theorem ok1015 : FnOk Try.prog 22 sig1015 F1015 :=
  ok_of (l := [(10, c77)]) mixed (.add (f := 10) (c := c77) ok77 (by kernel_rfl) .nil) (inl := inlT) (nop := false) (unr := fun _ => false) (mt := fun _ => false) (by kernel_rfl)
theorem ok52 : FnOk Try.prog 44 sig52 F52 :=
  ok_of (l := [(65, c18)]) mixed (.add (f := 65) (c := c18) ok18 (by kernel_rfl) .nil) (inl := inlT) (nop := false) (unr := fun _ => false) (mt := fun _ => false) (by kernel_rfl)
theorem ok50 : FnOk Try.prog 15 sig50 F50 :=
  ok_of (l := [(44, c52)]) mixed (.add (f := 44) (c := c52) ok52 (by kernel_rfl) .nil) (inl := inlT) (nop := false) (unr := fun _ => false) (mt := fun _ => false) (by kernel_rfl)
end Go.Proofs.Ytolcekkcenedjaa
