/-
  Contracts of the functions that the law reaches, each by what its text is reckoned to.
-/
import Derived.Test.YtmglkddddpipgaaV2
import Derived.Test.YtmglkddddpipgaaRows
import Derived.Test.YtmglkddddpipgaaChecked
set_option linter.unusedVariables false
set_option linter.unusedSimpArgs false
namespace Go.Proofs.Ytmglkddddpipgaa.Sx
instance arnV : Arn := ⟨fun t => match t with | 104 => some 0 | 109 => some 2 | 101 => some 1 | 100 => some 3 | 148 => some 5 | _ => none⟩
end Go.Proofs.Ytmglkddddpipgaa.Sx

namespace Go.Proofs.Ytmglkddddpipgaa
open Sx Go.RowKit Go.ChangeShapes

theorem own : ownKnob Try.prog.godebug = none := by kernel_rfl
theorem laidOut : laidOutB Try.prog = true := by kernel_rfl
theorem mixed : Try.prog.follows .mixedOrders = true := by kernel_rfl
def locA : List (Nat × ArT) := [(0, T0), (1, T1), (2, T2), (3, T3)]
def inlV (f : FuncId) : Bool := f == 120 || f == 138 || f == 139 || f == 153
theorem wf_vals {l : List (List Int)} (h : Wf (.sl (.sl (.int .u8))) l) : ∀ v ∈ l, Bts v := fun v hv c hc => by
  have h1 : Wf (.int .u8) c := (h.2 v hv).2 c hc
  have h2 : IntKind.u8.min ≤ c := h1.1
  have h3 : c ≤ IntKind.u8.max := h1.2
  simp [IntKind.min, IntKind.max, IntKind.signed, IntKind.bits] at h2 h3
  omega
theorem wf_int {x : Int} (h : Wf (.int .i64) x) : x < 9223372036854775808 := by
  have h1 : x ≤ IntKind.i64.max := h.2
  simp [IntKind.max, IntKind.signed, IntKind.bits] at h1
  omega
theorem vok3028 : FnOkX Try.prog 28 Sx.sig3028 Sx.F3028 :=
  ok_of (l := []) mixed .nil (inl := inlV) (nop := false) (unr := fun _ => false) (mt := fun _ => false) (loc := []) (.inl rfl) (by kernel_rfl)
theorem ok16 : FnOkX Try.prog 16 sig16 F16 :=
  ok_of (l := []) mixed .nil (inl := fun _ => false) (nop := false) (unr := fun _ => false) (mt := fun _ => false) (loc := []) (.inl rfl) (by kernel_rfl)
theorem vok3065 : FnOkX Try.prog 65 Sx.sig3065 Sx.F3065 :=
  ok_of (l := []) mixed .nil (inl := inlV) (nop := false) (unr := fun _ => false) (mt := fun _ => false) (loc := []) (.inl rfl) (by kernel_rfl)
theorem vok3043 : FnOkX Try.prog 43 Sx.sig3043 Sx.F3043 :=
  ok_of (l := []) mixed .nil (inl := inlV) (nop := false) (unr := fun _ => false) (mt := fun _ => false) (loc := []) (.inl rfl) (by kernel_rfl)
theorem ok55 : FnOkX Try.prog 55 sig55 F55 :=
  ok_of (l := []) mixed .nil (inl := fun _ => false) (nop := false) (unr := fun _ => false) (mt := fun _ => false) (loc := []) (.inl rfl) (by kernel_rfl)
theorem ok66 : FnOkX Try.prog 66 sig66 F66 :=
  ok_of (l := [(55, c55)]) mixed (.add (f := 55) (c := c55) ok55 (by kernel_rfl) .nil) (inl := fun _ => false) (nop := false) (unr := fun _ => false) (mt := fun _ => false) (loc := []) (.inl rfl) (by kernel_rfl)
theorem vok3061 : FnOkX Try.prog 61 Sx.sig3061 Sx.F3061 :=
  ok_of (l := []) mixed .nil (inl := inlV) (nop := false) (unr := fun _ => false) (mt := fun _ => false) (loc := []) (.inl rfl) (by kernel_rfl)
theorem vok3095 : FnOkX Try.prog 95 Sx.sig3095 Sx.F3095 :=
  ok_of (l := []) mixed .nil (inl := inlV) (nop := false) (unr := fun _ => false) (mt := fun _ => false) (loc := []) (.inl rfl) (by kernel_rfl)
theorem vok3064 : FnOkX Try.prog 64 Sx.sig3064 Sx.F3064 :=
  ok_of (l := [(95, Sx.c3095)]) mixed (.add (f := 95) (c := Sx.c3095) vok3095 (by kernel_rfl) .nil) (inl := inlV) (nop := false) (unr := fun _ => false) (mt := fun _ => false) (loc := []) (.inl rfl) (by kernel_rfl)
theorem ok56 : FnOkX Try.prog 56 sig56 F56 :=
  ok_of (l := []) mixed .nil (inl := fun _ => false) (nop := false) (unr := fun _ => false) (mt := fun _ => false) (loc := []) (.inl rfl) (by kernel_rfl)
theorem ok23 : FnOkX Try.prog 23 sig23 F23 :=
  ok_of (l := [(56, c56)]) mixed (.add (f := 56) (c := c56) ok56 (by kernel_rfl) .nil) (inl := fun _ => false) (nop := false) (unr := fun _ => false) (mt := fun _ => false) (loc := []) (.inl rfl) (by kernel_rfl)
theorem ok24 : FnOkX Try.prog 24 sig24 F24 :=
  ok_of (l := [(55, c55), (56, c56)]) mixed (.add (f := 55) (c := c55) ok55 (by kernel_rfl) (.add (f := 56) (c := c56) ok56 (by kernel_rfl) .nil)) (inl := fun _ => false) (nop := false) (unr := fun _ => false) (mt := fun _ => false) (loc := []) (.inl rfl) (by kernel_rfl)
theorem ok3067 : FnOkX Try.prog 67 sig3067 F3067 :=
  ok_of (l := [(66, c66), (64, Sx.c3064), (23, c23), (24, c24)]) mixed (.add (f := 66) (c := c66) ok66 (by kernel_rfl) (.add (f := 64) (c := Sx.c3064) vok3064 (by kernel_rfl) (.add (f := 23) (c := c23) ok23 (by kernel_rfl) (.add (f := 24) (c := c24) ok24 (by kernel_rfl) .nil)))) (inl := inlV) (nop := false) (unr := fun _ => false) (mt := fun _ => false) (loc := []) (.inl rfl) (by kernel_rfl)
theorem vok1053 : FnOkX Try.prog 122 Sx.sig1053 Sx.F1053 :=
  ok_of (l := []) mixed .nil (inl := inlV) (nop := false) (unr := fun _ => false) (mt := fun _ => false) (loc := []) (.inl rfl) (by kernel_rfl)
theorem vok90 : FnOkX Try.prog 123 Sx.sig90 Sx.F90 :=
  ok_of (l := []) mixed .nil (inl := inlV) (nop := false) (unr := fun _ => false) (mt := fun _ => false) (loc := []) (.inl rfl) (by kernel_rfl)
theorem vok157 : FnOkX Try.prog 137 Sx.sig157 Sx.F157 :=
  ok_of (l := []) mixed .nil (inl := inlV) (nop := false) (unr := fun _ => false) (mt := fun _ => false) (loc := []) (.inl rfl) (by kernel_rfl)
theorem vok1057 : FnOkX Try.prog 117 Sx.sig1057 Sx.F1057 :=
  ok_of (l := [(137, Sx.c157)]) mixed (.add (f := 137) (c := Sx.c157) vok157 (by kernel_rfl) .nil) (inl := inlV) (nop := false) (unr := fun _ => false) (mt := fun _ => false) (loc := []) (.inl rfl) (by kernel_rfl)
theorem vok1039 : FnOkX Try.prog 93 Sx.sig1039 Sx.F1039 :=
  ok_of (l := [(117, Sx.c1057)]) mixed (.add (f := 117) (c := Sx.c1057) vok1057 (by kernel_rfl) .nil) (inl := inlV) (nop := false) (unr := fun _ => false) (mt := fun _ => false) (loc := []) (.inl rfl) (by kernel_rfl)
theorem vok1054 : FnOkX Try.prog 124 Sx.sig1054 Sx.F1054 :=
  ok_of (l := [(93, Sx.c1039)]) mixed (.add (f := 93) (c := Sx.c1039) vok1039 (by kernel_rfl) .nil) (inl := inlV) (nop := false) (unr := fun _ => false) (mt := fun _ => false) (loc := []) (.inl rfl) (by kernel_rfl)
theorem vok1055 : FnOkX Try.prog 125 Sx.sig1055 Sx.F1055 :=
  ok_of (l := []) mixed .nil (inl := inlV) (nop := false) (unr := fun _ => false) (mt := fun _ => false) (loc := []) (.inl rfl) (by kernel_rfl)
theorem vok122 : FnOkX Try.prog 136 Sx.sig122 Sx.F122 :=
  ok_of (l := []) mixed .nil (inl := inlV) (nop := false) (unr := fun _ => false) (mt := fun _ => false) (loc := []) (.inl rfl) (by kernel_rfl)
theorem vok73 : FnOkX Try.prog 115 Sx.sig73 Sx.F73 :=
  ok_of (l := [(136, Sx.c122)]) mixed (.add (f := 136) (c := Sx.c122) vok122 (by kernel_rfl) .nil) (inl := inlV) (nop := false) (unr := fun _ => false) (mt := fun _ => false) (loc := []) (.inl rfl) (by kernel_rfl)
theorem vok1052 : FnOkX Try.prog 121 Sx.sig1052 Sx.F1052 :=
  ok_of (l := [(115, Sx.c73), (136, Sx.c122)]) mixed (.add (f := 115) (c := Sx.c73) vok73 (by kernel_rfl) (.add (f := 136) (c := Sx.c122) vok122 (by kernel_rfl) .nil)) (inl := inlV) (nop := false) (unr := fun _ => false) (mt := fun _ => false) (loc := []) (.inl rfl) (by kernel_rfl)
theorem vok1056 : FnOkX Try.prog 54 Sx.sig1056 Sx.F1056 :=
  ok_of (l := []) mixed .nil (inl := inlV) (nop := false) (unr := fun _ => false) (mt := fun _ => false) (loc := []) (.inl rfl) (by kernel_rfl)
theorem vok1036 : FnOkX Try.prog 96 Sx.sig1036 Sx.F1036 :=
  ok_of (l := [(122, Sx.c1053), (123, Sx.c90), (124, Sx.c1054), (125, Sx.c1055), (121, Sx.c1052), (54, Sx.c1056)]) mixed (.add (f := 122) (c := Sx.c1053) vok1053 (by kernel_rfl) (.add (f := 123) (c := Sx.c90) vok90 (by kernel_rfl) (.add (f := 124) (c := Sx.c1054) vok1054 (by kernel_rfl) (.add (f := 125) (c := Sx.c1055) vok1055 (by kernel_rfl) (.add (f := 121) (c := Sx.c1052) vok1052 (by kernel_rfl) (.add (f := 54) (c := Sx.c1056) vok1056 (by kernel_rfl) .nil)))))) (inl := inlV) (nop := false) (unr := fun _ => false) (mt := fun _ => false) (loc := []) (.inl rfl) (by kernel_rfl)
theorem vok68 : FnOkX Try.prog 69 Sx.sig68 Sx.F68 :=
  ok_of (l := []) mixed .nil (inl := inlV) (nop := false) (unr := fun _ => false) (mt := fun _ => false) (loc := []) (.inl rfl) (by kernel_rfl)
theorem vok20 : FnOkX Try.prog 116 Sx.sig20 Sx.F20 :=
  ok_of (l := [(69, Sx.c68)]) mixed (.add (f := 69) (c := Sx.c68) vok68 (by kernel_rfl) .nil) (inl := inlV) (nop := false) (unr := fun _ => false) (mt := fun _ => false) (loc := []) (.inl rfl) (by kernel_rfl)
theorem vok26 : FnOkX Try.prog 92 Sx.sig26 Sx.F26 :=
  ok_of (l := [(115, Sx.c73), (116, Sx.c20)]) mixed (.add (f := 115) (c := Sx.c73) vok73 (by kernel_rfl) (.add (f := 116) (c := Sx.c20) vok20 (by kernel_rfl) .nil)) (inl := inlV) (nop := false) (unr := fun _ => false) (mt := fun _ => false) (loc := []) (.inl rfl) (by kernel_rfl)
theorem vok3068 : FnOkX Try.prog 68 Sx.sig3068 Sx.F3068 :=
  ok_of (l := [(96, Sx.c1036), (93, Sx.c1039), (92, Sx.c26)]) mixed (.add (f := 96) (c := Sx.c1036) vok1036 (by kernel_rfl) (.add (f := 93) (c := Sx.c1039) vok1039 (by kernel_rfl) (.add (f := 92) (c := Sx.c26) vok26 (by kernel_rfl) .nil))) (inl := inlV) (nop := false) (unr := fun _ => false) (mt := fun _ => false) (loc := []) (.inl rfl) (by kernel_rfl)
theorem ok58 : FnOkX Try.prog 58 sig58 F58 :=
  ok_of (l := []) mixed .nil (inl := fun _ => false) (nop := false) (unr := fun _ => false) (mt := fun _ => false) (loc := []) (.inl rfl) (by kernel_rfl)
theorem ok54 : FnOkX Try.prog 54 sig54 F54 :=
  ok_of (l := []) mixed .nil (inl := fun _ => false) (nop := false) (unr := fun _ => false) (mt := fun _ => false) (loc := []) (.inl rfl) (by kernel_rfl)
theorem ok44 : FnOkX Try.prog 44 sig44 F44 :=
  ok_of (l := [(55, c55), (56, c56), (58, c58), (54, c54)]) mixed (.add (f := 55) (c := c55) ok55 (by kernel_rfl) (.add (f := 56) (c := c56) ok56 (by kernel_rfl) (.add (f := 58) (c := c58) ok58 (by kernel_rfl) (.add (f := 54) (c := c54) ok54 (by kernel_rfl) .nil)))) (inl := fun _ => false) (nop := false) (unr := fun _ => false) (mt := fun _ => false) (loc := []) (.inl rfl) (by kernel_rfl)
theorem ok3032 : FnOkX Try.prog 32 sig3032 F3032 :=
  ok_of (l := [(65, Sx.c3065), (43, Sx.c3043), (66, c66), (61, Sx.c3061), (67, c3067), (68, Sx.c3068), (64, Sx.c3064), (44, c44)]) mixed (.add (f := 65) (c := Sx.c3065) vok3065 (by kernel_rfl) (.add (f := 43) (c := Sx.c3043) vok3043 (by kernel_rfl) (.add (f := 66) (c := c66) ok66 (by kernel_rfl) (.add (f := 61) (c := Sx.c3061) vok3061 (by kernel_rfl) (.add (f := 67) (c := c3067) ok3067 (by kernel_rfl) (.add (f := 68) (c := Sx.c3068) vok3068 (by kernel_rfl) (.add (f := 64) (c := Sx.c3064) vok3064 (by kernel_rfl) (.add (f := 44) (c := c44) ok44 (by kernel_rfl) .nil)))))))) (inl := inlV) (nop := false) (unr := fun _ => false) (mt := fun _ => false) (loc := []) (.inl rfl) (by kernel_rfl)
theorem vok3042 : FnOkX Try.prog 42 Sx.sig3042 Sx.F3042 :=
  ok_of (l := []) mixed .nil (inl := inlV) (nop := false) (unr := fun _ => false) (mt := fun _ => false) (loc := []) (.inl rfl) (by kernel_rfl)
theorem vok3078 : FnOkX Try.prog 78 Sx.sig3078 Sx.F3078 :=
  ok_of (l := []) mixed .nil (inl := inlV) (nop := false) (unr := fun _ => false) (mt := fun _ => false) (loc := []) (.inl rfl) (by kernel_rfl)
theorem vok3070 : FnOkX Try.prog 70 Sx.sig3070 Sx.F3070 :=
  ok_of (l := [(78, Sx.c3078)]) mixed (.add (f := 78) (c := Sx.c3078) vok3078 (by kernel_rfl) .nil) (inl := inlV) (nop := false) (unr := fun _ => false) (mt := fun _ => false) (loc := []) (.inl rfl) (by kernel_rfl)
theorem ok3062 : FnOkX Try.prog 62 sig3062 F3062 :=
  ok_of (l := [(42, Sx.c3042), (70, Sx.c3070), (64, Sx.c3064), (23, c23)]) mixed (.add (f := 42) (c := Sx.c3042) vok3042 (by kernel_rfl) (.add (f := 70) (c := Sx.c3070) vok3070 (by kernel_rfl) (.add (f := 64) (c := Sx.c3064) vok3064 (by kernel_rfl) (.add (f := 23) (c := c23) ok23 (by kernel_rfl) .nil)))) (inl := inlV) (nop := false) (unr := fun _ => false) (mt := fun _ => false) (loc := []) (.inl rfl) (by kernel_rfl)
theorem vok3060 : FnOkX Try.prog 60 Sx.sig3060 Sx.F3060 :=
  ok_of (l := [(93, Sx.c1039), (92, Sx.c26)]) mixed (.add (f := 93) (c := Sx.c1039) vok1039 (by kernel_rfl) (.add (f := 92) (c := Sx.c26) vok26 (by kernel_rfl) .nil)) (inl := inlV) (nop := false) (unr := fun _ => false) (mt := fun _ => false) (loc := []) (.inl rfl) (by kernel_rfl)
theorem vok1050 : FnOkX Try.prog 118 Sx.sig1050 Sx.F1050 :=
  ok_of (l := []) mixed .nil (inl := inlV) (nop := false) (unr := fun _ => false) (mt := fun _ => false) (loc := []) (.inl rfl) (by kernel_rfl)
theorem vok66 : FnOkX Try.prog 119 Sx.sig66 Sx.F66 :=
  ok_of (l := []) mixed .nil (inl := inlV) (nop := false) (unr := fun _ => false) (mt := fun _ => false) (loc := []) (.inl rfl) (by kernel_rfl)
theorem vok1035 : FnOkX Try.prog 94 Sx.sig1035 Sx.F1035 :=
  ok_of (l := [(118, Sx.c1050), (119, Sx.c66), (121, Sx.c1052)]) mixed (.add (f := 118) (c := Sx.c1050) vok1050 (by kernel_rfl) (.add (f := 119) (c := Sx.c66) vok66 (by kernel_rfl) (.add (f := 121) (c := Sx.c1052) vok1052 (by kernel_rfl) .nil))) (inl := inlV) (nop := false) (unr := fun _ => false) (mt := fun _ => false) (loc := []) (.inl rfl) (by kernel_rfl)
theorem vok3063 : FnOkX Try.prog 63 Sx.sig3063 Sx.F3063 :=
  ok_of (l := [(94, Sx.c1035)]) mixed (.add (f := 94) (c := Sx.c1035) vok1035 (by kernel_rfl) .nil) (inl := inlV) (nop := false) (unr := fun _ => false) (mt := fun _ => false) (loc := []) (.inl rfl) (by kernel_rfl)
theorem ok57 : FnOkX Try.prog 57 sig57 F57 :=
  ok_of (l := []) mixed .nil (inl := fun _ => false) (nop := false) (unr := fun _ => false) (mt := fun _ => false) (loc := []) (.inl rfl) (by kernel_rfl)
theorem ok22 : FnOkX Try.prog 22 sig22 F22 :=
  ok_of (l := [(55, c55), (56, c56), (57, c57), (19, c19), (58, c58)]) mixed (.add (f := 55) (c := c55) ok55 (by kernel_rfl) (.add (f := 56) (c := c56) ok56 (by kernel_rfl) (.add (f := 57) (c := c57) ok57 (by kernel_rfl) (.add (f := 19) (c := c19) ok19 (by kernel_rfl) (.add (f := 58) (c := c58) ok58 (by kernel_rfl) .nil))))) (inl := fun _ => false) (nop := false) (unr := fun _ => false) (mt := fun _ => false) (loc := []) (.inl rfl) (by kernel_rfl)
theorem ok3029 : FnOkX Try.prog 29 sig3029 F3029 :=
  ok_of (l := [(42, Sx.c3042), (61, Sx.c3061), (62, c3062), (60, Sx.c3060), (63, Sx.c3063), (64, Sx.c3064), (22, c22)]) mixed (.add (f := 42) (c := Sx.c3042) vok3042 (by kernel_rfl) (.add (f := 61) (c := Sx.c3061) vok3061 (by kernel_rfl) (.add (f := 62) (c := c3062) ok3062 (by kernel_rfl) (.add (f := 60) (c := Sx.c3060) vok3060 (by kernel_rfl) (.add (f := 63) (c := Sx.c3063) vok3063 (by kernel_rfl) (.add (f := 64) (c := Sx.c3064) vok3064 (by kernel_rfl) (.add (f := 22) (c := c22) ok22 (by kernel_rfl) .nil))))))) (inl := inlV) (nop := false) (unr := fun _ => false) (mt := fun _ => false) (loc := []) (.inl rfl) (by kernel_rfl)
theorem vok24 : FnOkX Try.prog 97 Sx.sig24 Sx.F24 :=
  ok_of (l := [(115, Sx.c73)]) mixed (.add (f := 115) (c := Sx.c73) vok73 (by kernel_rfl) .nil) (inl := inlV) (nop := false) (unr := fun _ => false) (mt := fun _ => false) (loc := []) (.inl rfl) (by kernel_rfl)
theorem vok72 : FnOkX Try.prog 98 Sx.sig72 Sx.F72 :=
  ok_of (l := []) mixed .nil (inl := inlV) (nop := false) (unr := fun _ => false) (mt := fun _ => false) (loc := []) (.inl rfl) (by kernel_rfl)
theorem vok3071 : FnOkX Try.prog 71 Sx.sig3071 Sx.F3071 :=
  ok_of (l := [(69, Sx.c68), (97, Sx.c24), (98, Sx.c72)]) mixed (.add (f := 69) (c := Sx.c68) vok68 (by kernel_rfl) (.add (f := 97) (c := Sx.c24) vok24 (by kernel_rfl) (.add (f := 98) (c := Sx.c72) vok72 (by kernel_rfl) .nil))) (inl := inlV) (nop := false) (unr := fun _ => false) (mt := fun _ => false) (loc := []) (.inl rfl) (by kernel_rfl)
theorem ok3033 : FnOkX Try.prog 33 sig3033 F3033 :=
  ok_of (l := [(42, Sx.c3042), (69, Sx.c68), (70, Sx.c3070), (67, c3067), (71, Sx.c3071)]) mixed (.add (f := 42) (c := Sx.c3042) vok3042 (by kernel_rfl) (.add (f := 69) (c := Sx.c68) vok68 (by kernel_rfl) (.add (f := 70) (c := Sx.c3070) vok3070 (by kernel_rfl) (.add (f := 67) (c := c3067) ok3067 (by kernel_rfl) (.add (f := 71) (c := Sx.c3071) vok3071 (by kernel_rfl) .nil))))) (inl := inlV) (nop := false) (unr := fun _ => false) (mt := fun _ => false) (loc := []) (.inl rfl) (by kernel_rfl)
theorem ok59 : FnOkX Try.prog 59 sig59 F59 :=
  ok_of (l := []) mixed .nil (inl := fun _ => false) (nop := false) (unr := fun _ => false) (mt := fun _ => false) (loc := []) (.inl rfl) (by kernel_rfl)
theorem ok27 : FnOkX Try.prog 27 sig27 F27 :=
  ok_of (l := [(59, c59)]) mixed (.add (f := 59) (c := c59) ok59 (by kernel_rfl) .nil) (inl := fun _ => false) (nop := false) (unr := fun _ => false) (mt := fun _ => false) (loc := []) (.inl rfl) (by kernel_rfl)
theorem ok3008 : FnOkX Try.prog 8 sig3008 F3008 :=
  ok_of (l := [(16, c16), (32, c3032), (29, c3029), (33, c3033), (27, c27)]) mixed (.add (f := 16) (c := c16) ok16 (by kernel_rfl) (.add (f := 32) (c := c3032) ok3032 (by kernel_rfl) (.add (f := 29) (c := c3029) ok3029 (by kernel_rfl) (.add (f := 33) (c := c3033) ok3033 (by kernel_rfl) (.add (f := 27) (c := c27) ok27 (by kernel_rfl) .nil))))) (inl := inlV) (nop := false) (unr := fun _ => false) (mt := fun _ => false) (loc := locA) (.inr ⟨rfl, rfl⟩) (by kernel_rfl)
theorem vok3034 : FnOkX Try.prog 34 Sx.sig3034 Sx.F3034 :=
  ok_of (l := []) mixed .nil (inl := inlV) (nop := false) (unr := fun _ => false) (mt := fun _ => false) (loc := []) (.inl rfl) (by kernel_rfl)
theorem ok3009 : FnOkX Try.prog 9 sig3009 F3009 :=
  ok_of (l := [(16, c16), (32, c3032), (34, Sx.c3034)]) mixed (.add (f := 16) (c := c16) ok16 (by kernel_rfl) (.add (f := 32) (c := c3032) ok3032 (by kernel_rfl) (.add (f := 34) (c := Sx.c3034) vok3034 (by kernel_rfl) .nil))) (inl := inlV) (nop := false) (unr := fun _ => false) (mt := fun _ => false) (loc := []) (.inl rfl) (by kernel_rfl)
theorem ok25 : FnOkX Try.prog 25 sig25 F25 :=
  ok_of (l := [(55, c55), (56, c56), (58, c58)]) mixed (.add (f := 55) (c := c55) ok55 (by kernel_rfl) (.add (f := 56) (c := c56) ok56 (by kernel_rfl) (.add (f := 58) (c := c58) ok58 (by kernel_rfl) .nil))) (inl := fun _ => false) (nop := false) (unr := fun _ => false) (mt := fun _ => false) (loc := []) (.inl rfl) (by kernel_rfl)
theorem ok3030 : FnOkX Try.prog 30 sig3030 F3030 :=
  ok_of (l := [(42, Sx.c3042), (61, Sx.c3061), (64, Sx.c3064), (23, c23), (25, c25)]) mixed (.add (f := 42) (c := Sx.c3042) vok3042 (by kernel_rfl) (.add (f := 61) (c := Sx.c3061) vok3061 (by kernel_rfl) (.add (f := 64) (c := Sx.c3064) vok3064 (by kernel_rfl) (.add (f := 23) (c := c23) ok23 (by kernel_rfl) (.add (f := 25) (c := c25) ok25 (by kernel_rfl) .nil))))) (inl := inlV) (nop := false) (unr := fun _ => false) (mt := fun _ => false) (loc := []) (.inl rfl) (by kernel_rfl)
theorem ok26 : FnOkX Try.prog 26 sig26 F26 :=
  ok_of (l := [(55, c55), (58, c58), (50, c50), (52, c52)]) mixed (.add (f := 55) (c := c55) ok55 (by kernel_rfl) (.add (f := 58) (c := c58) ok58 (by kernel_rfl) (.add (f := 50) (c := c50) ok50 (by kernel_rfl) (.add (f := 52) (c := c52) ok52 (by kernel_rfl) .nil)))) (inl := fun _ => false) (nop := false) (unr := fun _ => false) (mt := fun _ => false) (loc := []) (.inl rfl) (by kernel_rfl)
theorem ok31 : FnOkX Try.prog 31 sig31 F31 :=
  ok_of (l := []) mixed .nil (inl := fun _ => false) (nop := false) (unr := fun _ => false) (mt := fun _ => false) (loc := []) (.inl rfl) (by kernel_rfl)
theorem ok51 : FnOkX Try.prog 51 sig51 F51 :=
  ok_of (l := []) mixed .nil (inl := fun _ => false) (nop := false) (unr := fun _ => false) (mt := fun _ => false) (loc := []) (.inl rfl) (by kernel_rfl)
theorem ok21 : FnOkX Try.prog 21 sig21 F21 :=
  ok_of (l := [(50, c50), (51, c51), (52, c52), (53, c53), (54, c54)]) mixed (.add (f := 50) (c := c50) ok50 (by kernel_rfl) (.add (f := 51) (c := c51) ok51 (by kernel_rfl) (.add (f := 52) (c := c52) ok52 (by kernel_rfl) (.add (f := 53) (c := c53) ok53 (by kernel_rfl) (.add (f := 54) (c := c54) ok54 (by kernel_rfl) .nil))))) (inl := fun _ => false) (nop := false) (unr := fun _ => false) (mt := fun _ => false) (loc := []) (.inl rfl) (by kernel_rfl)
end Go.Proofs.Ytmglkddddpipgaa
