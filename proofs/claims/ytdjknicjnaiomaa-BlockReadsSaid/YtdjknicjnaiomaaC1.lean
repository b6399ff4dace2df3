/-
  Contracts of the program's functions that the cell laws reach.
-/
import Derived.Test.YtdjknicjnaiomaaD6
import Derived.Test.YtdjknicjnaiomaaRows
set_option linter.unusedVariables false
set_option linter.unusedSimpArgs false
/- Contracts of the program's functions, each by what its text is reckoned to. -/
namespace Go.Proofs.Ytdjknicjnaiomaa
open Go.Proofs.Ytdjknicjnaiomaa.Sx Go.RowKit Go.ChangeShapes

theorem own : ownKnob Try.prog.godebug = none := by kernel_rfl
theorem laidOut : laidOutB Try.prog = true := by kernel_rfl
theorem mixed : Try.prog.follows .mixedOrders = true := by kernel_rfl
theorem ok68 : FnOk Try.prog 68 sig68 F68 :=
  ok_of (l := []) mixed .nil (inl := fun _ => false) (by kernel_rfl)
theorem ok20 : FnOk Try.prog 20 sig20 F20 :=
  ok_of (l := [(68, c68)]) mixed (.add (f := 68) (c := c68) ok68 (by kernel_rfl) .nil) (inl := fun _ => false) (by kernel_rfl)
theorem ok66 : FnOk Try.prog 66 sig66 F66 :=
  ok_of (l := []) mixed .nil (inl := fun _ => false) (by kernel_rfl)
theorem ok65 : FnOk Try.prog 65 sig65 F65 :=
  ok_of (l := [(68, c68), (66, c66)]) mixed (.add (f := 68) (c := c68) ok68 (by kernel_rfl) (.add (f := 66) (c := c66) ok66 (by kernel_rfl) .nil)) (inl := fun _ => false) (by kernel_rfl)
theorem ok16 : FnOk Try.prog 16 sig16 F16 :=
  ok_of (l := [(20, c20), (65, c65), (66, c66)]) mixed (.add (f := 20) (c := c20) ok20 (by kernel_rfl) (.add (f := 65) (c := c65) ok65 (by kernel_rfl) (.add (f := 66) (c := c66) ok66 (by kernel_rfl) .nil))) (inl := fun _ => false) (by kernel_rfl)
theorem ok69 : FnOk Try.prog 69 sig69 F69 :=
  ok_of (l := []) mixed .nil (inl := fun _ => false) (by kernel_rfl)
theorem ok21 : FnOk Try.prog 21 sig21 F21 :=
  ok_of (l := [(69, c69)]) mixed (.add (f := 69) (c := c69) ok69 (by kernel_rfl) .nil) (inl := fun _ => false) (by kernel_rfl)
theorem ok15 : FnOk Try.prog 15 sig15 F15 :=
  ok_of (l := [(16, c16), (21, c21)]) mixed (.add (f := 16) (c := c16) ok16 (by kernel_rfl) (.add (f := 21) (c := c21) ok21 (by kernel_rfl) .nil)) (inl := fun _ => false) (by kernel_rfl)
theorem ok67 : FnOk Try.prog 67 sig67 F67 :=
  ok_of (l := []) mixed .nil (inl := fun _ => false) (by kernel_rfl)
theorem ok17 : FnOk Try.prog 17 sig17 F17 :=
  ok_of (l := [(67, c67)]) mixed (.add (f := 67) (c := c67) ok67 (by kernel_rfl) .nil) (inl := fun _ => false) (by kernel_rfl)
theorem ok18 : FnOk Try.prog 18 sig18 F18 :=
  ok_of (l := [(21, c21)]) mixed (.add (f := 21) (c := c21) ok21 (by kernel_rfl) .nil) (inl := fun _ => false) (by kernel_rfl)
theorem ok27 : FnOk Try.prog 27 sig27 F27 :=
  ok_of (l := []) mixed .nil (inl := fun _ => false) (by kernel_rfl)
theorem ok19 : FnOk Try.prog 19 sig19 F19 :=
  ok_of (l := [(27, c27)]) mixed (.add (f := 27) (c := c27) ok27 (by kernel_rfl) .nil) (inl := fun _ => false) (by kernel_rfl)
theorem ok71 : FnOk Try.prog 71 sig71 F71 :=
  FnOk.any (ok_rec (l := []) mixed .nil (inl := fun _ => false) (fun q hq => by cases hq) ⟨_, _, Try.func71, rfl, by kernel_rfl⟩ (by kernel_rfl)) any71
theorem ok120 : FnOk Try.prog 120 sig120 F120 :=
  ok_of (l := [(71, c71)]) mixed (.add (f := 71) (c := c71) ok71 (by kernel_rfl) .nil) (inl := fun _ => false) (by kernel_rfl)
theorem ok121 : FnOk Try.prog 121 sig121 F121 :=
  ok_of (l := []) mixed .nil (inl := fun _ => false) (by kernel_rfl)
theorem ok70 : FnOk Try.prog 70 sig70 F70 :=
  ok_of (l := [(120, c120), (121, c121)]) mixed (.add (f := 120) (c := c120) ok120 (by kernel_rfl) (.add (f := 121) (c := c121) ok121 (by kernel_rfl) .nil)) (inl := fun _ => false) (by kernel_rfl)
theorem ok22 : FnOk Try.prog 22 sig22 F22 :=
  ok_of (l := [(70, c70), (71, c71)]) mixed (.add (f := 70) (c := c70) ok70 (by kernel_rfl) (.add (f := 71) (c := c71) ok71 (by kernel_rfl) .nil)) (inl := fun _ => false) (by kernel_rfl)
theorem ok3 : FnOk Try.prog 3 sig3 F3 :=
  ok_of (l := [(15, c15), (16, c16), (17, c17), (18, c18), (19, c19), (20, c20), (22, c22), (21, c21)]) mixed (.add (f := 15) (c := c15) ok15 (by kernel_rfl) (.add (f := 16) (c := c16) ok16 (by kernel_rfl) (.add (f := 17) (c := c17) ok17 (by kernel_rfl) (.add (f := 18) (c := c18) ok18 (by kernel_rfl) (.add (f := 19) (c := c19) ok19 (by kernel_rfl) (.add (f := 20) (c := c20) ok20 (by kernel_rfl) (.add (f := 22) (c := c22) ok22 (by kernel_rfl) (.add (f := 21) (c := c21) ok21 (by kernel_rfl) .nil)))))))) (inl := fun _ => false) (by kernel_rfl)
theorem ok72 : FnOk Try.prog 72 sig72 F72 :=
  ok_of (l := []) mixed .nil (inl := fun _ => false) (by kernel_rfl)
theorem ok23 : FnOk Try.prog 23 sig23 F23 :=
  ok_of (l := [(72, c72)]) mixed (.add (f := 72) (c := c72) ok72 (by kernel_rfl) .nil) (inl := fun _ => false) (by kernel_rfl)
theorem ok122 : FnOk Try.prog 122 sig122 F122 :=
  ok_of (l := []) mixed .nil (inl := fun _ => false) (by kernel_rfl)
theorem ok73 : FnOk Try.prog 73 sig73 F73 :=
  ok_of (l := [(122, c122)]) mixed (.add (f := 122) (c := c122) ok122 (by kernel_rfl) .nil) (inl := fun _ => false) (by kernel_rfl)
theorem ok24 : FnOk Try.prog 24 sig24 F24 :=
  ok_of (l := [(73, c73)]) mixed (.add (f := 73) (c := c73) ok73 (by kernel_rfl) .nil) (inl := fun _ => false) (by kernel_rfl)
theorem ok143 : FnOk Try.prog 143 sig143 F143 :=
  ok_of (l := []) mixed .nil (inl := fun _ => false) (by kernel_rfl)
theorem ok142 : FnOk Try.prog 142 sig142 F142 :=
  ok_of (l := [(143, c143)]) mixed (.add (f := 143) (c := c143) ok143 (by kernel_rfl) .nil) (inl := fun _ => false) (by kernel_rfl)
theorem ok123 : FnOk Try.prog 123 sig123 F123 :=
  ok_of (l := [(143, c143), (142, c142)]) mixed (.add (f := 143) (c := c143) ok143 (by kernel_rfl) (.add (f := 142) (c := c142) ok142 (by kernel_rfl) .nil)) (inl := fun _ => false) (by kernel_rfl)
theorem ok74 : FnOk Try.prog 74 sig74 F74 :=
  ok_of (l := [(123, c123)]) mixed (.add (f := 123) (c := c123) ok123 (by kernel_rfl) .nil) (inl := fun _ => false) (by kernel_rfl)
theorem ok25 : FnOk Try.prog 25 sig25 F25 :=
  ok_of (l := [(74, c74)]) mixed (.add (f := 74) (c := c74) ok74 (by kernel_rfl) .nil) (inl := fun _ => false) (by kernel_rfl)
theorem ok26 : FnOk Try.prog 26 sig26 F26 :=
  ok_of (l := [(73, c73), (20, c20)]) mixed (.add (f := 73) (c := c73) ok73 (by kernel_rfl) (.add (f := 20) (c := c20) ok20 (by kernel_rfl) .nil)) (inl := fun _ => false) (by kernel_rfl)
theorem ok4 : FnOk Try.prog 4 sig4 F4 :=
  ok_of (l := [(15, c15), (23, c23), (18, c18), (24, c24), (25, c25), (26, c26), (27, c27)]) mixed (.add (f := 15) (c := c15) ok15 (by kernel_rfl) (.add (f := 23) (c := c23) ok23 (by kernel_rfl) (.add (f := 18) (c := c18) ok18 (by kernel_rfl) (.add (f := 24) (c := c24) ok24 (by kernel_rfl) (.add (f := 25) (c := c25) ok25 (by kernel_rfl) (.add (f := 26) (c := c26) ok26 (by kernel_rfl) (.add (f := 27) (c := c27) ok27 (by kernel_rfl) .nil))))))) (inl := fun _ => false) (by kernel_rfl)
theorem ok90 : FnOk Try.prog 90 sig90 F90 :=
  ok_of (l := []) mixed .nil (inl := fun _ => false) (by kernel_rfl)
theorem ok129 : FnOk Try.prog 129 sig129 F129 :=
  ok_of (l := [(90, c90)]) mixed (.add (f := 90) (c := c90) ok90 (by kernel_rfl) .nil) (inl := fun _ => false) (by kernel_rfl)
theorem ok130 : FnOk Try.prog 130 sig130 F130 :=
  ok_of (l := []) mixed .nil (inl := fun _ => false) (by kernel_rfl)
theorem ok131 : FnOk Try.prog 131 sig131 F131 :=
  ok_of (l := []) mixed .nil (inl := fun _ => false) (by kernel_rfl)
theorem ok89 : FnOk Try.prog 89 sig89 F89 :=
  ok_of (l := [(129, c129), (130, c130), (131, c131), (68, c68)]) mixed (.add (f := 129) (c := c129) ok129 (by kernel_rfl) (.add (f := 130) (c := c130) ok130 (by kernel_rfl) (.add (f := 131) (c := c131) ok131 (by kernel_rfl) (.add (f := 68) (c := c68) ok68 (by kernel_rfl) .nil)))) (inl := fun _ => false) (by kernel_rfl)
theorem ok43 : FnOk Try.prog 43 sig43 F43 :=
  ok_of (l := [(89, c89), (90, c90), (72, c72)]) mixed (.add (f := 89) (c := c89) ok89 (by kernel_rfl) (.add (f := 90) (c := c90) ok90 (by kernel_rfl) (.add (f := 72) (c := c72) ok72 (by kernel_rfl) .nil))) (inl := fun _ => false) (by kernel_rfl)
theorem ok133 : FnOk Try.prog 133 sig133 F133 :=
  ok_of (l := []) mixed .nil (inl := fun _ => false) (by kernel_rfl)
theorem ok92 : FnOk Try.prog 92 sig92 F92 :=
  ok_of (l := [(133, c133), (71, c71), (69, c69)]) mixed (.add (f := 133) (c := c133) ok133 (by kernel_rfl) (.add (f := 71) (c := c71) ok71 (by kernel_rfl) (.add (f := 69) (c := c69) ok69 (by kernel_rfl) .nil))) (inl := fun _ => false) (by kernel_rfl)
theorem ok132 : FnOk Try.prog 132 sig132 F132 :=
  ok_of (l := [(92, c92)]) mixed (.add (f := 92) (c := c92) ok92 (by kernel_rfl) .nil) (inl := fun _ => false) (by kernel_rfl)
theorem ok91 : FnOk Try.prog 91 sig91 F91 :=
  ok_of (l := [(132, c132), (27, c27)]) mixed (.add (f := 132) (c := c132) ok132 (by kernel_rfl) (.add (f := 27) (c := c27) ok27 (by kernel_rfl) .nil)) (inl := fun _ => false) (by kernel_rfl)
theorem ok44 : FnOk Try.prog 44 sig44 F44 :=
  ok_of (l := [(91, c91), (92, c92)]) mixed (.add (f := 91) (c := c91) ok91 (by kernel_rfl) (.add (f := 92) (c := c92) ok92 (by kernel_rfl) .nil)) (inl := fun _ => false) (by kernel_rfl)
theorem ok7 : FnOk Try.prog 7 sig7 F7 :=
  ok_of (l := [(15, c15), (43, c43), (44, c44), (18, c18)]) mixed (.add (f := 15) (c := c15) ok15 (by kernel_rfl) (.add (f := 43) (c := c43) ok43 (by kernel_rfl) (.add (f := 44) (c := c44) ok44 (by kernel_rfl) (.add (f := 18) (c := c18) ok18 (by kernel_rfl) .nil)))) (inl := fun _ => false) (by kernel_rfl)
theorem ok8 : FnOk Try.prog 8 sig8 F8 :=
  ok_of (l := [(19, c19), (15, c15), (16, c16), (43, c43), (18, c18)]) mixed (.add (f := 19) (c := c19) ok19 (by kernel_rfl) (.add (f := 15) (c := c15) ok15 (by kernel_rfl) (.add (f := 16) (c := c16) ok16 (by kernel_rfl) (.add (f := 43) (c := c43) ok43 (by kernel_rfl) (.add (f := 18) (c := c18) ok18 (by kernel_rfl) .nil))))) (inl := fun _ => false) (by kernel_rfl)
end Go.Proofs.Ytdjknicjnaiomaa
