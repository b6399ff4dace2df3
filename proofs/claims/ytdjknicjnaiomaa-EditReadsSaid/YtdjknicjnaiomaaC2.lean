/-
  Contracts of the program's functions that the laws EditGets and EditReads reach besides.
-/
import Derived.Test.YtdjknicjnaiomaaC1
set_option linter.unusedVariables false
set_option linter.unusedSimpArgs false
/- Contracts of the program's functions, each by what its text is reckoned to. -/
namespace Go.Proofs.Ytdjknicjnaiomaa
open Go.Proofs.Ytdjknicjnaiomaa.Sx Go.RowKit Go.ChangeShapes
theorem ok90 : FnOk Try.prog 90 sig90 F90 :=
  ok_of (l := []) mixed .nil (inl := fun _ => false) (nop := false) (unr := fun _ => false) (by kernel_rfl)
theorem ok45 : FnOk Try.prog 45 sig45 F45 :=
  ok_of (l := [(90, c90), (37, c37)]) mixed (.add (f := 90) (c := c90) ok90 (by kernel_rfl) (.add (f := 37) (c := c37) ok37 (by kernel_rfl) .nil)) (inl := fun f => f == 78 || f == 83 || f == 84 || f == 85 || f == 126 || f == 93 || f == 94 || f == 134) (nop := true) (unr := fun n => n == 5 || n == 6) (by kernel_rfl)
theorem ok133 : FnOk Try.prog 133 sig133 F133 :=
  ok_of (l := []) mixed .nil (inl := fun _ => false) (nop := false) (unr := fun _ => false) (by kernel_rfl)
theorem ok92 : FnOk Try.prog 92 sig92 F92 :=
  ok_of (l := [(133, c133), (71, c71), (69, c69)]) mixed (.add (f := 133) (c := c133) ok133 (by kernel_rfl) (.add (f := 71) (c := c71) ok71 (by kernel_rfl) (.add (f := 69) (c := c69) ok69 (by kernel_rfl) .nil))) (inl := fun _ => false) (nop := false) (unr := fun _ => false) (by kernel_rfl)
theorem ok95 : FnOk Try.prog 95 sig95 F95 :=
  ok_of (l := [(92, c92)]) mixed (.add (f := 92) (c := c92) ok92 (by kernel_rfl) .nil) (inl := fun _ => false) (nop := false) (unr := fun _ => false) (by kernel_rfl)
theorem ok96 : FnOk Try.prog 96 sig96 F96 :=
  ok_of (l := [(80, c80), (127, c127), (95, c95)]) mixed (.add (f := 80) (c := c80) ok80 (by kernel_rfl) (.add (f := 127) (c := c127) ok127 (by kernel_rfl) (.add (f := 95) (c := c95) ok95 (by kernel_rfl) .nil))) (inl := fun _ => false) (nop := false) (unr := fun _ => false) (by kernel_rfl)
theorem ok46 : FnOk Try.prog 46 sig46 F46 :=
  ok_of (l := [(95, c95), (96, c96), (38, c38)]) mixed (.add (f := 95) (c := c95) ok95 (by kernel_rfl) (.add (f := 96) (c := c96) ok96 (by kernel_rfl) (.add (f := 38) (c := c38) ok38 (by kernel_rfl) .nil))) (inl := fun _ => false) (nop := false) (unr := fun _ => false) (by kernel_rfl)
theorem ok9 : FnOk Try.prog 9 sig9 F9 :=
  ok_of (l := [(36, c36), (45, c45), (46, c46), (41, c41)]) mixed (.add (f := 36) (c := c36) ok36 (by kernel_rfl) (.add (f := 45) (c := c45) ok45 (by kernel_rfl) (.add (f := 46) (c := c46) ok46 (by kernel_rfl) (.add (f := 41) (c := c41) ok41 (by kernel_rfl) .nil)))) (inl := fun _ => false) (nop := false) (unr := fun _ => false) (by kernel_rfl)
theorem ok10 : FnOk Try.prog 10 sig10 F10 :=
  ok_of (l := [(35, c35), (36, c36), (39, c39), (45, c45), (40, c40), (41, c41), (21, c21)]) mixed (.add (f := 35) (c := c35) ok35 (by kernel_rfl) (.add (f := 36) (c := c36) ok36 (by kernel_rfl) (.add (f := 39) (c := c39) ok39 (by kernel_rfl) (.add (f := 45) (c := c45) ok45 (by kernel_rfl) (.add (f := 40) (c := c40) ok40 (by kernel_rfl) (.add (f := 41) (c := c41) ok41 (by kernel_rfl) (.add (f := 21) (c := c21) ok21 (by kernel_rfl) .nil))))))) (inl := fun _ => false) (nop := false) (unr := fun _ => false) (by kernel_rfl)
end Go.Proofs.Ytdjknicjnaiomaa
