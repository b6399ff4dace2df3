/-
  Contracts of the program's functions that the law BlockPuts reaches besides.
-/
import Derived.Test.YtdjknicjnaiomaaC1
set_option linter.unusedVariables false
set_option linter.unusedSimpArgs false
/- Contracts of the program's functions, each by what its text is reckoned to. -/
namespace Go.Proofs.Ytdjknicjnaiomaa
open Go.Proofs.Ytdjknicjnaiomaa.Sx Go.RowKit Go.ChangeShapes
theorem ok28 : FnOk Try.prog 28 sig28 F28 :=
  ok_of (l := []) mixed .nil (inl := fun _ => false) (by kernel_rfl)
theorem ok98 : FnOk Try.prog 98 sig98 F98 :=
  ok_of (l := [(17, c17), (20, c20)]) mixed (.add (f := 17) (c := c17) ok17 (by kernel_rfl) (.add (f := 20) (c := c20) ok20 (by kernel_rfl) .nil)) (inl := fun _ => false) (by kernel_rfl)
theorem ok75 : FnOk Try.prog 75 sig75 F75 :=
  ok_of (l := [(98, c98)]) mixed (.add (f := 98) (c := c98) ok98 (by kernel_rfl) .nil) (inl := fun _ => false) (by kernel_rfl)
theorem ok30 : FnOk Try.prog 30 sig30 F30 :=
  ok_of (l := []) mixed .nil (inl := fun _ => false) (by kernel_rfl)
theorem ok76 : FnOk Try.prog 76 sig76 F76 :=
  ok_of (l := []) mixed .nil (inl := fun _ => false) (by kernel_rfl)
theorem ok32 : FnOk Try.prog 32 sig32 F32 :=
  ok_of (l := [(75, c75), (66, c66), (30, c30), (76, c76), (16, c16)]) mixed (.add (f := 75) (c := c75) ok75 (by kernel_rfl) (.add (f := 66) (c := c66) ok66 (by kernel_rfl) (.add (f := 30) (c := c30) ok30 (by kernel_rfl) (.add (f := 76) (c := c76) ok76 (by kernel_rfl) (.add (f := 16) (c := c16) ok16 (by kernel_rfl) .nil))))) (inl := fun _ => false) (by kernel_rfl)
theorem ok29 : FnOk Try.prog 29 sig29 F29 :=
  ok_of (l := [(32, c32), (21, c21), (30, c30)]) mixed (.add (f := 32) (c := c32) ok32 (by kernel_rfl) (.add (f := 21) (c := c21) ok21 (by kernel_rfl) (.add (f := 30) (c := c30) ok30 (by kernel_rfl) .nil))) (inl := fun _ => false) (by kernel_rfl)
theorem ok31 : FnOk Try.prog 31 sig31 F31 :=
  ok_of (l := []) mixed .nil (inl := fun _ => false) (by kernel_rfl)
theorem ok124 : FnOk Try.prog 124 sig124 F124 :=
  ok_of (l := [(19, c19), (18, c18)]) mixed (.add (f := 19) (c := c19) ok19 (by kernel_rfl) (.add (f := 18) (c := c18) ok18 (by kernel_rfl) .nil)) (inl := fun _ => false) (by kernel_rfl)
theorem ok77 : FnOk Try.prog 77 sig77 F77 :=
  ok_of (l := [(124, c124)]) mixed (.add (f := 124) (c := c124) ok124 (by kernel_rfl) .nil) (inl := fun _ => false) (by kernel_rfl)
theorem ok33 : FnOk Try.prog 33 sig33 F33 :=
  ok_of (l := [(77, c77)]) mixed (.add (f := 77) (c := c77) ok77 (by kernel_rfl) .nil) (inl := fun _ => false) (by kernel_rfl)
theorem ok34 : FnOk Try.prog 34 sig34 F34 :=
  ok_of (l := [(71, c71), (31, c31), (22, c22)]) mixed (.add (f := 71) (c := c71) ok71 (by kernel_rfl) (.add (f := 31) (c := c31) ok31 (by kernel_rfl) (.add (f := 22) (c := c22) ok22 (by kernel_rfl) .nil))) (inl := fun _ => false) (by kernel_rfl)
theorem ok5 : FnOk Try.prog 5 sig5 F5 :=
  ok_of (l := [(28, c28), (29, c29), (30, c30), (31, c31), (32, c32), (33, c33), (34, c34), (21, c21)]) mixed (.add (f := 28) (c := c28) ok28 (by kernel_rfl) (.add (f := 29) (c := c29) ok29 (by kernel_rfl) (.add (f := 30) (c := c30) ok30 (by kernel_rfl) (.add (f := 31) (c := c31) ok31 (by kernel_rfl) (.add (f := 32) (c := c32) ok32 (by kernel_rfl) (.add (f := 33) (c := c33) ok33 (by kernel_rfl) (.add (f := 34) (c := c34) ok34 (by kernel_rfl) (.add (f := 21) (c := c21) ok21 (by kernel_rfl) .nil)))))))) (inl := fun _ => false) (by kernel_rfl)
end Go.Proofs.Ytdjknicjnaiomaa
