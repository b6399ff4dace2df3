/-
  Contracts of the program's functions that the laws BlockGets and BlockReads reach besides.
-/
import Derived.Test.YtdjknicjnaiomaaC2
set_option linter.unusedVariables false
set_option linter.unusedSimpArgs false
/- Contracts of the program's functions, each by what its text is reckoned to. -/
namespace Go.Proofs.Ytdjknicjnaiomaa
open Go.Proofs.Ytdjknicjnaiomaa.Sx Go.RowKit Go.ChangeShapes
theorem ok97 : FnOk Try.prog 97 sig97 F97 :=
  ok_of (l := [(129, c129), (30, c30), (43, c43)]) mixed (.add (f := 129) (c := c129) ok129 (by kernel_rfl) (.add (f := 30) (c := c30) ok30 (by kernel_rfl) (.add (f := 43) (c := c43) ok43 (by kernel_rfl) .nil))) (inl := fun _ => false) (by kernel_rfl)
theorem ok47 : FnOk Try.prog 47 sig47 F47 :=
  ok_of (l := [(90, c90), (97, c97), (98, c98)]) mixed (.add (f := 90) (c := c90) ok90 (by kernel_rfl) (.add (f := 97) (c := c97) ok97 (by kernel_rfl) (.add (f := 98) (c := c98) ok98 (by kernel_rfl) .nil))) (inl := fun _ => false) (by kernel_rfl)
theorem ok48 : FnOk Try.prog 48 sig48 F48 :=
  ok_of (l := [(92, c92), (44, c44), (33, c33), (34, c34), (21, c21)]) mixed (.add (f := 92) (c := c92) ok92 (by kernel_rfl) (.add (f := 44) (c := c44) ok44 (by kernel_rfl) (.add (f := 33) (c := c33) ok33 (by kernel_rfl) (.add (f := 34) (c := c34) ok34 (by kernel_rfl) (.add (f := 21) (c := c21) ok21 (by kernel_rfl) .nil))))) (inl := fun _ => false) (by kernel_rfl)
theorem ok49 : FnOk Try.prog 49 sig49 F49 :=
  ok_of (l := [(47, c47)]) mixed (.add (f := 47) (c := c47) ok47 (by kernel_rfl) .nil) (inl := fun f => f == 99 || f == 100) (by kernel_rfl)
theorem ok52 : FnOk Try.prog 52 sig52 F52 :=
  ok_of (l := [(18, c18)]) mixed (.add (f := 18) (c := c18) ok18 (by kernel_rfl) .nil) (inl := fun _ => false) (by kernel_rfl)
theorem ok50 : FnOk Try.prog 50 sig50 F50 :=
  ok_of (l := [(52, c52)]) mixed (.add (f := 52) (c := c52) ok52 (by kernel_rfl) .nil) (inl := fun _ => false) (by kernel_rfl)
theorem ok51 : FnOk Try.prog 51 sig51 F51 :=
  ok_of (l := []) mixed .nil (inl := fun _ => false) (by kernel_rfl)
theorem ok11 : FnOk Try.prog 11 sig11 F11 :=
  ok_of (l := [(29, c29), (47, c47), (48, c48), (49, c49), (50, c50), (51, c51), (52, c52)]) mixed (.add (f := 29) (c := c29) ok29 (by kernel_rfl) (.add (f := 47) (c := c47) ok47 (by kernel_rfl) (.add (f := 48) (c := c48) ok48 (by kernel_rfl) (.add (f := 49) (c := c49) ok49 (by kernel_rfl) (.add (f := 50) (c := c50) ok50 (by kernel_rfl) (.add (f := 51) (c := c51) ok51 (by kernel_rfl) (.add (f := 52) (c := c52) ok52 (by kernel_rfl) .nil))))))) (inl := fun _ => false) (by kernel_rfl)
theorem ok12 : FnOk Try.prog 12 sig12 F12 :=
  ok_of (l := [(28, c28), (29, c29), (33, c33), (32, c32), (47, c47), (50, c50), (49, c49), (52, c52), (21, c21)]) mixed (.add (f := 28) (c := c28) ok28 (by kernel_rfl) (.add (f := 29) (c := c29) ok29 (by kernel_rfl) (.add (f := 33) (c := c33) ok33 (by kernel_rfl) (.add (f := 32) (c := c32) ok32 (by kernel_rfl) (.add (f := 47) (c := c47) ok47 (by kernel_rfl) (.add (f := 50) (c := c50) ok50 (by kernel_rfl) (.add (f := 49) (c := c49) ok49 (by kernel_rfl) (.add (f := 52) (c := c52) ok52 (by kernel_rfl) (.add (f := 21) (c := c21) ok21 (by kernel_rfl) .nil))))))))) (inl := fun _ => false) (by kernel_rfl)
end Go.Proofs.Ytdjknicjnaiomaa
