/-
  Contracts of the program's functions that the law EditPuts reaches.
-/
import Derived.Test.YtdjknicjnaiomaaE4
import Derived.Test.YtdjknicjnaiomaaRows
set_option linter.unusedVariables false
set_option linter.unusedSimpArgs false
/- Contracts of the program's functions, each by what its text is reckoned to. -/
namespace Go.Proofs.Ytdjknicjnaiomaa
open Go.Proofs.Ytdjknicjnaiomaa.Sx Go.RowKit Go.ChangeShapes

theorem own : ownKnob Try.prog.godebug = none := by kernel_rfl
theorem laidOut : laidOutB Try.prog = true := by kernel_rfl
theorem mixed : Try.prog.follows .mixedOrders = true := by kernel_rfl
theorem ok35 : FnOk Try.prog 35 sig35 F35 :=
  ok_of (l := []) mixed .nil (inl := fun _ => false) (nop := false) (unr := fun _ => false) (by kernel_rfl)
theorem ok79 : FnOk Try.prog 79 sig79 F79 :=
  ok_of (l := []) mixed .nil (inl := fun _ => false) (nop := false) (unr := fun _ => false) (by kernel_rfl)
theorem ok114 : FnOk Try.prog 114 sig114 F114 :=
  ok_of (l := []) mixed .nil (inl := fun _ => false) (nop := false) (unr := fun _ => false) (by kernel_rfl)
theorem ok102 : FnOk Try.prog 102 sig102 F102 :=
  ok_of (l := []) mixed .nil (inl := fun _ => false) (nop := false) (unr := fun _ => false) (by kernel_rfl)
theorem ok58 : FnOk Try.prog 58 sig58 F58 :=
  ok_of (l := [(114, c114), (102, c102)]) mixed (.add (f := 114) (c := c114) ok114 (by kernel_rfl) (.add (f := 102) (c := c102) ok102 (by kernel_rfl) .nil)) (inl := fun _ => false) (nop := false) (unr := fun _ => false) (by kernel_rfl)
theorem ok37 : FnOk Try.prog 37 sig37 F37 :=
  ok_of (l := [(79, c79), (58, c58)]) mixed (.add (f := 79) (c := c79) ok79 (by kernel_rfl) (.add (f := 58) (c := c58) ok58 (by kernel_rfl) .nil)) (inl := fun f => f == 78 || f == 83 || f == 84 || f == 85 || f == 126) (nop := true) (unr := fun _ => false) (by kernel_rfl)
theorem ok66 : FnOk Try.prog 66 sig66 F66 :=
  ok_of (l := []) mixed .nil (inl := fun _ => false) (nop := false) (unr := fun _ => false) (by kernel_rfl)
theorem ok86 : FnOk Try.prog 86 sig86 F86 :=
  ok_of (l := [(66, c66)]) mixed (.add (f := 66) (c := c66) ok66 (by kernel_rfl) .nil) (inl := fun _ => false) (nop := false) (unr := fun _ => false) (by kernel_rfl)
theorem ok39 : FnOk Try.prog 39 sig39 F39 :=
  ok_of (l := [(37, c37), (66, c66), (86, c86)]) mixed (.add (f := 37) (c := c37) ok37 (by kernel_rfl) (.add (f := 66) (c := c66) ok66 (by kernel_rfl) (.add (f := 86) (c := c86) ok86 (by kernel_rfl) .nil))) (inl := fun f => f == 78 || f == 83 || f == 84 || f == 85 || f == 126) (nop := true) (unr := fun _ => false) (by kernel_rfl)
theorem ok69 : FnOk Try.prog 69 sig69 F69 :=
  ok_of (l := []) mixed .nil (inl := fun _ => false) (nop := false) (unr := fun _ => false) (by kernel_rfl)
theorem ok21 : FnOk Try.prog 21 sig21 F21 :=
  ok_of (l := [(69, c69)]) mixed (.add (f := 69) (c := c69) ok69 (by kernel_rfl) .nil) (inl := fun _ => false) (nop := false) (unr := fun _ => false) (by kernel_rfl)
theorem ok36 : FnOk Try.prog 36 sig36 F36 :=
  ok_of (l := [(39, c39), (21, c21)]) mixed (.add (f := 39) (c := c39) ok39 (by kernel_rfl) (.add (f := 21) (c := c21) ok21 (by kernel_rfl) .nil)) (inl := fun _ => false) (nop := false) (unr := fun _ => false) (by kernel_rfl)
theorem ok80 : FnOk Try.prog 80 sig80 F80 :=
  ok_of (l := []) mixed .nil (inl := fun _ => false) (nop := false) (unr := fun _ => false) (by kernel_rfl)
theorem ok82 : FnOk Try.prog 82 sig82 F82 :=
  ok_of (l := []) mixed .nil (inl := fun _ => false) (nop := false) (unr := fun _ => false) (by kernel_rfl)
theorem ok125 : FnOk Try.prog 125 sig125 F125 :=
  ok_of (l := []) mixed .nil (inl := fun _ => false) (nop := false) (unr := fun _ => false) (by kernel_rfl)
theorem ok81 : FnOk Try.prog 81 sig81 F81 :=
  ok_of (l := [(125, c125)]) mixed (.add (f := 125) (c := c125) ok125 (by kernel_rfl) .nil) (inl := fun _ => false) (nop := false) (unr := fun _ => false) (by kernel_rfl)
theorem ok101 : FnOk Try.prog 101 sig101 F101 :=
  ok_of (l := []) mixed .nil (inl := fun _ => false) (nop := false) (unr := fun _ => false) (by kernel_rfl)
theorem ok54 : FnOk Try.prog 54 sig54 F54 :=
  ok_of (l := [(101, c101)]) mixed (.add (f := 101) (c := c101) ok101 (by kernel_rfl) .nil) (inl := fun _ => false) (nop := false) (unr := fun _ => false) (by kernel_rfl)
theorem ok38 : FnOk Try.prog 38 sig38 F38 :=
  ok_of (l := [(80, c80), (82, c82), (81, c81), (54, c54)]) mixed (.add (f := 80) (c := c80) ok80 (by kernel_rfl) (.add (f := 82) (c := c82) ok82 (by kernel_rfl) (.add (f := 81) (c := c81) ok81 (by kernel_rfl) (.add (f := 54) (c := c54) ok54 (by kernel_rfl) .nil)))) (inl := fun _ => false) (nop := false) (unr := fun _ => false) (by kernel_rfl)
theorem ok87 : FnOk Try.prog 87 sig87 F87 :=
  ok_of (l := []) mixed .nil (inl := fun _ => false) (nop := false) (unr := fun _ => false) (by kernel_rfl)
theorem ok40 : FnOk Try.prog 40 sig40 F40 :=
  ok_of (l := [(87, c87)]) mixed (.add (f := 87) (c := c87) ok87 (by kernel_rfl) .nil) (inl := fun _ => false) (nop := false) (unr := fun _ => false) (by kernel_rfl)
theorem ok41 : FnOk Try.prog 41 sig41 F41 :=
  ok_of (l := []) mixed .nil (inl := fun _ => false) (nop := false) (unr := fun _ => false) (by kernel_rfl)
theorem ok71 : FnOk Try.prog 71 sig71 F71 :=
  FnOk.any (ok_rec (l := []) mixed .nil (inl := fun _ => false) (fun q hq => by cases hq) ⟨_, _, Try.func71, rfl, by kernel_rfl⟩ (by kernel_rfl)) any71
theorem ok127 : FnOk Try.prog 127 sig127 F127 :=
  ok_of (l := [(80, c80)]) mixed (.add (f := 80) (c := c80) ok80 (by kernel_rfl) .nil) (inl := fun _ => false) (nop := false) (unr := fun _ => false) (by kernel_rfl)
theorem ok120 : FnOk Try.prog 120 sig120 F120 :=
  ok_of (l := [(71, c71)]) mixed (.add (f := 71) (c := c71) ok71 (by kernel_rfl) .nil) (inl := fun _ => false) (nop := false) (unr := fun _ => false) (by kernel_rfl)
theorem ok128 : FnOk Try.prog 128 sig128 F128 :=
  ok_of (l := [(71, c71)]) mixed (.add (f := 71) (c := c71) ok71 (by kernel_rfl) .nil) (inl := fun _ => false) (nop := false) (unr := fun _ => false) (by kernel_rfl)
theorem ok88 : FnOk Try.prog 88 sig88 F88 :=
  ok_of (l := [(127, c127), (120, c120), (128, c128)]) mixed (.add (f := 127) (c := c127) ok127 (by kernel_rfl) (.add (f := 120) (c := c120) ok120 (by kernel_rfl) (.add (f := 128) (c := c128) ok128 (by kernel_rfl) .nil))) (inl := fun _ => false) (nop := false) (unr := fun _ => false) (by kernel_rfl)
theorem ok42 : FnOk Try.prog 42 sig42 F42 :=
  ok_of (l := [(71, c71), (88, c88)]) mixed (.add (f := 71) (c := c71) ok71 (by kernel_rfl) (.add (f := 88) (c := c88) ok88 (by kernel_rfl) .nil)) (inl := fun _ => false) (nop := false) (unr := fun _ => false) (by kernel_rfl)
theorem ok6 : FnOk Try.prog 6 sig6 F6 :=
  ok_of (l := [(35, c35), (36, c36), (37, c37), (38, c38), (39, c39), (40, c40), (41, c41), (42, c42), (21, c21)]) mixed (.add (f := 35) (c := c35) ok35 (by kernel_rfl) (.add (f := 36) (c := c36) ok36 (by kernel_rfl) (.add (f := 37) (c := c37) ok37 (by kernel_rfl) (.add (f := 38) (c := c38) ok38 (by kernel_rfl) (.add (f := 39) (c := c39) ok39 (by kernel_rfl) (.add (f := 40) (c := c40) ok40 (by kernel_rfl) (.add (f := 41) (c := c41) ok41 (by kernel_rfl) (.add (f := 42) (c := c42) ok42 (by kernel_rfl) (.add (f := 21) (c := c21) ok21 (by kernel_rfl) .nil))))))))) (inl := fun _ => false) (nop := false) (unr := fun _ => false) (by kernel_rfl)
end Go.Proofs.Ytdjknicjnaiomaa
