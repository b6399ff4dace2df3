/-
  Contracts of the functions that the laws reach, each by what its text is reckoned to.
-/
import Derived.Test.YtmglkddddpipgaaP4
import Derived.Test.YtmglkddddpipgaaRows
import Derived.Test.YtmglkddddpipgaaChecked
set_option linter.unusedVariables false
set_option linter.unusedSimpArgs false
namespace Go.Proofs.Ytmglkddddpipgaa
open Sx Go.RowKit Go.ChangeShapes

theorem own : ownKnob Try.prog.godebug = none := by kernel_rfl
theorem laidOut : laidOutB Try.prog = true := by kernel_rfl
theorem mixed : Try.prog.follows .mixedOrders = true := by kernel_rfl
def locA : List (Nat × ArT) := [(0, T0), (1, T1), (2, T2), (3, T3)]
theorem wf_bs {a : List Int} (h : Wf .str a) : IsB a := fun c hc => by
  have := h.2 c hc
  omega
theorem wf_acts {l : List ActD} (h : Wf (.sl AcT) l) : AsB l := fun x hx => by
  obtain ⟨_, h2, h3, _, h5, _⟩ := h.2 x hx; refine ⟨wf_bs h2, wf_bs h3, ?_⟩
  have h6 : x.2.2.2.2.1 ≤ IntKind.i64.max := h5.2
  simp [IntKind.max, IntKind.signed, IntKind.bits] at h6
  omega
theorem ok14 : FnOkX Try.prog 14 sig14 F14 :=
  ok_of (l := []) mixed .nil (inl := fun _ => false) (nop := false) (unr := fun _ => false) (mt := fun _ => false) (loc := []) (.inl rfl) (by kernel_rfl)
theorem ok16 : FnOkX Try.prog 16 sig16 F16 :=
  ok_of (l := []) mixed .nil (inl := fun _ => false) (nop := false) (unr := fun _ => false) (mt := fun _ => false) (loc := []) (.inl rfl) (by kernel_rfl)
theorem ok55 : FnOkX Try.prog 55 sig55 F55 :=
  ok_of (l := []) mixed .nil (inl := fun _ => false) (nop := false) (unr := fun _ => false) (mt := fun _ => false) (loc := []) (.inl rfl) (by kernel_rfl)
theorem ok56 : FnOkX Try.prog 56 sig56 F56 :=
  ok_of (l := []) mixed .nil (inl := fun _ => false) (nop := false) (unr := fun _ => false) (mt := fun _ => false) (loc := []) (.inl rfl) (by kernel_rfl)
theorem ok57 : FnOkX Try.prog 57 sig57 F57 :=
  ok_of (l := []) mixed .nil (inl := fun _ => false) (nop := false) (unr := fun _ => false) (mt := fun _ => false) (loc := []) (.inl rfl) (by kernel_rfl)
theorem ok58 : FnOkX Try.prog 58 sig58 F58 :=
  ok_of (l := []) mixed .nil (inl := fun _ => false) (nop := false) (unr := fun _ => false) (mt := fun _ => false) (loc := []) (.inl rfl) (by kernel_rfl)
theorem ok22 : FnOkX Try.prog 22 sig22 F22 :=
  ok_of (l := [(55, c55), (56, c56), (57, c57), (19, c19), (58, c58)]) mixed (.add (f := 55) (c := c55) ok55 (by kernel_rfl) (.add (f := 56) (c := c56) ok56 (by kernel_rfl) (.add (f := 57) (c := c57) ok57 (by kernel_rfl) (.add (f := 19) (c := c19) ok19 (by kernel_rfl) (.add (f := 58) (c := c58) ok58 (by kernel_rfl) .nil))))) (inl := fun _ => false) (nop := false) (unr := fun _ => false) (mt := fun _ => false) (loc := []) (.inl rfl) (by kernel_rfl)
theorem ok25 : FnOkX Try.prog 25 sig25 F25 :=
  ok_of (l := [(55, c55), (56, c56), (58, c58)]) mixed (.add (f := 55) (c := c55) ok55 (by kernel_rfl) (.add (f := 56) (c := c56) ok56 (by kernel_rfl) (.add (f := 58) (c := c58) ok58 (by kernel_rfl) .nil))) (inl := fun _ => false) (nop := false) (unr := fun _ => false) (mt := fun _ => false) (loc := []) (.inl rfl) (by kernel_rfl)
theorem ok26 : FnOkX Try.prog 26 sig26 F26 :=
  ok_of (l := [(55, c55), (58, c58), (50, c50), (52, c52)]) mixed (.add (f := 55) (c := c55) ok55 (by kernel_rfl) (.add (f := 58) (c := c58) ok58 (by kernel_rfl) (.add (f := 50) (c := c50) ok50 (by kernel_rfl) (.add (f := 52) (c := c52) ok52 (by kernel_rfl) .nil)))) (inl := fun _ => false) (nop := false) (unr := fun _ => false) (mt := fun _ => false) (loc := []) (.inl rfl) (by kernel_rfl)
theorem ok51 : FnOkX Try.prog 51 sig51 F51 :=
  ok_of (l := []) mixed .nil (inl := fun _ => false) (nop := false) (unr := fun _ => false) (mt := fun _ => false) (loc := []) (.inl rfl) (by kernel_rfl)
theorem ok54 : FnOkX Try.prog 54 sig54 F54 :=
  ok_of (l := []) mixed .nil (inl := fun _ => false) (nop := false) (unr := fun _ => false) (mt := fun _ => false) (loc := []) (.inl rfl) (by kernel_rfl)
theorem ok21 : FnOkX Try.prog 21 sig21 F21 :=
  ok_of (l := [(50, c50), (51, c51), (52, c52), (53, c53), (54, c54)]) mixed (.add (f := 50) (c := c50) ok50 (by kernel_rfl) (.add (f := 51) (c := c51) ok51 (by kernel_rfl) (.add (f := 52) (c := c52) ok52 (by kernel_rfl) (.add (f := 53) (c := c53) ok53 (by kernel_rfl) (.add (f := 54) (c := c54) ok54 (by kernel_rfl) .nil))))) (inl := fun _ => false) (nop := false) (unr := fun _ => false) (mt := fun _ => false) (loc := []) (.inl rfl) (by kernel_rfl)
theorem ok23 : FnOkX Try.prog 23 sig23 F23 :=
  ok_of (l := [(56, c56)]) mixed (.add (f := 56) (c := c56) ok56 (by kernel_rfl) .nil) (inl := fun _ => false) (nop := false) (unr := fun _ => false) (mt := fun _ => false) (loc := []) (.inl rfl) (by kernel_rfl)
theorem ok15 : FnOkX Try.prog 15 sig15 F15 :=
  ok_of (l := [(16, c16), (22, c22), (25, c25), (26, c26), (21, c21), (23, c23), (18, c18)]) mixed (.add (f := 16) (c := c16) ok16 (by kernel_rfl) (.add (f := 22) (c := c22) ok22 (by kernel_rfl) (.add (f := 25) (c := c25) ok25 (by kernel_rfl) (.add (f := 26) (c := c26) ok26 (by kernel_rfl) (.add (f := 21) (c := c21) ok21 (by kernel_rfl) (.add (f := 23) (c := c23) ok23 (by kernel_rfl) (.add (f := 18) (c := c18) ok18 (by kernel_rfl) .nil))))))) (inl := fun _ => false) (nop := false) (unr := fun _ => false) (mt := fun _ => false) (loc := locA) (.inr ⟨rfl, rfl⟩) (by kernel_rfl)
theorem ok48 : FnOkX Try.prog 48 sig48 F48 :=
  ok_of (l := []) mixed .nil (inl := fun _ => false) (nop := false) (unr := fun _ => false) (mt := fun _ => false) (loc := []) (.inl rfl) (by kernel_rfl)
theorem ok131 : FnOkX Try.prog 131 sig131 F131 :=
  ok_of (l := []) mixed .nil (inl := fun _ => false) (nop := false) (unr := fun _ => false) (mt := fun _ => false) (loc := []) (.inl rfl) (by kernel_rfl)
theorem ok132 : FnOkX Try.prog 132 sig132 F132 :=
  ok_of (l := [(131, c131)]) mixed (.add (f := 131) (c := c131) ok131 (by kernel_rfl) .nil) (inl := fun _ => false) (nop := false) (unr := fun _ => false) (mt := fun _ => false) (loc := []) (.inl rfl) (by kernel_rfl)
theorem ok111 : FnOkX Try.prog 111 sig111 F111 :=
  ok_of (l := [(131, c131), (132, c132)]) mixed (.add (f := 131) (c := c131) ok131 (by kernel_rfl) (.add (f := 132) (c := c132) ok132 (by kernel_rfl) .nil)) (inl := fun _ => false) (nop := false) (unr := fun _ => false) (mt := fun _ => false) (loc := []) (.inl rfl) (by kernel_rfl)
theorem ok106 : FnOkX Try.prog 106 sig106 F106 :=
  ok_of (l := [(111, c111)]) mixed (.add (f := 111) (c := c111) ok111 (by kernel_rfl) .nil) (inl := fun _ => false) (nop := false) (unr := fun _ => false) (mt := fun _ => false) (loc := []) (.inl rfl) (by kernel_rfl)
theorem ok105 : FnOkX Try.prog 105 sig105 F105 :=
  ok_of (l := [(106, c106)]) mixed (.add (f := 106) (c := c106) ok106 (by kernel_rfl) .nil) (inl := fun _ => false) (nop := false) (unr := fun _ => false) (mt := fun _ => false) (loc := []) (.inl rfl) (by kernel_rfl)
theorem ok130 : FnOkX Try.prog 130 sig130 F130 :=
  ok_of (l := [(111, c111)]) mixed (.add (f := 111) (c := c111) ok111 (by kernel_rfl) .nil) (inl := fun _ => false) (nop := false) (unr := fun _ => false) (mt := fun _ => false) (loc := []) (.inl rfl) (by kernel_rfl)
theorem ok107 : FnOkX Try.prog 107 sig107 F107 :=
  ok_of (l := [(130, c130)]) mixed (.add (f := 130) (c := c130) ok130 (by kernel_rfl) .nil) (inl := fun _ => false) (nop := false) (unr := fun _ => false) (mt := fun _ => false) (loc := []) (.inl rfl) (by kernel_rfl)
theorem ok108 : FnOkX Try.prog 108 sig108 F108 :=
  ok_of (l := []) mixed .nil (inl := fun _ => false) (nop := false) (unr := fun _ => false) (mt := fun _ => false) (loc := []) (.inl rfl) (by kernel_rfl)
theorem ok109 : FnOkX Try.prog 109 sig109 F109 :=
  ok_of (l := []) mixed .nil (inl := fun _ => false) (nop := false) (unr := fun _ => false) (mt := fun _ => false) (loc := []) (.inl rfl) (by kernel_rfl)
theorem ok110 : FnOkX Try.prog 110 sig110 F110 :=
  ok_of (l := []) mixed .nil (inl := fun _ => false) (nop := false) (unr := fun _ => false) (mt := fun n => n == 1000061) (loc := []) (.inl rfl) (by kernel_rfl)
theorem ok80 : FnOkX Try.prog 80 sig80 F80 :=
  ok_of (l := [(105, c105), (106, c106), (107, c107), (108, c108), (109, c109), (110, c110)]) mixed (.add (f := 105) (c := c105) ok105 (by kernel_rfl) (.add (f := 106) (c := c106) ok106 (by kernel_rfl) (.add (f := 107) (c := c107) ok107 (by kernel_rfl) (.add (f := 108) (c := c108) ok108 (by kernel_rfl) (.add (f := 109) (c := c109) ok109 (by kernel_rfl) (.add (f := 110) (c := c110) ok110 (by kernel_rfl) .nil)))))) (inl := fun _ => false) (nop := false) (unr := fun _ => false) (mt := fun _ => false) (loc := []) (.inl rfl) (by kernel_rfl)
theorem ok81 : FnOkX Try.prog 81 sig81 F81 :=
  ok_of (l := [(105, c105), (108, c108), (110, c110)]) mixed (.add (f := 105) (c := c105) ok105 (by kernel_rfl) (.add (f := 108) (c := c108) ok108 (by kernel_rfl) (.add (f := 110) (c := c110) ok110 (by kernel_rfl) .nil))) (inl := fun _ => false) (nop := false) (unr := fun _ => false) (mt := fun _ => false) (loc := []) (.inl rfl) (by kernel_rfl)
theorem ok82 : FnOkX Try.prog 82 sig82 F82 :=
  ok_of (l := [(105, c105), (108, c108), (110, c110)]) mixed (.add (f := 105) (c := c105) ok105 (by kernel_rfl) (.add (f := 108) (c := c108) ok108 (by kernel_rfl) (.add (f := 110) (c := c110) ok110 (by kernel_rfl) .nil))) (inl := fun _ => false) (nop := false) (unr := fun _ => false) (mt := fun _ => false) (loc := []) (.inl rfl) (by kernel_rfl)
theorem ok83 : FnOkX Try.prog 83 sig83 F83 :=
  ok_of (l := [(108, c108), (106, c106)]) mixed (.add (f := 108) (c := c108) ok108 (by kernel_rfl) (.add (f := 106) (c := c106) ok106 (by kernel_rfl) .nil)) (inl := fun _ => false) (nop := false) (unr := fun _ => false) (mt := fun _ => false) (loc := []) (.inl rfl) (by kernel_rfl)
theorem ok84 : FnOkX Try.prog 84 sig84 F84 :=
  ok_of (l := [(105, c105), (108, c108), (109, c109)]) mixed (.add (f := 105) (c := c105) ok105 (by kernel_rfl) (.add (f := 108) (c := c108) ok108 (by kernel_rfl) (.add (f := 109) (c := c109) ok109 (by kernel_rfl) .nil))) (inl := fun _ => false) (nop := false) (unr := fun _ => false) (mt := fun _ => false) (loc := []) (.inl rfl) (by kernel_rfl)
theorem ok85 : FnOkX Try.prog 85 sig85 F85 :=
  ok_of (l := [(105, c105), (108, c108), (109, c109)]) mixed (.add (f := 105) (c := c105) ok105 (by kernel_rfl) (.add (f := 108) (c := c108) ok108 (by kernel_rfl) (.add (f := 109) (c := c109) ok109 (by kernel_rfl) .nil))) (inl := fun _ => false) (nop := false) (unr := fun _ => false) (mt := fun _ => false) (loc := []) (.inl rfl) (by kernel_rfl)
theorem ok86 : FnOkX Try.prog 86 sig86 F86 :=
  ok_of (l := [(111, c111), (110, c110)]) mixed (.add (f := 111) (c := c111) ok111 (by kernel_rfl) (.add (f := 110) (c := c110) ok110 (by kernel_rfl) .nil)) (inl := fun _ => false) (nop := false) (unr := fun _ => false) (mt := fun _ => false) (loc := []) (.inl rfl) (by kernel_rfl)
theorem ok49 : FnOkX Try.prog 49 sig49 F49 :=
  ok_of (l := [(80, c80), (81, c81), (82, c82), (83, c83), (84, c84), (85, c85), (86, c86)]) mixed (.add (f := 80) (c := c80) ok80 (by kernel_rfl) (.add (f := 81) (c := c81) ok81 (by kernel_rfl) (.add (f := 82) (c := c82) ok82 (by kernel_rfl) (.add (f := 83) (c := c83) ok83 (by kernel_rfl) (.add (f := 84) (c := c84) ok84 (by kernel_rfl) (.add (f := 85) (c := c85) ok85 (by kernel_rfl) (.add (f := 86) (c := c86) ok86 (by kernel_rfl) .nil))))))) (inl := fun _ => false) (nop := false) (unr := fun _ => false) (mt := fun _ => false) (loc := []) (.inl rfl) (by kernel_rfl)
theorem ok44 : FnOkX Try.prog 44 sig44 F44 :=
  ok_of (l := [(55, c55), (56, c56), (58, c58), (54, c54)]) mixed (.add (f := 55) (c := c55) ok55 (by kernel_rfl) (.add (f := 56) (c := c56) ok56 (by kernel_rfl) (.add (f := 58) (c := c58) ok58 (by kernel_rfl) (.add (f := 54) (c := c54) ok54 (by kernel_rfl) .nil)))) (inl := fun _ => false) (nop := false) (unr := fun _ => false) (mt := fun _ => false) (loc := []) (.inl rfl) (by kernel_rfl)
theorem ok45 : FnOkX Try.prog 45 sig45 F45 :=
  ok_of (l := [(55, c55), (56, c56), (57, c57), (58, c58), (51, c51)]) mixed (.add (f := 55) (c := c55) ok55 (by kernel_rfl) (.add (f := 56) (c := c56) ok56 (by kernel_rfl) (.add (f := 57) (c := c57) ok57 (by kernel_rfl) (.add (f := 58) (c := c58) ok58 (by kernel_rfl) (.add (f := 51) (c := c51) ok51 (by kernel_rfl) .nil))))) (inl := fun _ => false) (nop := false) (unr := fun _ => false) (mt := fun _ => false) (loc := []) (.inl rfl) (by kernel_rfl)
theorem ok46 : FnOkX Try.prog 46 sig46 F46 :=
  ok_of (l := [(55, c55), (56, c56), (58, c58), (51, c51), (52, c52)]) mixed (.add (f := 55) (c := c55) ok55 (by kernel_rfl) (.add (f := 56) (c := c56) ok56 (by kernel_rfl) (.add (f := 58) (c := c58) ok58 (by kernel_rfl) (.add (f := 51) (c := c51) ok51 (by kernel_rfl) (.add (f := 52) (c := c52) ok52 (by kernel_rfl) .nil))))) (inl := fun _ => false) (nop := false) (unr := fun _ => false) (mt := fun _ => false) (loc := []) (.inl rfl) (by kernel_rfl)
theorem ok31 : FnOkX Try.prog 31 sig31 F31 :=
  ok_of (l := []) mixed .nil (inl := fun _ => false) (nop := false) (unr := fun _ => false) (mt := fun _ => false) (loc := []) (.inl rfl) (by kernel_rfl)
theorem ok47 : FnOkX Try.prog 47 sig47 F47 :=
  ok_of (l := []) mixed .nil (inl := fun _ => false) (nop := false) (unr := fun _ => false) (mt := fun _ => false) (loc := []) (.inl rfl) (by kernel_rfl)
theorem ok17 : FnOkX Try.prog 17 sig17 F17 :=
  ok_of (l := [(22, c22), (44, c44), (25, c25), (26, c26), (45, c45), (46, c46), (31, c31), (47, c47), (21, c21)]) mixed (.add (f := 22) (c := c22) ok22 (by kernel_rfl) (.add (f := 44) (c := c44) ok44 (by kernel_rfl) (.add (f := 25) (c := c25) ok25 (by kernel_rfl) (.add (f := 26) (c := c26) ok26 (by kernel_rfl) (.add (f := 45) (c := c45) ok45 (by kernel_rfl) (.add (f := 46) (c := c46) ok46 (by kernel_rfl) (.add (f := 31) (c := c31) ok31 (by kernel_rfl) (.add (f := 47) (c := c47) ok47 (by kernel_rfl) (.add (f := 21) (c := c21) ok21 (by kernel_rfl) .nil))))))))) (inl := fun _ => false) (nop := false) (unr := fun _ => false) (mt := fun _ => false) (loc := []) (.inl rfl) (by kernel_rfl)
theorem ok20 : FnOkX Try.prog 20 sig20 F20 :=
  ok_of (l := [(48, c48), (16, c16), (49, c49), (17, c17)]) mixed (.add (f := 48) (c := c48) ok48 (by kernel_rfl) (.add (f := 16) (c := c16) ok16 (by kernel_rfl) (.add (f := 49) (c := c49) ok49 (by kernel_rfl) (.add (f := 17) (c := c17) ok17 (by kernel_rfl) .nil)))) (inl := fun _ => false) (nop := false) (unr := fun _ => false) (mt := fun _ => false) (loc := []) (.inl rfl) (by kernel_rfl)
theorem ok24 : FnOkX Try.prog 24 sig24 F24 :=
  ok_of (l := [(55, c55), (56, c56)]) mixed (.add (f := 55) (c := c55) ok55 (by kernel_rfl) (.add (f := 56) (c := c56) ok56 (by kernel_rfl) .nil)) (inl := fun _ => false) (nop := false) (unr := fun _ => false) (mt := fun _ => false) (loc := []) (.inl rfl) (by kernel_rfl)
theorem ok59 : FnOkX Try.prog 59 sig59 F59 :=
  ok_of (l := []) mixed .nil (inl := fun _ => false) (nop := false) (unr := fun _ => false) (mt := fun _ => false) (loc := []) (.inl rfl) (by kernel_rfl)
theorem ok27 : FnOkX Try.prog 27 sig27 F27 :=
  ok_of (l := [(59, c59)]) mixed (.add (f := 59) (c := c59) ok59 (by kernel_rfl) .nil) (inl := fun _ => false) (nop := false) (unr := fun _ => false) (mt := fun _ => false) (loc := []) (.inl rfl) (by kernel_rfl)
end Go.Proofs.Ytmglkddddpipgaa
