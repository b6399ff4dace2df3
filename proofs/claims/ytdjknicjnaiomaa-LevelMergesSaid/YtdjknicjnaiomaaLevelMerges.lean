/-
  The statement LevelMerges is true for every input, without conditions.
-/
import Derived.Test.YtdjknicjnaiomaaL4
set_option linter.unusedVariables false
set_option linter.unusedSimpArgs false
/- Contracts of the functions that the laws of level reach, each by what its text is reckoned to. -/
namespace Go.Proofs.Ytdjknicjnaiomaa
open Go.Proofs.Ytdjknicjnaiomaa.Sx Go.RowKit Go.ChangeShapes

theorem own : ownKnob Try.prog.godebug = none := by kernel_rfl
theorem laidOut : laidOutB Try.prog = true := by kernel_rfl
theorem mixed : Try.prog.follows .mixedOrders = true := by kernel_rfl
theorem ok53 : FnOk Try.prog 53 sig53 F53 :=
  ok_of (l := []) mixed .nil (inl := fun f => f == 107 || f == 139 || f == 140 || f == 108 || f == 110 || f == 111 || f == 115 || f == 141) (nop := false) (unr := fun _ => false) (mt := fun _ => false) (by kernel_rfl)
theorem ok57 : FnOk Try.prog 57 sig57 F57 :=
  ok_of (l := []) mixed .nil (inl := fun f => f == 107 || f == 139 || f == 140 || f == 108 || f == 110 || f == 111 || f == 115 || f == 141) (nop := false) (unr := fun _ => false) (mt := fun _ => false) (by kernel_rfl)
theorem ok62 : FnOk Try.prog 62 sig62 F62 :=
  ok_of (l := []) mixed .nil (inl := fun f => f == 107 || f == 139 || f == 140 || f == 108 || f == 110 || f == 111 || f == 115 || f == 141) (nop := false) (unr := fun _ => false) (mt := fun _ => false) (by kernel_rfl)
theorem ok101 : FnOk Try.prog 101 sig101 F101 :=
  ok_of (l := []) mixed .nil (inl := fun f => f == 107 || f == 139 || f == 140 || f == 108 || f == 110 || f == 111 || f == 115 || f == 141) (nop := false) (unr := fun _ => false) (mt := fun _ => false) (by kernel_rfl)
theorem ok102 : FnOk Try.prog 102 sig102 F102 :=
  ok_of (l := []) mixed .nil (inl := fun f => f == 107 || f == 139 || f == 140 || f == 108 || f == 110 || f == 111 || f == 115 || f == 141) (nop := false) (unr := fun _ => false) (mt := fun _ => false) (by kernel_rfl)
theorem ok114 : FnOk Try.prog 114 sig114 F114 :=
  ok_of (l := []) mixed .nil (inl := fun f => f == 107 || f == 139 || f == 140 || f == 108 || f == 110 || f == 111 || f == 115 || f == 141) (nop := false) (unr := fun _ => false) (mt := fun _ => false) (by kernel_rfl)
theorem ok58 : FnOk Try.prog 58 sig58 F58 :=
  ok_of (l := [(114, c114), (102, c102)]) mixed (.add (f := 114) (c := c114) ok114 (by kernel_rfl) (.add (f := 102) (c := c102) ok102 (by kernel_rfl) .nil)) (inl := fun f => f == 107 || f == 139 || f == 140 || f == 108 || f == 110 || f == 111 || f == 115 || f == 141) (nop := false) (unr := fun _ => false) (mt := fun _ => false) (by kernel_rfl)
theorem ok109 : FnOk Try.prog 109 sig109 F109 :=
  ok_of (l := []) mixed .nil (inl := fun f => f == 107 || f == 139 || f == 140 || f == 108 || f == 110 || f == 111 || f == 115 || f == 141) (nop := false) (unr := fun _ => false) (mt := fun _ => false) (by kernel_rfl)
theorem ok103 : FnOk Try.prog 103 sig103 F103 :=
  ok_ofM (l := [(109, c109)]) mixed (.add (f := 109) (c := c109) ok109 (by kernel_rfl) .nil) sort_mfn (by kernel_rfl) (inl := fun _ => false) (nop := false) (unr := fun _ => false) (mt := fun f => f == 109) (by kernel_rfl)
theorem ok113 : FnOk Try.prog 113 sig113 F113 :=
  ok_of (l := []) mixed .nil (inl := fun f => f == 107 || f == 139 || f == 140 || f == 108 || f == 110 || f == 111 || f == 115 || f == 141) (nop := false) (unr := fun _ => false) (mt := fun _ => false) (by kernel_rfl)
theorem ok104 : FnOk Try.prog 104 sig104 F104 :=
  ok_of (l := [(109, c109)]) mixed (.add (f := 109) (c := c109) ok109 (by kernel_rfl) .nil) (inl := fun f => f == 107 || f == 139 || f == 140 || f == 108 || f == 110 || f == 111 || f == 115 || f == 141) (nop := false) (unr := fun _ => false) (mt := fun f => f == 109) (by kernel_rfl)
theorem ok105 : FnOk Try.prog 105 sig105 F105 :=
  ok_of (l := []) mixed .nil (inl := fun f => f == 107 || f == 139 || f == 140 || f == 108 || f == 110 || f == 111 || f == 115 || f == 141) (nop := false) (unr := fun _ => false) (mt := fun _ => false) (by kernel_rfl)
theorem ok106 : FnOk Try.prog 106 sig106 F106 :=
  ok_of (l := []) mixed .nil (inl := fun f => f == 107 || f == 139 || f == 140 || f == 108 || f == 110 || f == 111 || f == 115 || f == 141) (nop := false) (unr := fun _ => false) (mt := fun _ => false) (by kernel_rfl)
theorem ok112 : FnOk Try.prog 112 sig112 F112 :=
  ok_of (l := [(102, c102)]) mixed (.add (f := 102) (c := c102) ok102 (by kernel_rfl) .nil) (inl := fun f => f == 107 || f == 139 || f == 140 || f == 108 || f == 110 || f == 111 || f == 115 || f == 141) (nop := false) (unr := fun _ => false) (mt := fun _ => false) (by kernel_rfl)
theorem ok59 : FnOk Try.prog 59 sig59 F59 :=
  ok_of (l := [(58, c58), (103, c103), (113, c113)]) mixed (.add (f := 58) (c := c58) ok58 (by kernel_rfl) (.add (f := 103) (c := c103) ok103 (by kernel_rfl) (.add (f := 113) (c := c113) ok113 (by kernel_rfl) .nil))) (inl := fun f => f == 107 || f == 139 || f == 140 || f == 108 || f == 110 || f == 111 || f == 115 || f == 141) (nop := false) (unr := fun _ => false) (mt := fun f => f == 103) (by kernel_rfl)
theorem ok56 : FnOk Try.prog 56 sig56 F56 :=
  ok_of (l := [(58, c58), (103, c103), (104, c104), (105, c105), (106, c106), (102, c102), (109, c109), (112, c112), (113, c113)]) mixed (.add (f := 58) (c := c58) ok58 (by kernel_rfl) (.add (f := 103) (c := c103) ok103 (by kernel_rfl) (.add (f := 104) (c := c104) ok104 (by kernel_rfl) (.add (f := 105) (c := c105) ok105 (by kernel_rfl) (.add (f := 106) (c := c106) ok106 (by kernel_rfl) (.add (f := 102) (c := c102) ok102 (by kernel_rfl) (.add (f := 109) (c := c109) ok109 (by kernel_rfl) (.add (f := 112) (c := c112) ok112 (by kernel_rfl) (.add (f := 113) (c := c113) ok113 (by kernel_rfl) .nil))))))))) (inl := fun f => f == 107 || f == 139 || f == 140 || f == 108 || f == 110 || f == 111 || f == 115 || f == 141) (nop := false) (unr := fun _ => false) (mt := fun f => f == 104) (by kernel_rfl)
theorem ok54 : FnOk Try.prog 54 sig54 F54 :=
  ok_of (l := [(101, c101)]) mixed (.add (f := 101) (c := c101) ok101 (by kernel_rfl) .nil) (inl := fun f => f == 107 || f == 139 || f == 140 || f == 108 || f == 110 || f == 111 || f == 115 || f == 141) (nop := false) (unr := fun _ => false) (mt := fun _ => false) (by kernel_rfl)
theorem ok55 : FnOk Try.prog 55 sig55 F55 :=
  ok_of (l := [(56, c56), (62, c62), (102, c102)]) mixed (.add (f := 56) (c := c56) ok56 (by kernel_rfl) (.add (f := 62) (c := c62) ok62 (by kernel_rfl) (.add (f := 102) (c := c102) ok102 (by kernel_rfl) .nil))) (inl := fun f => f == 107 || f == 139 || f == 140 || f == 108 || f == 110 || f == 111 || f == 115 || f == 141) (nop := false) (unr := fun _ => false) (mt := fun _ => false) (by kernel_rfl)
theorem ok13 : FnOk Try.prog 13 sig13 F13 :=
  ok_of (l := [(53, c53), (55, c55), (54, c54), (56, c56), (57, c57), (58, c58), (59, c59)]) mixed (.add (f := 53) (c := c53) ok53 (by kernel_rfl) (.add (f := 55) (c := c55) ok55 (by kernel_rfl) (.add (f := 54) (c := c54) ok54 (by kernel_rfl) (.add (f := 56) (c := c56) ok56 (by kernel_rfl) (.add (f := 57) (c := c57) ok57 (by kernel_rfl) (.add (f := 58) (c := c58) ok58 (by kernel_rfl) (.add (f := 59) (c := c59) ok59 (by kernel_rfl) .nil))))))) (inl := fun f => f == 107 || f == 139 || f == 140 || f == 108 || f == 110 || f == 111 || f == 115 || f == 141) (nop := false) (unr := fun _ => false) (mt := fun _ => false) (by kernel_rfl)
end Go.Proofs.Ytdjknicjnaiomaa

/- The law LevelMerges: contracts and the row. -/
namespace Go.Proofs.Ytdjknicjnaiomaa
open Go.Proofs.Ytdjknicjnaiomaa.Sx Go.RowKit Go.ChangeShapes

theorem law13 (ds : List D) (ht : ds.map (·.t) = inL sig13) (hw : ∀ d ∈ ds, Wf d.t d.x) : F13 ds = some [⟨.bool, true⟩] := by
  have t0 : ds.map (·.t) = [.sl (.pair (.int .i64) (.pair (.int .i64) (.pair (.int .i64) (.pair (.str) (.str))))), .int .i64, .str] := ht
  obtain ⟨x0, ds1, rfl, t1⟩ := ds_cons t0
  obtain ⟨x1, ds2, rfl, t2⟩ := ds_cons t1
  obtain ⟨x2, ds3, rfl, t3⟩ := ds_cons t2
  obtain rfl := ds_nil t3

  exact f13 x0 x1 x2

set_option maxRecDepth 100000 in
theorem lifted13 (os : Os) (started : os.Started) (H : Type) (enc : TypeId × Value → H) :
    ReturnsInHanded {} Try.checked os 13 .any (Rows.levelMergesSpec.pre6 enc Try.prog Try.f13 Rows.levelMergesRow.domain false) (Rows.levelMergesSpec.post enc Try.prog Try.f13 false true false false) := by
  refine returnsInHanded_of_change (C := Try.checked) own started (by kernel_rfl) Try.func13
    (ChangeSpec.witness6 (enc := enc) (C := Try.checked) false ⟨#[], #[.slice none 0 0, .int .i64 0, .string .empty], []⟩ 8 (by kernel_rfl) (by kernel_rfl) (by kernel_rfl) (by kernel_rfl)) ?_
  intro W base args ds gs before hval hW _ _
  exact law_contract (P := Try.prog) (fn := Try.f13) (s := Rows.levelMergesSpec) ok13 laidOut (by kernel_rfl) rfl rfl Try.underlying4 law13 rfl
    (fun ds hl => by match ds, hl with | [_, _, _], _ => rfl) base args ds gs before hval hW

theorem levelMerges_holds : Rows.LevelMergesSaid :=
  OpenClaim.holds_of_wide 13 Try.f13 rfl rfl rfl rfl rfl rfl rfl ⟨rfl, rfl, rfl, rfl, rfl⟩ rfl rfl rfl rfl rfl (by kernel_rfl) Try.func13 (by kernel_rfl)
    (of_decide_eq_true (by kernel_rfl)) (by unfold Func.isWrapper; first | (rw [if_pos (by decide +kernel)]; kernel_rfl) | (rw [if_neg (by decide +kernel)]; exact ⟨rfl, rfl⟩))
    (fun os started H enc _ => lifted13 os started H enc)
end Go.Proofs.Ytdjknicjnaiomaa
