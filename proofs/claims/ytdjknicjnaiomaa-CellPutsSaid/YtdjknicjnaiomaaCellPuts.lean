/-
  The statement CellPuts is true for every input, without conditions.
-/
import Derived.Test.YtdjknicjnaiomaaD1
import Derived.Test.YtdjknicjnaiomaaRows
set_option linter.unusedVariables false
set_option linter.unusedSimpArgs false
/- CellPuts -/
namespace Go.Proofs.Ytdjknicjnaiomaa
open Go.Proofs.Ytdjknicjnaiomaa.Sx Go.RowKit Go.ChangeShapes

theorem own : ownKnob Try.prog.godebug = none := by kernel_rfl
theorem laidOut : laidOutB Try.prog = true := by kernel_rfl
theorem mixed : Try.prog.follows .mixedOrders = true := by kernel_rfl

theorem ok68 : FnOk Try.prog 68 sig68 F68 :=
  ok_of (l := []) mixed .nil (inl := fun _ => false) (by kernel_rfl)
theorem ok20 : FnOk Try.prog 20 sig20 F20 :=
  ok_of (l := [(68, c68)]) mixed (.add (f := 68) (c := c68) ok68 (by kernel_rfl) .nil) (inl := fun _ => false) (by kernel_rfl)
theorem ok66 : FnOk Try.prog 66 sig66 F66 :=
  ok_of (l := []) mixed .nil (inl := fun _ => false) (by kernel_rfl)
theorem ok65 : FnOk Try.prog 65 sig65 F65 :=
  ok_of (l := [(68, c68), (66, c66)]) mixed (.add (f := 68) (c := c68) ok68 (by kernel_rfl) (.add (f := 66) (c := c66) ok66 (by kernel_rfl) .nil)) (inl := fun _ => false) (by kernel_rfl)
theorem ok16 : FnOk Try.prog 16 sig16 F16 :=
  ok_of (l := [(20, c20), (65, c65), (66, c66)]) mixed (.add (f := 20) (c := c20) ok20 (by kernel_rfl) (.add (f := 65) (c := c65) ok65 (by kernel_rfl) (.add (f := 66) (c := c66) ok66 (by kernel_rfl) .nil))) (inl := fun _ => false) (by kernel_rfl)
theorem ok69 : FnOk Try.prog 69 sig69 F69 :=
  ok_of (l := []) mixed .nil (inl := fun _ => false) (by kernel_rfl)
theorem ok21 : FnOk Try.prog 21 sig21 F21 :=
  ok_of (l := [(69, c69)]) mixed (.add (f := 69) (c := c69) ok69 (by kernel_rfl) .nil) (inl := fun _ => false) (by kernel_rfl)
theorem ok15 : FnOk Try.prog 15 sig15 F15 :=
  ok_of (l := [(16, c16), (21, c21)]) mixed (.add (f := 16) (c := c16) ok16 (by kernel_rfl) (.add (f := 21) (c := c21) ok21 (by kernel_rfl) .nil)) (inl := fun _ => false) (by kernel_rfl)
theorem ok67 : FnOk Try.prog 67 sig67 F67 :=
  ok_of (l := []) mixed .nil (inl := fun _ => false) (by kernel_rfl)
theorem ok17 : FnOk Try.prog 17 sig17 F17 :=
  ok_of (l := [(67, c67)]) mixed (.add (f := 67) (c := c67) ok67 (by kernel_rfl) .nil) (inl := fun _ => false) (by kernel_rfl)
theorem ok18 : FnOk Try.prog 18 sig18 F18 :=
  ok_of (l := [(21, c21)]) mixed (.add (f := 21) (c := c21) ok21 (by kernel_rfl) .nil) (inl := fun _ => false) (by kernel_rfl)
theorem ok27 : FnOk Try.prog 27 sig27 F27 :=
  ok_of (l := []) mixed .nil (inl := fun _ => false) (by kernel_rfl)
theorem ok19 : FnOk Try.prog 19 sig19 F19 :=
  ok_of (l := [(27, c27)]) mixed (.add (f := 27) (c := c27) ok27 (by kernel_rfl) .nil) (inl := fun _ => false) (by kernel_rfl)
theorem ok71 : FnOk Try.prog 71 sig71 F71 :=
  FnOk.any (ok_rec (l := []) mixed .nil (inl := fun _ => false) (fun q hq => by cases hq) ⟨_, _, Try.func71, rfl, by kernel_rfl⟩ (by kernel_rfl)) any71
theorem ok120 : FnOk Try.prog 120 sig120 F120 :=
  ok_of (l := [(71, c71)]) mixed (.add (f := 71) (c := c71) ok71 (by kernel_rfl) .nil) (inl := fun _ => false) (by kernel_rfl)
theorem ok121 : FnOk Try.prog 121 sig121 F121 :=
  ok_of (l := []) mixed .nil (inl := fun _ => false) (by kernel_rfl)
theorem ok70 : FnOk Try.prog 70 sig70 F70 :=
  ok_of (l := [(120, c120), (121, c121)]) mixed (.add (f := 120) (c := c120) ok120 (by kernel_rfl) (.add (f := 121) (c := c121) ok121 (by kernel_rfl) .nil)) (inl := fun _ => false) (by kernel_rfl)
theorem ok22 : FnOk Try.prog 22 sig22 F22 :=
  ok_of (l := [(70, c70), (71, c71)]) mixed (.add (f := 70) (c := c70) ok70 (by kernel_rfl) (.add (f := 71) (c := c71) ok71 (by kernel_rfl) .nil)) (inl := fun _ => false) (by kernel_rfl)
theorem ok3 : FnOk Try.prog 3 sig3 F3 :=
  ok_of (l := [(15, c15), (16, c16), (17, c17), (18, c18), (19, c19), (20, c20), (22, c22), (21, c21)]) mixed (.add (f := 15) (c := c15) ok15 (by kernel_rfl) (.add (f := 16) (c := c16) ok16 (by kernel_rfl) (.add (f := 17) (c := c17) ok17 (by kernel_rfl) (.add (f := 18) (c := c18) ok18 (by kernel_rfl) (.add (f := 19) (c := c19) ok19 (by kernel_rfl) (.add (f := 20) (c := c20) ok20 (by kernel_rfl) (.add (f := 22) (c := c22) ok22 (by kernel_rfl) (.add (f := 21) (c := c21) ok21 (by kernel_rfl) .nil)))))))) (inl := fun _ => false) (by kernel_rfl)

theorem law3 (ds : List D) (ht : ds.map (·.t) = inL sig3) (hw : ∀ d ∈ ds, Wf d.t d.x) : F3 ds = some [⟨.bool, true⟩] := by
  have t0 : ds.map (·.t) = [.bool, .sl (.int .u8), .int .i64, .int .i64, .int .i64, .int .u32, .bool, .sl (.int .u8), .int .i64, .int .i64, .int .i64, .int .u32] := ht
  obtain ⟨x0, ds1, rfl, t1⟩ := ds_cons t0
  obtain ⟨x1, ds2, rfl, t2⟩ := ds_cons t1
  obtain ⟨x2, ds3, rfl, t3⟩ := ds_cons t2
  obtain ⟨x3, ds4, rfl, t4⟩ := ds_cons t3
  obtain ⟨x4, ds5, rfl, t5⟩ := ds_cons t4
  obtain ⟨x5, ds6, rfl, t6⟩ := ds_cons t5
  obtain ⟨x6, ds7, rfl, t7⟩ := ds_cons t6
  obtain ⟨x7, ds8, rfl, t8⟩ := ds_cons t7
  obtain ⟨x8, ds9, rfl, t9⟩ := ds_cons t8
  obtain ⟨x9, ds10, rfl, t10⟩ := ds_cons t9
  obtain ⟨x10, ds11, rfl, t11⟩ := ds_cons t10
  obtain ⟨x11, ds12, rfl, t12⟩ := ds_cons t11
  obtain rfl := ds_nil t12
  have h5 := wf_u32 (hw ⟨.int .u32, x5⟩ (by simp))
  exact f3 x0 x6 x1 x7 x2 x3 x4 x5 x8 x9 x10 x11 h5.1 h5.2

set_option maxRecDepth 100000 in
theorem lifted (os : Os) (started : os.Started) (H : Type) (enc : TypeId × Value → H) :
    ReturnsInHanded {} Try.checked os 3 .any (Rows.cellPutsSpec.pre6 enc Try.prog Try.f3 Rows.cellPutsRow.domain false) (Rows.cellPutsSpec.post enc Try.prog Try.f3 false true false false) := by
  refine returnsInHanded_of_change (C := Try.checked) own started (by kernel_rfl) Try.func3
    (ChangeSpec.witness6 (enc := enc) (C := Try.checked) false ⟨#[], #[.agg #[.bool false, .slice none 0 0, .int .i64 0, .int .i64 0, .int .i64 0, .int .u32 0], .agg #[.bool false, .slice none 0 0, .int .i64 0, .int .i64 0, .int .i64 0, .int .u32 0]], []⟩ 8 (by kernel_rfl) (by kernel_rfl) (by kernel_rfl) (by kernel_rfl)) ?_
  intro W base args ds gs before hval hW _ _
  exact law_contract (P := Try.prog) (fn := Try.f3) (s := Rows.cellPutsSpec) ok3 laidOut (by kernel_rfl) rfl rfl Try.underlying4 law3 rfl
    (fun ds hl => by match ds, hl with | [_, _], _ => rfl) base args ds gs before hval hW

theorem proved : Rows.CellPutsSaid :=
  OpenClaim.holds_of_wide 3 Try.f3 rfl rfl rfl rfl rfl rfl rfl ⟨rfl, rfl, rfl, rfl, rfl⟩ rfl rfl rfl rfl rfl (by kernel_rfl) Try.func3 (by kernel_rfl)
    (of_decide_eq_true (by kernel_rfl)) (by unfold Func.isWrapper; first | (rw [if_pos (by decide +kernel)]; kernel_rfl) | (rw [if_neg (by decide +kernel)]; exact ⟨rfl, rfl⟩))
    (fun os started H enc _ => lifted os started H enc)
end Go.Proofs.Ytdjknicjnaiomaa
