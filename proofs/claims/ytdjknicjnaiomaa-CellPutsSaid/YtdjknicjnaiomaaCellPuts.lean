/-
  The statement CellPuts is true for every input, without conditions.
-/
import Derived.Test.YtdjknicjnaiomaaC1
set_option linter.unusedVariables false
set_option linter.unusedSimpArgs false
/- The law CellPuts: contracts and the row. -/
namespace Go.Proofs.Ytdjknicjnaiomaa
open Go.Proofs.Ytdjknicjnaiomaa.Sx Go.RowKit Go.ChangeShapes

theorem law3 (ds : List D) (ht : ds.map (·.t) = inL sig3) (hw : ∀ d ∈ ds, Wf d.t d.x) : F3 ds = some [⟨.bool, true⟩] := by
  have t0 : ds.map (·.t) = [.bool, .sl (.int .u8), .int .i64, .int .i64, .int .i64, .int .u32, .bool, .sl (.int .u8), .int .i64, .int .i64, .int .i64, .int .u32] := ht
  obtain ⟨x0, ds1, rfl, t1⟩ := ds_cons t0
  obtain ⟨x1, ds2, rfl, t2⟩ := ds_cons t1
  obtain ⟨x2, ds3, rfl, t3⟩ := ds_cons t2
  obtain ⟨x3, ds4, rfl, t4⟩ := ds_cons t3
  obtain ⟨x4, ds5, rfl, t5⟩ := ds_cons t4
  obtain ⟨x5, ds6, rfl, t6⟩ := ds_cons t5
  obtain ⟨x6, ds7, rfl, t7⟩ := ds_cons t6
  obtain ⟨x7, ds8, rfl, t8⟩ := ds_cons t7
  obtain ⟨x8, ds9, rfl, t9⟩ := ds_cons t8
  obtain ⟨x9, ds10, rfl, t10⟩ := ds_cons t9
  obtain ⟨x10, ds11, rfl, t11⟩ := ds_cons t10
  obtain ⟨x11, ds12, rfl, t12⟩ := ds_cons t11
  obtain rfl := ds_nil t12
  have h5 := wf_u32 (hw ⟨.int .u32, x5⟩ (by simp))
  exact f3 x0 x6 x1 x7 x2 x3 x4 x5 x8 x9 x10 x11 h5.1 h5.2

set_option maxRecDepth 100000 in
theorem lifted3 (os : Os) (started : os.Started) (H : Type) (enc : TypeId × Value → H) :
    ReturnsInHanded {} Try.checked os 3 .any (Rows.cellPutsSpec.pre6 enc Try.prog Try.f3 Rows.cellPutsRow.domain false) (Rows.cellPutsSpec.post enc Try.prog Try.f3 false true false false) := by
  refine returnsInHanded_of_change (C := Try.checked) own started (by kernel_rfl) Try.func3
    (ChangeSpec.witness6 (enc := enc) (C := Try.checked) false ⟨#[], #[.agg #[.bool false, .slice none 0 0, .int .i64 0, .int .i64 0, .int .i64 0, .int .u32 0], .agg #[.bool false, .slice none 0 0, .int .i64 0, .int .i64 0, .int .i64 0, .int .u32 0]], []⟩ 8 (by kernel_rfl) (by kernel_rfl) (by kernel_rfl) (by kernel_rfl)) ?_
  intro W base args ds gs before hval hW _ _
  exact law_contract (P := Try.prog) (fn := Try.f3) (s := Rows.cellPutsSpec) ok3 laidOut (by kernel_rfl) rfl rfl Try.underlying4 law3 rfl
    (fun ds hl => by match ds, hl with | [_, _], _ => rfl) base args ds gs before hval hW

theorem cellPuts_holds : Rows.CellPutsSaid :=
  OpenClaim.holds_of_wide 3 Try.f3 rfl rfl rfl rfl rfl rfl rfl ⟨rfl, rfl, rfl, rfl, rfl⟩ rfl rfl rfl rfl rfl (by kernel_rfl) Try.func3 (by kernel_rfl)
    (of_decide_eq_true (by kernel_rfl)) (by unfold Func.isWrapper; first | (rw [if_pos (by decide +kernel)]; kernel_rfl) | (rw [if_neg (by decide +kernel)]; exact ⟨rfl, rfl⟩))
    (fun os started H enc _ => lifted3 os started H enc)
end Go.Proofs.Ytdjknicjnaiomaa
