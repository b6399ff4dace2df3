/-
  The statement CellHolds is true for every input, without conditions.
-/
import Derived.Test.YtdjknicjnaiomaaC1
set_option linter.unusedVariables false
set_option linter.unusedSimpArgs false
/- The law CellHolds: contracts and the row. -/
namespace Go.Proofs.Ytdjknicjnaiomaa
open Go.Proofs.Ytdjknicjnaiomaa.Sx Go.RowKit Go.ChangeShapes

theorem law4 (ds : List D) (ht : ds.map (·.t) = inL sig4) (hw : ∀ d ∈ ds, Wf d.t d.x) : F4 ds = some [⟨.bool, true⟩] := by
  have t0 : ds.map (·.t) = [.sl (.int .u8), .int .i64, .int .i64, .int .i64, .int .u32, .int .i64] := ht
  obtain ⟨x0, ds1, rfl, t1⟩ := ds_cons t0
  obtain ⟨x1, ds2, rfl, t2⟩ := ds_cons t1
  obtain ⟨x2, ds3, rfl, t3⟩ := ds_cons t2
  obtain ⟨x3, ds4, rfl, t4⟩ := ds_cons t3
  obtain ⟨x4, ds5, rfl, t5⟩ := ds_cons t4
  obtain ⟨x5, ds6, rfl, t6⟩ := ds_cons t5
  obtain rfl := ds_nil t6
  have h0 := wf_bytes (hw ⟨.sl (.int .u8), x0⟩ (by simp))
  exact f4 x0 x1 x2 x3 x4 x5 h0

set_option maxRecDepth 100000 in
theorem lifted4 (os : Os) (started : os.Started) (H : Type) (enc : TypeId × Value → H) :
    ReturnsInHanded {} Try.checked os 4 .any (Rows.cellHoldsSpec.pre6 enc Try.prog Try.f4 Rows.cellHoldsRow.domain false) (Rows.cellHoldsSpec.post enc Try.prog Try.f4 false true false false) := by
  refine returnsInHanded_of_change (C := Try.checked) own started (by kernel_rfl) Try.func4
    (ChangeSpec.witness6 (enc := enc) (C := Try.checked) false ⟨#[], #[.slice none 0 0, .agg #[.int .i64 0, .int .i64 0, .int .i64 0, .int .u32 0], .int .i64 0], []⟩ 8 (by kernel_rfl) (by kernel_rfl) (by kernel_rfl) (by kernel_rfl)) ?_
  intro W base args ds gs before hval hW _ _
  exact law_contract (P := Try.prog) (fn := Try.f4) (s := Rows.cellHoldsSpec) ok4 laidOut (by kernel_rfl) rfl rfl Try.underlying4 law4 rfl
    (fun ds hl => by match ds, hl with | [_, _, _], _ => rfl) base args ds gs before hval hW

theorem cellHolds_holds : Rows.CellHoldsSaid :=
  OpenClaim.holds_of_wide 4 Try.f4 rfl rfl rfl rfl rfl rfl rfl ⟨rfl, rfl, rfl, rfl, rfl⟩ rfl rfl rfl rfl rfl (by kernel_rfl) Try.func4 (by kernel_rfl)
    (of_decide_eq_true (by kernel_rfl)) (by unfold Func.isWrapper; first | (rw [if_pos (by decide +kernel)]; kernel_rfl) | (rw [if_neg (by decide +kernel)]; exact ⟨rfl, rfl⟩))
    (fun os started H enc _ => lifted4 os started H enc)
end Go.Proofs.Ytdjknicjnaiomaa
