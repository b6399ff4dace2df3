/-
  The statement CellReads is true for every input, without conditions.
-/
import Derived.Test.YtdjknicjnaiomaaC1
set_option linter.unusedVariables false
set_option linter.unusedSimpArgs false
/- The law CellReads: contracts and the row. -/
namespace Go.Proofs.Ytdjknicjnaiomaa
open Go.Proofs.Ytdjknicjnaiomaa.Sx Go.RowKit Go.ChangeShapes

theorem law8 (ds : List D) (ht : ds.map (·.t) = inL sig8) (hw : ∀ d ∈ ds, Wf d.t d.x) : F8 ds = some [⟨.bool, true⟩] := by
  have t0 : ds.map (·.t) = [.bool, .sl (.int .u8), .int .i64, .int .i64, .int .i64, .int .u32, .sl (.int .u8)] := ht
  obtain ⟨x0, ds1, rfl, t1⟩ := ds_cons t0
  obtain ⟨x1, ds2, rfl, t2⟩ := ds_cons t1
  obtain ⟨x2, ds3, rfl, t3⟩ := ds_cons t2
  obtain ⟨x3, ds4, rfl, t4⟩ := ds_cons t3
  obtain ⟨x4, ds5, rfl, t5⟩ := ds_cons t4
  obtain ⟨x5, ds6, rfl, t6⟩ := ds_cons t5
  obtain ⟨x6, ds7, rfl, t7⟩ := ds_cons t6
  obtain rfl := ds_nil t7
  have h5 := wf_u32 (hw ⟨.int .u32, x5⟩ (by simp))
  have h1 := wf_bytes (hw ⟨.sl (.int .u8), x1⟩ (by simp))
  have h6 := wf_bytes (hw ⟨.sl (.int .u8), x6⟩ (by simp))
  exact f8 x0 x1 x2 x3 x4 x5 x6 h5.1 h5.2 h1 h6

set_option maxRecDepth 100000 in
theorem lifted8 (os : Os) (started : os.Started) (H : Type) (enc : TypeId × Value → H) :
    ReturnsInHanded {} Try.checked os 8 .any (Rows.cellReadsSpec.pre6 enc Try.prog Try.f8 Rows.cellReadsRow.domain false) (Rows.cellReadsSpec.post enc Try.prog Try.f8 false true false false) := by
  refine returnsInHanded_of_change (C := Try.checked) own started (by kernel_rfl) Try.func8
    (ChangeSpec.witness6 (enc := enc) (C := Try.checked) false ⟨#[], #[.agg #[.bool false, .slice none 0 0, .int .i64 0, .int .i64 0, .int .i64 0, .int .u32 0], .slice none 0 0], []⟩ 8 (by kernel_rfl) (by kernel_rfl) (by kernel_rfl) (by kernel_rfl)) ?_
  intro W base args ds gs before hval hW _ _
  exact law_contract (P := Try.prog) (fn := Try.f8) (s := Rows.cellReadsSpec) ok8 laidOut (by kernel_rfl) rfl rfl Try.underlying4 law8 rfl
    (fun ds hl => by match ds, hl with | [_, _], _ => rfl) base args ds gs before hval hW

theorem cellReads_holds : Rows.CellReadsSaid :=
  OpenClaim.holds_of_wide 8 Try.f8 rfl rfl rfl rfl rfl rfl rfl ⟨rfl, rfl, rfl, rfl, rfl⟩ rfl rfl rfl rfl rfl (by kernel_rfl) Try.func8 (by kernel_rfl)
    (of_decide_eq_true (by kernel_rfl)) (by unfold Func.isWrapper; first | (rw [if_pos (by decide +kernel)]; kernel_rfl) | (rw [if_neg (by decide +kernel)]; exact ⟨rfl, rfl⟩))
    (fun os started H enc _ => lifted8 os started H enc)
end Go.Proofs.Ytdjknicjnaiomaa
