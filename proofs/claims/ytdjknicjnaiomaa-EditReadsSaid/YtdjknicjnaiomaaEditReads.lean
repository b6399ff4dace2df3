/-
  The statement EditReads is true for every input, without conditions.
-/
import Derived.Test.YtdjknicjnaiomaaC2
set_option linter.unusedVariables false
set_option linter.unusedSimpArgs false
/- The law EditReads: contracts and the row. -/
namespace Go.Proofs.Ytdjknicjnaiomaa
open Go.Proofs.Ytdjknicjnaiomaa.Sx Go.RowKit Go.ChangeShapes

theorem law10 (ds : List D) (ht : ds.map (·.t) = inL sig10) (hw : ∀ d ∈ ds, Wf d.t d.x) : F10 ds = some [⟨.bool, true⟩] := by
  have t0 : ds.map (·.t) = [.sl (.pair (.int .i64) (.pair (.int .i64) (.pair (.int .i64) (.pair (.int .i64) (.pair (.pair (.int .i64) (.pair (.int .i64) (.int .i64))) (.pair (.int .i64) (.pair (.int .i64) (.pair (.int .i64) (.pair (.str) (.str)))))))))), .sl (.int .u8)] := ht
  obtain ⟨x0, ds1, rfl, t1⟩ := ds_cons t0
  obtain ⟨x1, ds2, rfl, t2⟩ := ds_cons t1
  obtain rfl := ds_nil t2
  have h0 := wf_eds (hw ⟨.sl EdT, x0⟩ (by simp))
  have h1 := wf_bytes (hw ⟨.sl (.int .u8), x1⟩ (by simp))
  exact f10 x0 x1 h0 h1

set_option maxRecDepth 100000 in
theorem lifted10 (os : Os) (started : os.Started) (H : Type) (enc : TypeId × Value → H) :
    ReturnsInHanded {} Try.checked os 10 .any (Rows.editReadsSpec.pre6 enc Try.prog Try.f10 Rows.editReadsRow.domain false) (Rows.editReadsSpec.post enc Try.prog Try.f10 false true false false) := by
  refine returnsInHanded_of_change (C := Try.checked) own started (by kernel_rfl) Try.func10
    (ChangeSpec.witness6 (enc := enc) (C := Try.checked) false ⟨#[], #[.slice none 0 0, .slice none 0 0], []⟩ 8 (by kernel_rfl) (by kernel_rfl) (by kernel_rfl) (by kernel_rfl)) ?_
  intro W base args ds gs before hval hW _ _
  exact law_contract (P := Try.prog) (fn := Try.f10) (s := Rows.editReadsSpec) ok10 laidOut (by kernel_rfl) rfl rfl Try.underlying4 law10 rfl
    (fun ds hl => by match ds, hl with | [_, _], _ => rfl) base args ds gs before hval hW

theorem editReads_holds : Rows.EditReadsSaid :=
  OpenClaim.holds_of_wide 10 Try.f10 rfl rfl rfl rfl rfl rfl rfl ⟨rfl, rfl, rfl, rfl, rfl⟩ rfl rfl rfl rfl rfl (by kernel_rfl) Try.func10 (by kernel_rfl)
    (of_decide_eq_true (by kernel_rfl)) (by unfold Func.isWrapper; first | (rw [if_pos (by decide +kernel)]; kernel_rfl) | (rw [if_neg (by decide +kernel)]; exact ⟨rfl, rfl⟩))
    (fun os started H enc _ => lifted10 os started H enc)
end Go.Proofs.Ytdjknicjnaiomaa
