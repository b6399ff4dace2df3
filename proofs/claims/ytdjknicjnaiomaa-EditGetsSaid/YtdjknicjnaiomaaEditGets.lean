/-
  The statement EditGets is true for every input, without conditions.
-/
import Derived.Test.YtdjknicjnaiomaaC2
set_option linter.unusedVariables false
set_option linter.unusedSimpArgs false
/- The law EditGets: contracts and the row. -/
namespace Go.Proofs.Ytdjknicjnaiomaa
open Go.Proofs.Ytdjknicjnaiomaa.Sx Go.RowKit Go.ChangeShapes

theorem law9 (ds : List D) (ht : ds.map (·.t) = inL sig9) (hw : ∀ d ∈ ds, Wf d.t d.x) : F9 ds = some [⟨.bool, true⟩] := by
  have t0 : ds.map (·.t) = [.sl (.int .u8)] := ht
  obtain ⟨x0, ds1, rfl, t1⟩ := ds_cons t0
  obtain rfl := ds_nil t1
  have h0 := wf_bytes (hw ⟨.sl (.int .u8), x0⟩ (by simp))
  exact f9 x0 h0

set_option maxRecDepth 100000 in
theorem lifted9 (os : Os) (started : os.Started) (H : Type) (enc : TypeId × Value → H) :
    ReturnsInHanded {} Try.checked os 9 .any (Rows.editGetsSpec.pre6 enc Try.prog Try.f9 Rows.editGetsRow.domain false) (Rows.editGetsSpec.post enc Try.prog Try.f9 false true false false) := by
  refine returnsInHanded_of_change (C := Try.checked) own started (by kernel_rfl) Try.func9
    (ChangeSpec.witness6 (enc := enc) (C := Try.checked) false ⟨#[], #[.slice none 0 0], []⟩ 8 (by kernel_rfl) (by kernel_rfl) (by kernel_rfl) (by kernel_rfl)) ?_
  intro W base args ds gs before hval hW _ _
  exact law_contract (P := Try.prog) (fn := Try.f9) (s := Rows.editGetsSpec) ok9 laidOut (by kernel_rfl) rfl rfl Try.underlying4 law9 rfl
    (fun ds hl => by match ds, hl with | [_], _ => rfl) base args ds gs before hval hW

theorem editGets_holds : Rows.EditGetsSaid :=
  OpenClaim.holds_of_wide 9 Try.f9 rfl rfl rfl rfl rfl rfl rfl ⟨rfl, rfl, rfl, rfl, rfl⟩ rfl rfl rfl rfl rfl (by kernel_rfl) Try.func9 (by kernel_rfl)
    (of_decide_eq_true (by kernel_rfl)) (by unfold Func.isWrapper; first | (rw [if_pos (by decide +kernel)]; kernel_rfl) | (rw [if_neg (by decide +kernel)]; exact ⟨rfl, rfl⟩))
    (fun os started H enc _ => lifted9 os started H enc)
end Go.Proofs.Ytdjknicjnaiomaa
