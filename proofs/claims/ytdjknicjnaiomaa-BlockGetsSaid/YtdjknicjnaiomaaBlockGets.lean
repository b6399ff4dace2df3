/-
  The statement BlockGets is true for every input, without conditions.
-/
import Derived.Test.YtdjknicjnaiomaaC3
set_option linter.unusedVariables false
set_option linter.unusedSimpArgs false
/- The law BlockGets: contracts and the row. -/
namespace Go.Proofs.Ytdjknicjnaiomaa
open Go.Proofs.Ytdjknicjnaiomaa.Sx Go.RowKit Go.ChangeShapes

theorem law11 (ds : List D) (ht : ds.map (·.t) = inL sig11) (hw : ∀ d ∈ ds, Wf d.t d.x) : F11 ds = some [⟨.bool, true⟩] := by
  have t0 : ds.map (·.t) = [.sl (.int .u8), .str] := ht
  obtain ⟨x0, ds1, rfl, t1⟩ := ds_cons t0
  obtain ⟨x1, ds2, rfl, t2⟩ := ds_cons t1
  obtain rfl := ds_nil t2
  have h0 := wf_bytes (hw ⟨.sl (.int .u8), x0⟩ (by simp))
  exact f11 x0 x1 h0

set_option maxRecDepth 100000 in
theorem lifted11 (os : Os) (started : os.Started) (H : Type) (enc : TypeId × Value → H) :
    ReturnsInHanded {} Try.checked os 11 .any (Rows.blockGetsSpec.pre6 enc Try.prog Try.f11 Rows.blockGetsRow.domain false) (Rows.blockGetsSpec.post enc Try.prog Try.f11 false true false false) := by
  refine returnsInHanded_of_change (C := Try.checked) own started (by kernel_rfl) Try.func11
    (ChangeSpec.witness6 (enc := enc) (C := Try.checked) false ⟨#[], #[.slice none 0 0, .string .empty], []⟩ 8 (by kernel_rfl) (by kernel_rfl) (by kernel_rfl) (by kernel_rfl)) ?_
  intro W base args ds gs before hval hW _ _
  exact law_contract (P := Try.prog) (fn := Try.f11) (s := Rows.blockGetsSpec) ok11 laidOut (by kernel_rfl) rfl rfl Try.underlying4 law11 rfl
    (fun ds hl => by match ds, hl with | [_, _], _ => rfl) base args ds gs before hval hW

theorem blockGets_holds : Rows.BlockGetsSaid :=
  OpenClaim.holds_of_wide 11 Try.f11 rfl rfl rfl rfl rfl rfl rfl ⟨rfl, rfl, rfl, rfl, rfl⟩ rfl rfl rfl rfl rfl (by kernel_rfl) Try.func11 (by kernel_rfl)
    (of_decide_eq_true (by kernel_rfl)) (by unfold Func.isWrapper; first | (rw [if_pos (by decide +kernel)]; kernel_rfl) | (rw [if_neg (by decide +kernel)]; exact ⟨rfl, rfl⟩))
    (fun os started H enc _ => lifted11 os started H enc)
end Go.Proofs.Ytdjknicjnaiomaa
