/-
  The statement BlockPuts is true for every input, without conditions.
-/
import Derived.Test.YtdjknicjnaiomaaC2
set_option linter.unusedVariables false
set_option linter.unusedSimpArgs false
/- The law BlockPuts: contracts and the row. -/
namespace Go.Proofs.Ytdjknicjnaiomaa
open Go.Proofs.Ytdjknicjnaiomaa.Sx Go.RowKit Go.ChangeShapes

theorem law5 (ds : List D) (ht : ds.map (·.t) = inL sig5) (hw : ∀ d ∈ ds, Wf d.t d.x) : F5 ds = some [⟨.bool, true⟩] := by
  have t0 : ds.map (·.t) = [.sl (.pair (.str) (.pair (.bool) (.pair (.bool) (.pair (.sl (.int .u8)) (.pair (.int .i64) (.pair (.int .i64) (.pair (.int .i64) (.int .u32)))))))), .str, .str] := ht
  obtain ⟨x0, ds1, rfl, t1⟩ := ds_cons t0
  obtain ⟨x1, ds2, rfl, t2⟩ := ds_cons t1
  obtain ⟨x2, ds3, rfl, t3⟩ := ds_cons t2
  obtain rfl := ds_nil t3
  have h0 := wf_items (hw ⟨.sl ItT, x0⟩ (by simp))
  exact f5 x0 x1 x2 h0

set_option maxRecDepth 100000 in
theorem lifted5 (os : Os) (started : os.Started) (H : Type) (enc : TypeId × Value → H) :
    ReturnsInHanded {} Try.checked os 5 .any (Rows.blockPutsSpec.pre6 enc Try.prog Try.f5 Rows.blockPutsRow.domain false) (Rows.blockPutsSpec.post enc Try.prog Try.f5 false true false false) := by
  refine returnsInHanded_of_change (C := Try.checked) own started (by kernel_rfl) Try.func5
    (ChangeSpec.witness6 (enc := enc) (C := Try.checked) false ⟨#[], #[.slice none 0 0, .string .empty, .string .empty], []⟩ 8 (by kernel_rfl) (by kernel_rfl) (by kernel_rfl) (by kernel_rfl)) ?_
  intro W base args ds gs before hval hW _ _
  exact law_contract (P := Try.prog) (fn := Try.f5) (s := Rows.blockPutsSpec) ok5 laidOut (by kernel_rfl) rfl rfl Try.underlying4 law5 rfl
    (fun ds hl => by match ds, hl with | [_, _, _], _ => rfl) base args ds gs before hval hW

theorem blockPuts_holds : Rows.BlockPutsSaid :=
  OpenClaim.holds_of_wide 5 Try.f5 rfl rfl rfl rfl rfl rfl rfl ⟨rfl, rfl, rfl, rfl, rfl⟩ rfl rfl rfl rfl rfl (by kernel_rfl) Try.func5 (by kernel_rfl)
    (of_decide_eq_true (by kernel_rfl)) (by unfold Func.isWrapper; first | (rw [if_pos (by decide +kernel)]; kernel_rfl) | (rw [if_neg (by decide +kernel)]; exact ⟨rfl, rfl⟩))
    (fun os started H enc _ => lifted5 os started H enc)
end Go.Proofs.Ytdjknicjnaiomaa
