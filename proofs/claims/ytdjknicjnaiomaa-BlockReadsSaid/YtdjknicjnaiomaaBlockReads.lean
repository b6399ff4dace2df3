/-
  The statement BlockReads is true for every input, without conditions.
-/
import Derived.Test.YtdjknicjnaiomaaC3
set_option linter.unusedVariables false
set_option linter.unusedSimpArgs false
/- The law BlockReads: contracts and the row. -/
namespace Go.Proofs.Ytdjknicjnaiomaa
open Go.Proofs.Ytdjknicjnaiomaa.Sx Go.RowKit Go.ChangeShapes

theorem law12 (ds : List D) (ht : ds.map (·.t) = inL sig12) (hw : ∀ d ∈ ds, Wf d.t d.x) : F12 ds = some [⟨.bool, true⟩] := by
  have t0 : ds.map (·.t) = [.sl (.pair (.str) (.pair (.bool) (.pair (.bool) (.pair (.sl (.int .u8)) (.pair (.int .i64) (.pair (.int .i64) (.pair (.int .i64) (.int .u32)))))))), .sl (.int .u8)] := ht
  obtain ⟨x0, ds1, rfl, t1⟩ := ds_cons t0
  obtain ⟨x1, ds2, rfl, t2⟩ := ds_cons t1
  obtain rfl := ds_nil t2
  have h0 := wf_items (hw ⟨.sl ItT, x0⟩ (by simp))
  have h2 := wf_itemsS (hw ⟨.sl ItT, x0⟩ (by simp))
  have h1 := wf_bytes (hw ⟨.sl (.int .u8), x1⟩ (by simp))
  exact f12 x0 x1 h0 h2 h1

set_option maxRecDepth 100000 in
theorem lifted12 (os : Os) (started : os.Started) (H : Type) (enc : TypeId × Value → H) :
    ReturnsInHanded {} Try.checked os 12 .any (Rows.blockReadsSpec.pre6 enc Try.prog Try.f12 Rows.blockReadsRow.domain false) (Rows.blockReadsSpec.post enc Try.prog Try.f12 false true false false) := by
  refine returnsInHanded_of_change (C := Try.checked) own started (by kernel_rfl) Try.func12
    (ChangeSpec.witness6 (enc := enc) (C := Try.checked) false ⟨#[], #[.slice none 0 0, .slice none 0 0], []⟩ 8 (by kernel_rfl) (by kernel_rfl) (by kernel_rfl) (by kernel_rfl)) ?_
  intro W base args ds gs before hval hW _ _
  exact law_contract (P := Try.prog) (fn := Try.f12) (s := Rows.blockReadsSpec) ok12 laidOut (by kernel_rfl) rfl rfl Try.underlying4 law12 rfl
    (fun ds hl => by match ds, hl with | [_, _], _ => rfl) base args ds gs before hval hW

theorem blockReads_holds : Rows.BlockReadsSaid :=
  OpenClaim.holds_of_wide 12 Try.f12 rfl rfl rfl rfl rfl rfl rfl ⟨rfl, rfl, rfl, rfl, rfl⟩ rfl rfl rfl rfl rfl (by kernel_rfl) Try.func12 (by kernel_rfl)
    (of_decide_eq_true (by kernel_rfl)) (by unfold Func.isWrapper; first | (rw [if_pos (by decide +kernel)]; kernel_rfl) | (rw [if_neg (by decide +kernel)]; exact ⟨rfl, rfl⟩))
    (fun os started H enc _ => lifted12 os started H enc)
end Go.Proofs.Ytdjknicjnaiomaa
