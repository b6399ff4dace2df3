/-
  The statement DiskSafe is true for every input, without conditions.
-/
import Derived.Test.YtmglkddddpipgaaC1
set_option linter.unusedVariables false
set_option linter.unusedSimpArgs false
namespace Go.Proofs.Ytmglkddddpipgaa
open Sx Go.RowKit Go.ChangeShapes
theorem ok5 : FnOkX Try.prog 5 sig5 F5 :=
  ok_of (l := [(14, c14), (15, c15), (20, c20), (21, c21), (22, c22), (23, c23), (24, c24), (25, c25), (26, c26), (17, c17), (27, c27)]) mixed (.add (f := 14) (c := c14) ok14 (by kernel_rfl) (.add (f := 15) (c := c15) ok15 (by kernel_rfl) (.add (f := 20) (c := c20) ok20 (by kernel_rfl) (.add (f := 21) (c := c21) ok21 (by kernel_rfl) (.add (f := 22) (c := c22) ok22 (by kernel_rfl) (.add (f := 23) (c := c23) ok23 (by kernel_rfl) (.add (f := 24) (c := c24) ok24 (by kernel_rfl) (.add (f := 25) (c := c25) ok25 (by kernel_rfl) (.add (f := 26) (c := c26) ok26 (by kernel_rfl) (.add (f := 17) (c := c17) ok17 (by kernel_rfl) (.add (f := 27) (c := c27) ok27 (by kernel_rfl) .nil))))))))))) (inl := fun _ => false) (nop := false) (unr := fun _ => false) (mt := fun _ => false) (loc := locA) (.inr ⟨rfl, rfl⟩) (by kernel_rfl)

theorem law5 (ds : List D) (ht : ds.map (·.t) = inL sig5) (hw : ∀ d ∈ ds, Wf d.t d.x) : F5 ds = some [⟨.bool, true⟩] := by
  have t0 : ds.map (·.t) = [.sl AcT, .sl AcT] := ht
  obtain ⟨x0, ds1, rfl, t1⟩ := ds_cons t0; obtain ⟨x1, ds2, rfl, t2⟩ := ds_cons t1; obtain rfl := ds_nil t2
  have h0 := wf_acts (hw ⟨.sl AcT, x0⟩ (by simp))
  have h1 := wf_acts (hw ⟨.sl AcT, x1⟩ (by simp))
  exact f5 x0 x1 h0 h1

set_option maxRecDepth 100000 in
theorem lifted5 (os : Os) (started : os.Started) (H : Type) (enc : TypeId × Value → H) :
    ReturnsInHanded {} Try.checked os 5 .any (Rows.diskSafeSpec.pre6 enc Try.prog Try.f5 Rows.diskSafeRow.domain false) (Rows.diskSafeSpec.post enc Try.prog Try.f5 false true false false) := by
  refine returnsInHanded_of_change (C := Try.checked) own started (by kernel_rfl) Try.func5
    (ChangeSpec.witness6 (enc := enc) (C := Try.checked) false ⟨#[], #[.slice none 0 0, .slice none 0 0], []⟩ 8 (by kernel_rfl) (by kernel_rfl) (by kernel_rfl) (by kernel_rfl)) ?_
  intro W base args ds gs before hval hW _ _; exact law_contract (P := Try.prog) (fn := Try.f5) (s := Rows.diskSafeSpec) (ok5.1 rfl) laidOut (by kernel_rfl) rfl rfl Try.underlying4 law5 rfl
    (fun ds hl => by match ds, hl with | [_, _], _ => rfl) base args ds gs before hval hW

theorem diskSafe_holds : Rows.DiskSafeSaid :=
  OpenClaim.holds_of_wide 5 Try.f5 rfl rfl rfl rfl rfl rfl rfl ⟨rfl, rfl, rfl, rfl, rfl⟩ rfl rfl rfl rfl rfl (by kernel_rfl) Try.func5 (by kernel_rfl)
    (of_decide_eq_true (by kernel_rfl)) (by unfold Func.isWrapper; first | (rw [if_pos (by decide +kernel)]; kernel_rfl) | (rw [if_neg (by decide +kernel)]; exact ⟨rfl, rfl⟩))
    (fun os started H enc _ => lifted5 os started H enc)
end Go.Proofs.Ytmglkddddpipgaa
