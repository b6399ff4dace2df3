/-
  The statement DiskQuota is true for every input, without conditions.
-/
import Derived.Test.YtmglkddddpipgaaC1
set_option linter.unusedVariables false
set_option linter.unusedSimpArgs false
namespace Go.Proofs.Ytmglkddddpipgaa
open Go.Proofs.Ytmglkddddpipgaa.Sx Go.RowKit Go.ChangeShapes
theorem ok4 : FnOkX Try.prog 4 sig4 F4 :=
  ok_of (l := [(14, c14), (15, c15), (16, c16), (17, c17), (18, c18), (19, c19)]) mixed (.add (f := 14) (c := c14) ok14 (by kernel_rfl) (.add (f := 15) (c := c15) ok15 (by kernel_rfl) (.add (f := 16) (c := c16) ok16 (by kernel_rfl) (.add (f := 17) (c := c17) ok17 (by kernel_rfl) (.add (f := 18) (c := c18) ok18 (by kernel_rfl) (.add (f := 19) (c := c19) ok19 (by kernel_rfl) .nil)))))) (inl := fun _ => false) (nop := false) (unr := fun _ => false) (mt := fun _ => false) (loc := locA) (.inr ⟨rfl, rfl⟩) (by kernel_rfl)

theorem law4 (ds : List D) (ht : ds.map (·.t) = inL sig4) (hw : ∀ d ∈ ds, Wf d.t d.x) : F4 ds = some [⟨.bool, true⟩] := by
  have t0 : ds.map (·.t) = [.int .u16, .sl AcT] := ht
  obtain ⟨x0, ds1, rfl, t1⟩ := ds_cons t0
  obtain ⟨x1, ds2, rfl, t2⟩ := ds_cons t1
  obtain rfl := ds_nil t2
  have h0 := wf_u16 (hw ⟨.int .u16, x0⟩ (by simp))
  have h1 := wf_acts (hw ⟨.sl AcT, x1⟩ (by simp))
  exact f4 x0 x1 h0 h1

set_option maxRecDepth 100000 in
theorem lifted4 (os : Os) (started : os.Started) (H : Type) (enc : TypeId × Value → H) :
    ReturnsInHanded {} Try.checked os 4 .any (Rows.diskQuotaSpec.pre6 enc Try.prog Try.f4 Rows.diskQuotaRow.domain false) (Rows.diskQuotaSpec.post enc Try.prog Try.f4 false true false false) := by
  refine returnsInHanded_of_change (C := Try.checked) own started (by kernel_rfl) Try.func4
    (ChangeSpec.witness6 (enc := enc) (C := Try.checked) false ⟨#[], #[.int .u16 0, .slice none 0 0], []⟩ 8 (by kernel_rfl) (by kernel_rfl) (by kernel_rfl) (by kernel_rfl)) ?_
  intro W base args ds gs before hval hW _ _
  exact law_contract (P := Try.prog) (fn := Try.f4) (s := Rows.diskQuotaSpec) (ok4.1 rfl) laidOut (by kernel_rfl) rfl rfl Try.underlying4 law4 rfl
    (fun ds hl => by match ds, hl with | [_, _], _ => rfl) base args ds gs before hval hW

theorem diskQuota_holds : Rows.DiskQuotaSaid :=
  OpenClaim.holds_of_wide 4 Try.f4 rfl rfl rfl rfl rfl rfl rfl ⟨rfl, rfl, rfl, rfl, rfl⟩ rfl rfl rfl rfl rfl (by kernel_rfl) Try.func4 (by kernel_rfl)
    (of_decide_eq_true (by kernel_rfl)) (by unfold Func.isWrapper; first | (rw [if_pos (by decide +kernel)]; kernel_rfl) | (rw [if_neg (by decide +kernel)]; exact ⟨rfl, rfl⟩))
    (fun os started H enc _ => lifted4 os started H enc)
end Go.Proofs.Ytmglkddddpipgaa
