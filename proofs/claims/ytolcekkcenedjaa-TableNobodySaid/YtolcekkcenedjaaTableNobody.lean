/-
  The statement TableNobody is true for every input, without conditions.
-/
import Derived.Test.YtolcekkcenedjaaC1
set_option linter.unusedVariables false
set_option linter.unusedSimpArgs false
namespace Go.Proofs.Ytolcekkcenedjaa
open Go.Proofs.Ytolcekkcenedjaa.Sx Go.RowKit Go.ChangeShapes
theorem ok1002 : FnOk Try.prog 5 sig1002 F1002 :=
  ok_of (l := [(18, c1011), (19, c1012), (20, c1013), (21, c1014), (16, c1009), (17, c1010), (8, c1004)]) mixed (.add (f := 18) (c := c1011) ok1011 (by kernel_rfl) (.add (f := 19) (c := c1012) ok1012 (by kernel_rfl) (.add (f := 20) (c := c1013) ok1013 (by kernel_rfl) (.add (f := 21) (c := c1014) ok1014 (by kernel_rfl) (.add (f := 16) (c := c1009) ok1009 (by kernel_rfl) (.add (f := 17) (c := c1010) ok1010 (by kernel_rfl) (.add (f := 8) (c := c1004) ok1004 (by kernel_rfl) .nil))))))) (inl := inlT) (nop := false) (unr := fun _ => false) (mt := fun _ => false) (by kernel_rfl)

theorem law1002 (ds : List D) (ht : ds.map (·.t) = inL sig1002) (hw : ∀ d ∈ ds, Wf d.t d.x) : F1002 ds = some [⟨.bool, true⟩] := by
  have t0 : ds.map (·.t) = [.str] := ht
  obtain ⟨x0, ds1, rfl, t1⟩ := ds_cons t0
  obtain rfl := ds_nil t1
  have h0 := wf_str (hw ⟨.str, x0⟩ (by simp))
  exact f1002 x0 h0

set_option maxRecDepth 100000 in
theorem lifted1002 (os : Os) (started : os.Started) (H : Type) (enc : TypeId × Value → H) :
    ReturnsInHanded {} Try.checked os 5 .any (Rows.tableNobodySpec.pre6 enc Try.prog Try.f5 Rows.tableNobodyRow.domain false) (Rows.tableNobodySpec.post enc Try.prog Try.f5 false true false false) := by
  refine returnsInHanded_of_change (C := Try.checked) own started (by kernel_rfl) Try.func5
    (ChangeSpec.witness6 (enc := enc) (C := Try.checked) false ⟨#[], #[.string .empty], []⟩ 8 (by kernel_rfl) (by kernel_rfl) (by kernel_rfl) (by kernel_rfl)) ?_
  intro W base args ds gs before hval hW _ _
  exact law_contract (P := Try.prog) (fn := Try.f5) (s := Rows.tableNobodySpec) ok1002 laidOut (by kernel_rfl) rfl rfl Try.underlying4 law1002 rfl
    (fun ds hl => by match ds, hl with | [_], _ => rfl) base args ds gs before hval hW

theorem tableNobody_holds : Rows.TableNobodySaid :=
  OpenClaim.holds_of_wide 5 Try.f5 rfl rfl rfl rfl rfl rfl rfl ⟨rfl, rfl, rfl, rfl, rfl⟩ rfl rfl rfl rfl rfl (by kernel_rfl) Try.func5 (by kernel_rfl)
    (of_decide_eq_true (by kernel_rfl)) (by unfold Func.isWrapper; first | (rw [if_pos (by decide +kernel)]; kernel_rfl) | (rw [if_neg (by decide +kernel)]; exact ⟨rfl, rfl⟩))
    (fun os started H enc _ => lifted1002 os started H enc)
end Go.Proofs.Ytolcekkcenedjaa
