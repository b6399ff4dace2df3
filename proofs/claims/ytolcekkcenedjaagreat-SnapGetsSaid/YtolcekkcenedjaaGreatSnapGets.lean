/-
  The statement SnapGets is true for every input, without conditions.
-/
import Derived.Test.YtolcekkcenedjaaGreatC1
set_option linter.unusedVariables false
set_option linter.unusedSimpArgs false
namespace Go.Proofs.YtolcekkcenedjaaGreat
open Go.Proofs.YtolcekkcenedjaaGreat.Sx Go.RowKit Go.ChangeShapes
theorem ok2002 : FnOk Tryz.prog 5 sig2002 F2002 :=
  ok_of (l := [(21, c1016), (22, c1018), (23, c2007), (18, c50)]) mixed (.add (f := 21) (c := c1016) ok1016 (by kernel_rfl) (.add (f := 22) (c := c1018) ok1018 (by kernel_rfl) (.add (f := 23) (c := c2007) ok2007 (by kernel_rfl) (.add (f := 18) (c := c50) ok50 (by kernel_rfl) .nil)))) (inl := inlT) (nop := false) (unr := fun _ => false) (mt := fun _ => false) (by kernel_rfl)

theorem law2002 (ds : List D) (ht : ds.map (·.t) = inL sig2002) (hw : ∀ d ∈ ds, Wf d.t d.x) : F2002 ds = some [⟨.bool, true⟩] := by
  have t0 : ds.map (·.t) = [.sl (.int .u8)] := ht
  obtain ⟨x0, ds1, rfl, t1⟩ := ds_cons t0
  obtain rfl := ds_nil t1
  have h0 := wf_bytes (hw ⟨.sl (.int .u8), x0⟩ (by simp))
  exact f2002 x0 h0

set_option maxRecDepth 100000 in
theorem lifted2002 (os : Os) (started : os.Started) (H : Type) (enc : TypeId × Value → H) :
    ReturnsInHanded {} Tryz.checked os 5 .any (Rows.snapGetsSpec.pre6 enc Tryz.prog Tryz.f5 Rows.snapGetsRow.domain false) (Rows.snapGetsSpec.post enc Tryz.prog Tryz.f5 false true false false) := by
  refine returnsInHanded_of_change (C := Tryz.checked) own started (by kernel_rfl) Tryz.func5
    (ChangeSpec.witness6 (enc := enc) (C := Tryz.checked) false ⟨#[], #[.slice none 0 0], []⟩ 8 (by kernel_rfl) (by kernel_rfl) (by kernel_rfl) (by kernel_rfl)) ?_
  intro W base args ds gs before hval hW _ _
  exact law_contract (P := Tryz.prog) (fn := Tryz.f5) (s := Rows.snapGetsSpec) ok2002 laidOut (by kernel_rfl) rfl rfl Tryz.underlying4 law2002 rfl
    (fun ds hl => by match ds, hl with | [_], _ => rfl) base args ds gs before hval hW

theorem snapGets_holds : Rows.SnapGetsSaid :=
  OpenClaim.holds_of_wide 5 Tryz.f5 rfl rfl rfl rfl rfl rfl rfl ⟨rfl, rfl, rfl, rfl, rfl⟩ rfl rfl rfl rfl rfl (by kernel_rfl) Tryz.func5 (by kernel_rfl)
    (of_decide_eq_true (by kernel_rfl)) (by unfold Func.isWrapper; first | (rw [if_pos (by decide +kernel)]; kernel_rfl) | (rw [if_neg (by decide +kernel)]; exact ⟨rfl, rfl⟩))
    (fun os started H enc _ => lifted2002 os started H enc)
end Go.Proofs.YtolcekkcenedjaaGreat
