/-
  The statement TableOpens is true for every input, without conditions.
-/
import Derived.Test.YtolcekkcenedjaaGreatC1
set_option linter.unusedVariables false
set_option linter.unusedSimpArgs false
namespace Go.Proofs.YtolcekkcenedjaaGreat
open Go.Proofs.YtolcekkcenedjaaGreat.Sx Go.RowKit Go.ChangeShapes
theorem ok2000 : FnOk Tryz.prog 3 sig2000 F2000 :=
  ok_of (l := [(7, c1004), (8, c1008), (9, c2004), (10, c2005)]) mixed (.add (f := 7) (c := c1004) ok1004 (by kernel_rfl) (.add (f := 8) (c := c1008) ok1008 (by kernel_rfl) (.add (f := 9) (c := c2004) ok2004 (by kernel_rfl) (.add (f := 10) (c := c2005) ok2005 (by kernel_rfl) .nil)))) (inl := inlT) (nop := false) (unr := fun _ => false) (mt := fun _ => false) (by kernel_rfl)

theorem law2000 (ds : List D) (ht : ds.map (·.t) = inL sig2000) (hw : ∀ d ∈ ds, Wf d.t d.x) : F2000 ds = some [⟨.bool, true⟩] := by
  have t0 : ds.map (·.t) = [.sl (.int .u8)] := ht
  obtain ⟨x0, ds1, rfl, t1⟩ := ds_cons t0
  obtain rfl := ds_nil t1
  have h0 := wf_bytes (hw ⟨.sl (.int .u8), x0⟩ (by simp))
  exact f2000 x0 h0

set_option maxRecDepth 100000 in
theorem lifted2000 (os : Os) (started : os.Started) (H : Type) (enc : TypeId × Value → H) :
    ReturnsInHanded {} Tryz.checked os 3 .any (Rows.tableOpensSpec.pre6 enc Tryz.prog Tryz.f3 Rows.tableOpensRow.domain false) (Rows.tableOpensSpec.post enc Tryz.prog Tryz.f3 false true false false) := by
  refine returnsInHanded_of_change (C := Tryz.checked) own started (by kernel_rfl) Tryz.func3
    (ChangeSpec.witness6 (enc := enc) (C := Tryz.checked) false ⟨#[], #[.slice none 0 0], []⟩ 8 (by kernel_rfl) (by kernel_rfl) (by kernel_rfl) (by kernel_rfl)) ?_
  intro W base args ds gs before hval hW _ _
  exact law_contract (P := Tryz.prog) (fn := Tryz.f3) (s := Rows.tableOpensSpec) ok2000 laidOut (by kernel_rfl) rfl rfl Tryz.underlying4 law2000 rfl
    (fun ds hl => by match ds, hl with | [_], _ => rfl) base args ds gs before hval hW

theorem tableOpens_holds : Rows.TableOpensSaid :=
  OpenClaim.holds_of_wide 3 Tryz.f3 rfl rfl rfl rfl rfl rfl rfl ⟨rfl, rfl, rfl, rfl, rfl⟩ rfl rfl rfl rfl rfl (by kernel_rfl) Tryz.func3 (by kernel_rfl)
    (of_decide_eq_true (by kernel_rfl)) (by unfold Func.isWrapper; first | (rw [if_pos (by decide +kernel)]; kernel_rfl) | (rw [if_neg (by decide +kernel)]; exact ⟨rfl, rfl⟩))
    (fun os started H enc _ => lifted2000 os started H enc)
end Go.Proofs.YtolcekkcenedjaaGreat
