/-
  The statement TableMakes is true for every input, without conditions.
-/
import Derived.Test.YtolcekkcenedjaaC1
set_option linter.unusedVariables false
set_option linter.unusedSimpArgs false
namespace Go.Proofs.Ytolcekkcenedjaa
open Go.Proofs.Ytolcekkcenedjaa.Sx Go.RowKit Go.ChangeShapes
theorem ok1000 : FnOk Try.prog 3 sig1000 F1000 :=
  ok_of (l := [(7, c28), (8, c1004), (9, c1005), (10, c77), (13, c1007), (12, c1006), (11, c21)]) mixed (.add (f := 7) (c := c28) ok28 (by kernel_rfl) (.add (f := 8) (c := c1004) ok1004 (by kernel_rfl) (.add (f := 9) (c := c1005) ok1005 (by kernel_rfl) (.add (f := 10) (c := c77) ok77 (by kernel_rfl) (.add (f := 13) (c := c1007) ok1007 (by kernel_rfl) (.add (f := 12) (c := c1006) ok1006 (by kernel_rfl) (.add (f := 11) (c := c21) ok21 (by kernel_rfl) .nil))))))) (inl := inlT) (nop := false) (unr := fun _ => false) (mt := fun _ => false) (by kernel_rfl)

theorem law1000 (ds : List D) (ht : ds.map (·.t) = inL sig1000) (hw : ∀ d ∈ ds, Wf d.t d.x) : F1000 ds = some [⟨.bool, true⟩] := by
  have t0 : ds.map (·.t) = [.sl (.pair (.str) (.pair (.bool) (.pair (.bool) (.pair (.sl (.int .u8)) (.pair (.int .i64) (.pair (.int .i64) (.pair (.int .i64) (.int .u32)))))))), .int .i64] := ht
  obtain ⟨x0, ds1, rfl, t1⟩ := ds_cons t0
  obtain ⟨x1, ds2, rfl, t2⟩ := ds_cons t1
  obtain rfl := ds_nil t2
  have h0 := wf_items (hw ⟨.sl ItT, x0⟩ (by simp))
  have h2 := wf_itemsS (hw ⟨.sl ItT, x0⟩ (by simp))
  exact f1000 x0 x1 h0 h2

set_option maxRecDepth 100000 in
theorem lifted1000 (os : Os) (started : os.Started) (H : Type) (enc : TypeId × Value → H) :
    ReturnsInHanded {} Try.checked os 3 .any (Rows.tableMakesSpec.pre6 enc Try.prog Try.f3 Rows.tableMakesRow.domain false) (Rows.tableMakesSpec.post enc Try.prog Try.f3 false true false false) := by
  refine returnsInHanded_of_change (C := Try.checked) own started (by kernel_rfl) Try.func3
    (ChangeSpec.witness6 (enc := enc) (C := Try.checked) false ⟨#[], #[.slice none 0 0, .int .i64 0], []⟩ 8 (by kernel_rfl) (by kernel_rfl) (by kernel_rfl) (by kernel_rfl)) ?_
  intro W base args ds gs before hval hW _ _
  exact law_contract (P := Try.prog) (fn := Try.f3) (s := Rows.tableMakesSpec) ok1000 laidOut (by kernel_rfl) rfl rfl Try.underlying4 law1000 rfl
    (fun ds hl => by match ds, hl with | [_, _], _ => rfl) base args ds gs before hval hW

theorem tableMakes_holds : Rows.TableMakesSaid :=
  OpenClaim.holds_of_wide 3 Try.f3 rfl rfl rfl rfl rfl rfl rfl ⟨rfl, rfl, rfl, rfl, rfl⟩ rfl rfl rfl rfl rfl (by kernel_rfl) Try.func3 (by kernel_rfl)
    (of_decide_eq_true (by kernel_rfl)) (by unfold Func.isWrapper; first | (rw [if_pos (by decide +kernel)]; kernel_rfl) | (rw [if_neg (by decide +kernel)]; exact ⟨rfl, rfl⟩))
    (fun os started H enc _ => lifted1000 os started H enc)
end Go.Proofs.Ytolcekkcenedjaa
