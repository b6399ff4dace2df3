/-
  The statement TableParts is true for every input, without conditions.
-/
import Derived.Test.YtolcekkcenedjaaC1
set_option linter.unusedVariables false
set_option linter.unusedSimpArgs false
namespace Go.Proofs.Ytolcekkcenedjaa
open Go.Proofs.Ytolcekkcenedjaa.Sx Go.RowKit Go.ChangeShapes
theorem ok1001 : FnOk Try.prog 4 sig1001 F1001 :=
  ok_of (l := [(7, c28), (8, c1004), (10, c77), (9, c1005), (14, c1008), (16, c1009), (15, c50), (17, c1010)]) mixed (.add (f := 7) (c := c28) ok28 (by kernel_rfl) (.add (f := 8) (c := c1004) ok1004 (by kernel_rfl) (.add (f := 10) (c := c77) ok77 (by kernel_rfl) (.add (f := 9) (c := c1005) ok1005 (by kernel_rfl) (.add (f := 14) (c := c1008) ok1008 (by kernel_rfl) (.add (f := 16) (c := c1009) ok1009 (by kernel_rfl) (.add (f := 15) (c := c50) ok50 (by kernel_rfl) (.add (f := 17) (c := c1010) ok1010 (by kernel_rfl) .nil)))))))) (inl := inlT) (nop := false) (unr := fun _ => false) (mt := fun _ => false) (by kernel_rfl)

theorem law1001 (ds : List D) (ht : ds.map (·.t) = inL sig1001) (hw : ∀ d ∈ ds, Wf d.t d.x) : F1001 ds = some [⟨.bool, true⟩] := by
  have t0 : ds.map (·.t) = [.sl (.pair (.str) (.pair (.bool) (.pair (.bool) (.pair (.sl (.int .u8)) (.pair (.int .i64) (.pair (.int .i64) (.pair (.int .i64) (.int .u32)))))))), .int .u16, .int .u16] := ht
  obtain ⟨x0, ds1, rfl, t1⟩ := ds_cons t0
  obtain ⟨x1, ds2, rfl, t2⟩ := ds_cons t1
  obtain ⟨x2, ds3, rfl, t3⟩ := ds_cons t2
  obtain rfl := ds_nil t3
  have h0 := wf_items (hw ⟨.sl ItT, x0⟩ (by simp))
  have h2 := wf_itemsS (hw ⟨.sl ItT, x0⟩ (by simp))
  have hx := wf_u16 (hw ⟨.int .u16, x1⟩ (by simp))
  have hy := wf_u16 (hw ⟨.int .u16, x2⟩ (by simp))
  exact f1001 x0 x1 x2 hx hy h0 h2

set_option maxRecDepth 100000 in
theorem lifted1001 (os : Os) (started : os.Started) (H : Type) (enc : TypeId × Value → H) :
    ReturnsInHanded {} Try.checked os 4 .any (Rows.tablePartsSpec.pre6 enc Try.prog Try.f4 Rows.tablePartsRow.domain false) (Rows.tablePartsSpec.post enc Try.prog Try.f4 false true false false) := by
  refine returnsInHanded_of_change (C := Try.checked) own started (by kernel_rfl) Try.func4
    (ChangeSpec.witness6 (enc := enc) (C := Try.checked) false ⟨#[], #[.slice none 0 0, .int .u16 0, .int .u16 0], []⟩ 8 (by kernel_rfl) (by kernel_rfl) (by kernel_rfl) (by kernel_rfl)) ?_
  intro W base args ds gs before hval hW _ _
  exact law_contract (P := Try.prog) (fn := Try.f4) (s := Rows.tablePartsSpec) ok1001 laidOut (by kernel_rfl) rfl rfl Try.underlying4 law1001 rfl
    (fun ds hl => by match ds, hl with | [_, _, _], _ => rfl) base args ds gs before hval hW

theorem tableParts_holds : Rows.TablePartsSaid :=
  OpenClaim.holds_of_wide 4 Try.f4 rfl rfl rfl rfl rfl rfl rfl ⟨rfl, rfl, rfl, rfl, rfl⟩ rfl rfl rfl rfl rfl (by kernel_rfl) Try.func4 (by kernel_rfl)
    (of_decide_eq_true (by kernel_rfl)) (by unfold Func.isWrapper; first | (rw [if_pos (by decide +kernel)]; kernel_rfl) | (rw [if_neg (by decide +kernel)]; exact ⟨rfl, rfl⟩))
    (fun os started H enc _ => lifted1001 os started H enc)
end Go.Proofs.Ytolcekkcenedjaa
