/-
  The statement SnapOne is true for every input, without conditions.
-/
import Derived.Test.YtolcekkcenedjaaC1
set_option linter.unusedVariables false
set_option linter.unusedSimpArgs false
namespace Go.Proofs.Ytolcekkcenedjaa
open Go.Proofs.Ytolcekkcenedjaa.Sx Go.RowKit Go.ChangeShapes
theorem ok1003 : FnOk Try.prog 6 sig1003 F1003 :=
  ok_of (l := [(7, c28), (23, c1016), (22, c1015), (24, c1017), (25, c1018), (15, c50), (11, c21)]) mixed (.add (f := 7) (c := c28) ok28 (by kernel_rfl) (.add (f := 23) (c := c1016) ok1016 (by kernel_rfl) (.add (f := 22) (c := c1015) ok1015 (by kernel_rfl) (.add (f := 24) (c := c1017) ok1017 (by kernel_rfl) (.add (f := 25) (c := c1018) ok1018 (by kernel_rfl) (.add (f := 15) (c := c50) ok50 (by kernel_rfl) (.add (f := 11) (c := c21) ok21 (by kernel_rfl) .nil))))))) (inl := inlT) (nop := false) (unr := fun _ => false) (mt := fun _ => false) (by kernel_rfl)

theorem law1003 (ds : List D) (ht : ds.map (·.t) = inL sig1003) (hw : ∀ d ∈ ds, Wf d.t d.x) : F1003 ds = some [⟨.bool, true⟩] := by
  have t0 : ds.map (·.t) = [.int .i64, .int .i64, .sl (.pair (.str) (.pair (.bool) (.pair (.bool) (.pair (.sl (.int .u8)) (.pair (.int .i64) (.pair (.int .i64) (.pair (.int .i64) (.int .u32)))))))), .sl (.int .u8)] := ht
  obtain ⟨x0, ds1, rfl, t1⟩ := ds_cons t0
  obtain ⟨x1, ds2, rfl, t2⟩ := ds_cons t1
  obtain ⟨x2, ds3, rfl, t3⟩ := ds_cons t2
  obtain ⟨x3, ds4, rfl, t4⟩ := ds_cons t3
  obtain rfl := ds_nil t4
  have h0 := wf_items (hw ⟨.sl ItT, x2⟩ (by simp))
  have h2 := wf_itemsS (hw ⟨.sl ItT, x2⟩ (by simp))
  have h3 := wf_bytes (hw ⟨.sl (.int .u8), x3⟩ (by simp))
  exact f1003 x0 x1 x2 x3 h0 h2 h3

set_option maxRecDepth 100000 in
theorem lifted1003 (os : Os) (started : os.Started) (H : Type) (enc : TypeId × Value → H) :
    ReturnsInHanded {} Try.checked os 6 .any (Rows.snapOneSpec.pre6 enc Try.prog Try.f6 Rows.snapOneRow.domain false) (Rows.snapOneSpec.post enc Try.prog Try.f6 false true false false) := by
  refine returnsInHanded_of_change (C := Try.checked) own started (by kernel_rfl) Try.func6
    (ChangeSpec.witness6 (enc := enc) (C := Try.checked) false ⟨#[], #[.agg #[.int .i64 0, .int .i64 0, .slice none 0 0], .slice none 0 0], []⟩ 8 (by kernel_rfl) (by kernel_rfl) (by kernel_rfl) (by kernel_rfl)) ?_
  intro W base args ds gs before hval hW _ _
  exact law_contract (P := Try.prog) (fn := Try.f6) (s := Rows.snapOneSpec) ok1003 laidOut (by kernel_rfl) rfl rfl Try.underlying4 law1003 rfl
    (fun ds hl => by match ds, hl with | [_, _], _ => rfl) base args ds gs before hval hW

theorem snapOne_holds : Rows.SnapOneSaid :=
  OpenClaim.holds_of_wide 6 Try.f6 rfl rfl rfl rfl rfl rfl rfl ⟨rfl, rfl, rfl, rfl, rfl⟩ rfl rfl rfl rfl rfl (by kernel_rfl) Try.func6 (by kernel_rfl)
    (of_decide_eq_true (by kernel_rfl)) (by unfold Func.isWrapper; first | (rw [if_pos (by decide +kernel)]; kernel_rfl) | (rw [if_neg (by decide +kernel)]; exact ⟨rfl, rfl⟩))
    (fun os started H enc _ => lifted1003 os started H enc)
end Go.Proofs.Ytolcekkcenedjaa
