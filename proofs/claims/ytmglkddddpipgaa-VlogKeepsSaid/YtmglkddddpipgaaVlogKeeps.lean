/-
  The statement VlogKeeps is true for every input, without conditions.
-/
import Derived.Test.YtmglkddddpipgaaC1
set_option linter.unusedVariables false
set_option linter.unusedSimpArgs false
namespace Go.Proofs.Ytmglkddddpipgaa
open Sx Go.RowKit Go.ChangeShapes
theorem ok3006 : FnOkX Try.prog 6 sig3006 F3006 :=
  ok_of (l := [(28, Sx.c3028), (8, c3008), (9, c3009), (29, c3029), (30, c3030), (26, c26), (31, c31), (21, c21), (32, c3032), (33, c3033), (27, c27)]) mixed (.add (f := 28) (c := Sx.c3028) vok3028 (by kernel_rfl) (.add (f := 8) (c := c3008) ok3008 (by kernel_rfl) (.add (f := 9) (c := c3009) ok3009 (by kernel_rfl) (.add (f := 29) (c := c3029) ok3029 (by kernel_rfl) (.add (f := 30) (c := c3030) ok3030 (by kernel_rfl) (.add (f := 26) (c := c26) ok26 (by kernel_rfl) (.add (f := 31) (c := c31) ok31 (by kernel_rfl) (.add (f := 21) (c := c21) ok21 (by kernel_rfl) (.add (f := 32) (c := c3032) ok3032 (by kernel_rfl) (.add (f := 33) (c := c3033) ok3033 (by kernel_rfl) (.add (f := 27) (c := c27) ok27 (by kernel_rfl) .nil))))))))))) (inl := inlV) (nop := false) (unr := fun _ => false) (mt := fun _ => false) (loc := locA) (.inr ⟨rfl, rfl⟩) (by kernel_rfl)

theorem law3006 (ds : List D) (ht : ds.map (·.t) = inL sig3006) (hw : ∀ d ∈ ds, Wf d.t d.x) : F3006 ds = some [⟨.bool, true⟩] := by
  have t0 : ds.map (·.t) = [.sl (.sl (.int .u8)), .sl (.sl (.int .u8)), .int .i64, .int .i64, .sl (.int .i64)] := ht
  obtain ⟨x0, ds1, rfl, t1⟩ := ds_cons t0; obtain ⟨x1, ds2, rfl, t2⟩ := ds_cons t1; obtain ⟨x2, ds3, rfl, t3⟩ := ds_cons t2; obtain ⟨x3, ds4, rfl, t4⟩ := ds_cons t3; obtain ⟨x4, ds5, rfl, t5⟩ := ds_cons t4; obtain rfl := ds_nil t5
  have h0 := wf_vals (hw ⟨.sl (.sl (.int .u8)), x0⟩ (by simp))
  have h1 := wf_vals (hw ⟨.sl (.sl (.int .u8)), x1⟩ (by simp))
  have h2 := wf_int (hw ⟨.int .i64, x2⟩ (by simp))
  exact f3006 x0 x1 x2 x3 x4 h0 h1 h2

set_option maxRecDepth 100000 in
theorem lifted3006 (os : Os) (started : os.Started) (H : Type) (enc : TypeId × Value → H) :
    ReturnsInHanded {} Try.checked os 6 .any (Rows.vlogKeepsSpec.pre6 enc Try.prog Try.f6 Rows.vlogKeepsRow.domain false) (Rows.vlogKeepsSpec.post enc Try.prog Try.f6 false true false false) := by
  refine returnsInHanded_of_change (C := Try.checked) own started (by kernel_rfl) Try.func6
    (ChangeSpec.witness6 (enc := enc) (C := Try.checked) false ⟨#[], #[.slice none 0 0, .slice none 0 0, .agg #[.int .i64 0, .int .i64 0, .slice none 0 0]], []⟩ 8 (by kernel_rfl) (by kernel_rfl) (by kernel_rfl) (by kernel_rfl)) ?_
  intro W base args ds gs before hval hW _ _; exact law_contract (P := Try.prog) (fn := Try.f6) (s := Rows.vlogKeepsSpec) (ok3006.1 rfl) laidOut (by kernel_rfl) rfl rfl Try.underlying4 law3006 rfl
    (fun ds hl => by match ds, hl with | [_, _, _], _ => rfl) base args ds gs before hval hW

theorem vlogKeeps_holds : Rows.VlogKeepsSaid :=
  OpenClaim.holds_of_wide 6 Try.f6 rfl rfl rfl rfl rfl rfl rfl ⟨rfl, rfl, rfl, rfl, rfl⟩ rfl rfl rfl rfl rfl (by kernel_rfl) Try.func6 (by kernel_rfl)
    (of_decide_eq_true (by kernel_rfl)) (by unfold Func.isWrapper; first | (rw [if_pos (by decide +kernel)]; kernel_rfl) | (rw [if_neg (by decide +kernel)]; exact ⟨rfl, rfl⟩))
    (fun os started H enc _ => lifted3006 os started H enc)
end Go.Proofs.Ytmglkddddpipgaa
