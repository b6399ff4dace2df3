/-
  The statement SnapPuts is true for every input, without conditions.
-/
import Derived.Test.YtolcekkcenedjaaGreatC1
set_option linter.unusedVariables false
set_option linter.unusedSimpArgs false
namespace Go.Proofs.YtolcekkcenedjaaGreat
open Go.Proofs.YtolcekkcenedjaaGreat.Sx Go.RowKit Go.ChangeShapes
theorem ok2003 : FnOk Tryz.prog 6 sig2003 F2003 :=
  ok_of (l := [(11, c28), (21, c1016), (24, c1017), (26, c2009), (27, c2010), (25, c2008), (28, c1015), (22, c1018), (30, c2011), (29, c21), (18, c50)]) mixed (.add (f := 11) (c := c28) ok28 (by kernel_rfl) (.add (f := 21) (c := c1016) ok1016 (by kernel_rfl) (.add (f := 24) (c := c1017) ok1017 (by kernel_rfl) (.add (f := 26) (c := c2009) ok2009 (by kernel_rfl) (.add (f := 27) (c := c2010) ok2010 (by kernel_rfl) (.add (f := 25) (c := c2008) ok2008 (by kernel_rfl) (.add (f := 28) (c := c1015) ok1015 (by kernel_rfl) (.add (f := 22) (c := c1018) ok1018 (by kernel_rfl) (.add (f := 30) (c := c2011) ok2011 (by kernel_rfl) (.add (f := 29) (c := c21) ok21 (by kernel_rfl) (.add (f := 18) (c := c50) ok50 (by kernel_rfl) .nil))))))))))) (inl := inlT) (nop := false) (unr := fun _ => false) (mt := fun _ => false) (by kernel_rfl)

theorem law2003 (ds : List D) (ht : ds.map (·.t) = inL sig2003) (hw : ∀ d ∈ ds, Wf d.t d.x) : F2003 ds = some [⟨.bool, true⟩] := by
  have t0 : ds.map (·.t) = [.int .i64, .int .i64, .sl (.pair (.str) (.pair (.bool) (.pair (.bool) (.pair (.sl (.int .u8)) (.pair (.int .i64) (.pair (.int .i64) (.pair (.int .i64) (.int .u32))))))))] := ht
  obtain ⟨x0, ds1, rfl, t1⟩ := ds_cons t0
  obtain ⟨x1, ds2, rfl, t2⟩ := ds_cons t1
  obtain ⟨x2, ds3, rfl, t3⟩ := ds_cons t2
  obtain rfl := ds_nil t3
  have h0 := wf_items (hw ⟨.sl ItT, x2⟩ (by simp))
  have h2 := wf_itemsS (hw ⟨.sl ItT, x2⟩ (by simp))
  exact f2003 x0 x1 x2 h0 h2

set_option maxRecDepth 100000 in
theorem lifted2003 (os : Os) (started : os.Started) (H : Type) (enc : TypeId × Value → H) :
    ReturnsInHanded {} Tryz.checked os 6 .any (Rows.snapPutsSpec.pre6 enc Tryz.prog Tryz.f6 Rows.snapPutsRow.domain false) (Rows.snapPutsSpec.post enc Tryz.prog Tryz.f6 false true false false) := by
  refine returnsInHanded_of_change (C := Tryz.checked) own started (by kernel_rfl) Tryz.func6
    (ChangeSpec.witness6 (enc := enc) (C := Tryz.checked) false ⟨#[], #[.agg #[.int .i64 0, .int .i64 0, .slice none 0 0]], []⟩ 8 (by kernel_rfl) (by kernel_rfl) (by kernel_rfl) (by kernel_rfl)) ?_
  intro W base args ds gs before hval hW _ _
  exact law_contract (P := Tryz.prog) (fn := Tryz.f6) (s := Rows.snapPutsSpec) ok2003 laidOut (by kernel_rfl) rfl rfl Tryz.underlying4 law2003 rfl
    (fun ds hl => by match ds, hl with | [_], _ => rfl) base args ds gs before hval hW

theorem snapPuts_holds : Rows.SnapPutsSaid :=
  OpenClaim.holds_of_wide 6 Tryz.f6 rfl rfl rfl rfl rfl rfl rfl ⟨rfl, rfl, rfl, rfl, rfl⟩ rfl rfl rfl rfl rfl (by kernel_rfl) Tryz.func6 (by kernel_rfl)
    (of_decide_eq_true (by kernel_rfl)) (by unfold Func.isWrapper; first | (rw [if_pos (by decide +kernel)]; kernel_rfl) | (rw [if_neg (by decide +kernel)]; exact ⟨rfl, rfl⟩))
    (fun os started H enc _ => lifted2003 os started H enc)
end Go.Proofs.YtolcekkcenedjaaGreat
