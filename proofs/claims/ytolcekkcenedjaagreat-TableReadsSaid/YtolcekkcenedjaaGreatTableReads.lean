/-
  The statement TableReads is true for every input, without conditions.
-/
import Derived.Test.YtolcekkcenedjaaGreatC1
set_option linter.unusedVariables false
set_option linter.unusedSimpArgs false
namespace Go.Proofs.YtolcekkcenedjaaGreat
open Go.Proofs.YtolcekkcenedjaaGreat.Sx Go.RowKit Go.ChangeShapes
theorem ok2001 : FnOk Tryz.prog 4 sig2001 F2001 :=
  ok_of (l := [(11, c28), (7, c1004), (12, c77), (13, c1005), (8, c1008), (10, c2005), (14, c1011), (15, c52), (16, c1013), (17, c51), (19, c1014), (20, c2006), (18, c50)]) mixed (.add (f := 11) (c := c28) ok28 (by kernel_rfl) (.add (f := 7) (c := c1004) ok1004 (by kernel_rfl) (.add (f := 12) (c := c77) ok77 (by kernel_rfl) (.add (f := 13) (c := c1005) ok1005 (by kernel_rfl) (.add (f := 8) (c := c1008) ok1008 (by kernel_rfl) (.add (f := 10) (c := c2005) ok2005 (by kernel_rfl) (.add (f := 14) (c := c1011) ok1011 (by kernel_rfl) (.add (f := 15) (c := c52) ok52 (by kernel_rfl) (.add (f := 16) (c := c1013) ok1013 (by kernel_rfl) (.add (f := 17) (c := c51) ok51 (by kernel_rfl) (.add (f := 19) (c := c1014) ok1014 (by kernel_rfl) (.add (f := 20) (c := c2006) ok2006 (by kernel_rfl) (.add (f := 18) (c := c50) ok50 (by kernel_rfl) .nil))))))))))))) (inl := inlT) (nop := false) (unr := fun _ => false) (mt := fun _ => false) (by kernel_rfl)

theorem law2001 (ds : List D) (ht : ds.map (·.t) = inL sig2001) (hw : ∀ d ∈ ds, Wf d.t d.x) : F2001 ds = some [⟨.bool, true⟩] := by
  have t0 : ds.map (·.t) = [.sl (.pair (.str) (.pair (.bool) (.pair (.bool) (.pair (.sl (.int .u8)) (.pair (.int .i64) (.pair (.int .i64) (.pair (.int .i64) (.int .u32)))))))), .int .u16, .str, .str, .int .i64] := ht
  obtain ⟨x0, ds1, rfl, t1⟩ := ds_cons t0
  obtain ⟨x1, ds2, rfl, t2⟩ := ds_cons t1
  obtain ⟨x2, ds3, rfl, t3⟩ := ds_cons t2
  obtain ⟨x3, ds4, rfl, t4⟩ := ds_cons t3
  obtain ⟨x4, ds5, rfl, t5⟩ := ds_cons t4
  obtain rfl := ds_nil t5
  have h0 := wf_items (hw ⟨.sl ItT, x0⟩ (by simp))
  have h2 := wf_itemsS (hw ⟨.sl ItT, x0⟩ (by simp))
  have hx := wf_u16 (hw ⟨.int .u16, x1⟩ (by simp))
  have hy := wf_str (hw ⟨.str, x2⟩ (by simp))
  exact f2001 x0 x1 x2 x3 x4 hx h0 h2 hy

set_option maxRecDepth 100000 in
theorem lifted2001 (os : Os) (started : os.Started) (H : Type) (enc : TypeId × Value → H) :
    ReturnsInHanded {} Tryz.checked os 4 .any (Rows.tableReadsSpec.pre6 enc Tryz.prog Tryz.f4 Rows.tableReadsRow.domain false) (Rows.tableReadsSpec.post enc Tryz.prog Tryz.f4 false true false false) := by
  refine returnsInHanded_of_change (C := Tryz.checked) own started (by kernel_rfl) Tryz.func4
    (ChangeSpec.witness6 (enc := enc) (C := Tryz.checked) false ⟨#[], #[.slice none 0 0, .int .u16 0, .agg #[.string .empty, .string .empty, .int .i64 0]], []⟩ 8 (by kernel_rfl) (by kernel_rfl) (by kernel_rfl) (by kernel_rfl)) ?_
  intro W base args ds gs before hval hW _ _
  exact law_contract (P := Tryz.prog) (fn := Tryz.f4) (s := Rows.tableReadsSpec) ok2001 laidOut (by kernel_rfl) rfl rfl Tryz.underlying4 law2001 rfl
    (fun ds hl => by match ds, hl with | [_, _, _], _ => rfl) base args ds gs before hval hW

theorem tableReads_holds : Rows.TableReadsSaid :=
  OpenClaim.holds_of_wide 4 Tryz.f4 rfl rfl rfl rfl rfl rfl rfl ⟨rfl, rfl, rfl, rfl, rfl⟩ rfl rfl rfl rfl rfl (by kernel_rfl) Tryz.func4 (by kernel_rfl)
    (of_decide_eq_true (by kernel_rfl)) (by unfold Func.isWrapper; first | (rw [if_pos (by decide +kernel)]; kernel_rfl) | (rw [if_neg (by decide +kernel)]; exact ⟨rfl, rfl⟩))
    (fun os started H enc _ => lifted2001 os started H enc)
end Go.Proofs.YtolcekkcenedjaaGreat
