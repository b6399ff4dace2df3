/-
  Tables: their order of reading; the texts of the functions; which tables there may be.
-/
import Derived.Test.YtdjknicjnaiomaaK6
set_option linter.unusedVariables false
set_option linter.unusedSimpArgs false
/- Tables: their order of reading; what a sort of them answers. -/
namespace Go.Proofs.Ytdjknicjnaiomaa.Sx

theorem getG {α : Type} {l : List α} {i : Int} {d : α} (h0 : 0 ≤ i) (h1 : i < l.length) : l[i.toNat]?.getD d = l[i.toNat]'(by omega) := by
  rw [List.getElem?_eq_getElem (by omega)]; rfl
abbrev TbT : Ty := (Ty.int .i64).pair ((Ty.int .i64).pair ((Ty.int .i64).pair (Ty.str.pair Ty.str)))
abbrev Tb : Type := Int × Int × Int × List Int × List Int
def Tb.f (x : Tb) : List Int := x.2.2.2.1
def Tb.l (x : Tb) : List Int := x.2.2.2.2

section
variable {Φ : Nat → Cont} {R : Type} {lv n : Nat} {ρ : List (Nat × D)} {kr : List D → Option R} {kj : Nat → List D → Option R} {k : IR} {k1 : IntKind}
@[simp] theorem mk_tb (a b c : Int) (f l : List Int) : mkD TbT 1 [⟨.int .i64, a⟩, ⟨.int .i64, b⟩, ⟨.int .i64, c⟩, ⟨.str, f⟩, ⟨.str, l⟩] = some ⟨.sl TbT, [(a, b, c, f, l)]⟩ := rfl
@[simp] theorem o_upd_tb (xs : List Tb) (i a b c : Int) (f l : List Int) : opD Φ (.upd TbT 0) [⟨.sl TbT, xs⟩, ⟨.int k1, i⟩, ⟨.int .i64, a⟩, ⟨.int .i64, b⟩, ⟨.int .i64, c⟩, ⟨.str, f⟩, ⟨.str, l⟩] k R lv n ρ kr kj =
    if 0 ≤ i ∧ i < (xs.length : Int) then deb Φ k R lv (n + 1) ((n, ⟨.sl TbT, xs.set i.toNat (a, b, c, f, l)⟩) :: ρ) kr kj else none := by
  have h : toE TbT (setAt (split TbT (xs.getD i.toNat (dflt TbT))) 0 [⟨.int .i64, a⟩, ⟨.int .i64, b⟩, ⟨.int .i64, c⟩, ⟨.str, f⟩, ⟨.str, l⟩]) = some (a, b, c, f, l) := rfl
  simp only [opD, evalPr, true_and, h]
  rfl
end
/-! ### loops -/
def fitsLS {σ R : Type} (Q : σ → Prop) (r : R) : LS σ R → Prop
  | .again s => Q s
  | .out o => o = r
theorem fitsLS_again {σ R : Type} (Q : σ → Prop) (r : R) (s : σ) : fitsLS Q r (.again s) = Q s := rfl
theorem fitsLS_out {σ R : Type} (Q : σ → Prop) (r o : R) : fitsLS Q r (.out o : LS σ R) = (o = r) := rfl
theorem or_of {σ R : Type} {x : Option (LS σ R)} (v : LS σ R) {Q : σ → Prop} {r : R} (h : x = some v) (hv : fitsLS Q r v) :
    (∃ s', x = some (.again s') ∧ Q s') ∨ x = some (.out r) := by
  subst h
  cases v with
  | again s' => exact .inl ⟨s', rfl, hv⟩
  | out o => have hv' : o = r := hv; subst hv'; exact .inr rfl

/-- does one of a list have it? -/
theorem any_loop {R : Type} {e : Ty} (p : List e.den) (q : e.den → Bool) (a b : R) (st : Int → Option (LS Int R))
    (h : ∀ j : Int, 0 ≤ j → j < p.length → st j = some (if q (p[j.toNat]?.getD (dflt e)) = true then .out a else .again (j + 1))) (h' : st p.length = some (.out b)) :
    iter st 0 = some (if p.any q = true then a else b) := by
  refine (iter_meas (fun s : Int => (p.length - s).toNat) (fun s => if (p.drop s.toNat).any q = true then a else b) (fun s => 0 ≤ s ∧ s ≤ p.length) (by exact ⟨by omega, by omega⟩) ?_).trans (by simp)
  rintro j ⟨j1, j2⟩
  by_cases hj : j < p.length
  · rw [dropI j1 hj, h j j1 hj, getG j1 hj, List.any_cons]
    cases hc : q (p[j.toNat]'(by omega))
    · exact .inl ⟨j + 1, by simp, ⟨by omega, by omega⟩, by omega, by simp⟩
    · exact .inr (by simp)
  · have e : j = p.length := by omega
    subst e
    rw [h', List.drop_eq_nil_of_le (by omega)]
    exact .inr (by simp)

/-! ### strings, by their bytes -/
theorem ltL_total : ∀ (x y : List Int), ltL x y = false → x ≠ y → ltL y x = true
  | [], [], _, h => absurd rfl h
  | [], _ :: _, h, _ => by simp [ltL] at h
  | _ :: _, [], _, _ => by simp [ltL]
  | a :: x, b :: y, h, hn => by
    simp only [ltL] at h ⊢
    by_cases h1 : a < b
    · simp [h1] at h
    · by_cases h2 : b < a
      · simp [h2]
      · have hab : a = b := by omega
        subst hab
        simp only [Int.lt_irrefl, if_false] at h ⊢
        simp only [decide_false, Bool.false_or, Bool.and_eq_false_imp, decide_eq_true_eq, true_and, decide_true, forall_const, Bool.true_and] at h ⊢
        exact ltL_total x y (by simpa using h) (fun e => hn (by rw [e]))

theorem ltL_asymm : ∀ (x y : List Int), ltL x y = true → ltL y x = false ∧ y ≠ x
  | [], [], h => by simp [ltL] at h
  | [], _ :: _, _ => ⟨rfl, by simp⟩
  | _ :: _, [], h => by simp [ltL] at h
  | a :: x, b :: y, h => by
    simp only [ltL, Bool.or_eq_true, Bool.and_eq_true, decide_eq_true_eq] at h
    rcases h with h | ⟨h1, h2⟩
    · constructor
      · simp only [ltL, Bool.or_eq_false_iff, decide_eq_false_iff_not]
        refine ⟨by omega, ?_⟩
        simp only [Bool.and_eq_false_imp, decide_eq_true_eq]
        intro e; omega
      · intro e; simp only [List.cons.injEq] at e; omega
    · have := ltL_asymm x y h2
      subst h1
      constructor
      · simp [ltL, this.1]
      · intro e; simp only [List.cons.injEq, true_and] at e; exact this.2 e

theorem ltL_irrefl (x : List Int) : ltL x x = false := by
  cases h : ltL x x with
  | false => rfl
  | true => exact absurd rfl (ltL_asymm x x h).2

theorem ltL_trans : ∀ (x y z : List Int), ltL x y = true → ltL y z = true → ltL x z = true
  | [], [], _, h, _ => by simp [ltL] at h
  | [], _ :: _, [], _, h => by simp [ltL] at h
  | [], _ :: _, _ :: _, _, _ => rfl
  | _ :: _, [], _, h, _ => by simp [ltL] at h
  | _ :: _, _ :: _, [], _, h => by simp [ltL] at h
  | a :: x, b :: y, c :: z, h1, h2 => by
    simp only [ltL, Bool.or_eq_true, Bool.and_eq_true, decide_eq_true_eq] at h1 h2 ⊢
    rcases h1 with h1 | ⟨rfl, h1⟩
    · rcases h2 with h2 | ⟨rfl, h2⟩
      · exact .inl (by omega)
      · exact .inl h1
    · rcases h2 with h2 | ⟨rfl, h2⟩
      · exact .inl h2
      · exact .inr ⟨rfl, ltL_trans x y z h1 h2⟩

/-- not less, twice -/
theorem ltL_ntrans (x y z : List Int) (h1 : ltL x y = false) (h2 : ltL y z = false) : ltL x z = false := by
  cases h : ltL x z with
  | false => rfl
  | true =>
    by_cases e1 : x = y
    · subst e1; rw [h2] at h; cases h
    · have k1 := ltL_total x y h1 e1
      have := ltL_trans y x z k1 h
      rw [h2] at this; cases this

/-! ### tables, in the order of reading -/
def ltT (x y : Tb) : Bool := if x.2.1 = y.2.1 then (if x.2.1 = 0 then decide (y.1 < x.1) else ltL x.f y.f) else decide (x.2.1 < y.2.1)

theorem ltT_irrefl (x : Tb) : ltT x x = false := by
  unfold ltT
  rw [if_pos rfl]
  split
  · simp
  · exact ltL_irrefl _

theorem ltT_trans (x y z : Tb) (h1 : ltT x y = true) (h2 : ltT y z = true) : ltT x z = true := by
  unfold ltT at *
  by_cases a : x.2.1 = y.2.1
  · rw [if_pos a] at h1
    by_cases b : y.2.1 = z.2.1
    · rw [if_pos b] at h2
      rw [if_pos (a.trans b)]
      by_cases c : x.2.1 = 0
      · rw [if_pos c] at h1 ⊢
        rw [if_pos (by omega)] at h2
        simp only [decide_eq_true_eq] at *; omega
      · rw [if_neg c] at h1 ⊢
        rw [if_neg (by omega)] at h2
        exact ltL_trans _ _ _ h1 h2
    · rw [if_neg b] at h2
      simp only [decide_eq_true_eq] at h2
      rw [if_neg (by omega)]
      simp only [decide_eq_true_eq]; omega
  · rw [if_neg a] at h1
    simp only [decide_eq_true_eq] at h1
    by_cases b : y.2.1 = z.2.1
    · rw [if_neg (by omega)]
      simp only [decide_eq_true_eq]; omega
    · rw [if_neg b] at h2
      simp only [decide_eq_true_eq] at h2
      rw [if_neg (by omega)]
      simp only [decide_eq_true_eq]; omega

theorem ltT_ntrans (x y z : Tb) (h1 : ltT x y = false) (h2 : ltT y z = false) : ltT x z = false := by
  unfold ltT at *
  by_cases a : x.2.1 = y.2.1
  · rw [if_pos a] at h1
    by_cases b : y.2.1 = z.2.1
    · rw [if_pos b] at h2
      rw [if_pos (a.trans b)]
      by_cases c : x.2.1 = 0
      · rw [if_pos c] at h1 ⊢
        rw [if_pos (by omega)] at h2
        simp only [decide_eq_false_iff_not] at *; omega
      · rw [if_neg c] at h1 ⊢
        rw [if_neg (by omega)] at h2
        exact ltL_ntrans _ _ _ h1 h2
    · rw [if_neg b] at h2
      simp only [decide_eq_false_iff_not] at h2
      rw [if_neg (by omega)]
      simp only [decide_eq_false_iff_not]; omega
  · rw [if_neg a] at h1
    simp only [decide_eq_false_iff_not] at h1
    by_cases b : y.2.1 = z.2.1
    · rw [if_neg (by omega)]
      simp only [decide_eq_false_iff_not]; omega
    · rw [if_neg b] at h2
      simp only [decide_eq_false_iff_not] at h2
      rw [if_neg (by omega)]
      simp only [decide_eq_false_iff_not]; omega

theorem ltT_asymm (x y : Tb) (h : ltT x y = true) : ltT y x = false := by
  cases h2 : ltT y x with
  | false => rfl
  | true => have := ltT_trans x y x h h2; rw [ltT_irrefl] at this; cases this

abbrev Ord (l : List Tb) : Prop := l.Pairwise (fun x y => ltT y x = false)

def insT (x : Tb) (out : List Tb) : List Tb := (out.reverse.dropWhile (ltT x)).reverse ++ x :: (out.reverse.takeWhile (ltT x)).reverse
def ordT (l : List Tb) : List Tb := l.foldl (fun out x => insT x out) []

theorem insT_perm (x : Tb) (out : List Tb) : (insT x out).Perm (x :: out) := by
  unfold insT
  refine List.perm_middle.trans (List.Perm.cons x ?_)
  rw [← List.reverse_append, List.takeWhile_append_dropWhile, List.reverse_reverse]
  

theorem pair_append {R : Tb → Tb → Prop} {a b : List Tb} : (a ++ b).Pairwise R ↔ a.Pairwise R ∧ b.Pairwise R ∧ ∀ x ∈ a, ∀ y ∈ b, R x y := List.pairwise_append

theorem takeWhile_all (p : Tb → Bool) (l : List Tb) : ∀ y ∈ l.takeWhile p, p y = true := by
  induction l with
  | nil => intro y h; cases h
  | cons a l ih =>
    intro y h
    rw [List.takeWhile_cons] at h
    split at h
    · rename_i ha
      rcases List.mem_cons.1 h with rfl | h
      · exact ha
      · exact ih y h
    · cases h

theorem insT_ord (x : Tb) (out : List Tb) (h : Ord out) : Ord (insT x out) := by
  have he : out = (out.reverse.dropWhile (ltT x)).reverse ++ (out.reverse.takeWhile (ltT x)).reverse := by
    rw [← List.reverse_append, List.takeWhile_append_dropWhile, List.reverse_reverse]
  have h' := h
  rw [he] at h'
  obtain ⟨h1, h2, h3⟩ := pair_append.1 h'
  unfold insT
  refine pair_append.2 ⟨h1, List.pairwise_cons.2 ⟨fun y hy => ?_, h2⟩, fun y hy z hz => ?_⟩
  · have := takeWhile_all (ltT x) out.reverse y (by simpa using hy)
    exact ltT_asymm x y this
  · -- what stays ahead is not greater
    have key : ∀ y ∈ out.reverse.dropWhile (ltT x), ltT x y = false := by
      have hp : (out.reverse.dropWhile (ltT x)).Pairwise (fun a b => ltT a b = false) := by
        have := List.pairwise_reverse.2 (show (out.reverse.dropWhile (ltT x)).reverse.Pairwise (fun b a => ltT a b = false) from h1)
        simpa using this
      cases hd : out.reverse.dropWhile (ltT x) with
      | nil => intro y hy; cases hy
      | cons a r =>
        have ha : ltT x a = false := by
          have := List.head_dropWhile_not (ltT x) (l := out.reverse) (by rw [hd]; simp)
          simp only [hd, List.head_cons] at this
          simpa using this
        rw [hd] at hp
        intro y hy
        rcases List.mem_cons.1 hy with rfl | hy
        · exact ha
        · exact ltT_ntrans _ _ _ ha ((List.pairwise_cons.1 hp).1 y hy)
    have hy' := key y (by simpa using hy)
    rcases List.mem_cons.1 hz with rfl | hz
    · exact hy'
    · have h4 := takeWhile_all (ltT x) out.reverse z (by simpa using hz)
      cases h5 : ltT z y with
      | false => rfl
      | true => have := ltT_trans x z y h4 h5; rw [hy'] at this; cases this

theorem foldIns : ∀ (l out : List Tb), Ord out → Ord (l.foldl (fun out x => insT x out) out) ∧ (l.foldl (fun out x => insT x out) out).Perm (out ++ l)
  | [], out, h => ⟨h, by simp⟩
  | x :: l, out, h => by
    obtain ⟨h1, h2⟩ := foldIns l (insT x out) (insT_ord x out h)
    refine ⟨h1, h2.trans ?_⟩
    refine ((insT_perm x out).append_right l).trans ?_
    exact (List.perm_middle (a := x) (l₁ := out) (l₂ := l)).symm

theorem ordT_ord (l : List Tb) : Ord (ordT l) := (foldIns l [] List.Pairwise.nil).1
theorem ordT_perm (l : List Tb) : (ordT l).Perm l := (foldIns l [] List.Pairwise.nil).2
theorem ordT_len (l : List Tb) : (ordT l).length = l.length := (ordT_perm l).length_eq
theorem ordT_mem {l : List Tb} {x : Tb} : x ∈ ordT l ↔ x ∈ l := (ordT_perm l).mem_iff

/-- of two that are not one, one is ahead of the other -/
def apartT (l : List Tb) : Prop := ∀ x ∈ l, ∀ y ∈ l, ltT x y = false → ltT y x = false → x = y

theorem ord_uniq : ∀ (a b : List Tb), a.Perm b → Ord a → Ord b → apartT a → a = b
  | [], b, h, _, _, _ => (List.nil_perm.1 h).symm
  | x :: a, [], h, _, _, _ => by have := h.length_eq; simp at this
  | x :: a, y :: b, h, h1, h2, hp => by
    have hx : x ∈ y :: b := h.mem_iff.1 (by simp)
    have hy : y ∈ x :: a := h.mem_iff.2 (by simp)
    have e : x = y := by
      rcases List.mem_cons.1 hx with e | hx
      · exact e
      · rcases List.mem_cons.1 hy with e | hy
        · exact e.symm
        · exact hp x (by simp) y (by simp [hy]) ((List.pairwise_cons.1 h2).1 x hx) ((List.pairwise_cons.1 h1).1 y hy)
    subst e
    have h' : a.Perm b := List.Perm.cons_inv h
    rw [ord_uniq a b h' (List.pairwise_cons.1 h1).2 (List.pairwise_cons.1 h2).2 (fun u hu v hv => hp u (by simp [hu]) v (by simp [hv]))]

/-- tables that a sort may be asked of -/
def tidy (l : List Tb) : Prop := (∀ x ∈ l, 0 ≤ x.2.1 ∧ x.2.1 ≤ 4) ∧ apartT l ∧ l.length < 1000000

def sig135 : Sig := { id := 135, ins := [(false, TbT.sl)], outs := [(false, [(TbT.sl, none)])] }
open Classical in
noncomputable def F135 (ds : List D) : Option (List D) := if h : ∃ ys : List Tb, ds = [⟨.sl TbT, ys⟩] ∧ tidy ys then some [⟨.sl TbT, ordT h.choose⟩] else none
noncomputable def c135 : Ct := ⟨sig135, F135⟩

theorem dsl_inj {ys zs : List Tb} (h : ([⟨.sl TbT, ys⟩] : List D) = [⟨.sl TbT, zs⟩]) : ys = zs := by
  simpa using h

theorem f135 (ys : List Tb) (ht : tidy ys) : F135 [⟨.sl TbT, ys⟩] = some [⟨.sl TbT, ordT ys⟩] := by
  unfold F135
  have h : ∃ zs : List Tb, ([⟨.sl TbT, ys⟩] : List D) = [⟨.sl TbT, zs⟩] ∧ tidy zs := ⟨ys, rfl, ht⟩
  rw [dif_pos h, ← dsl_inj h.choose_spec.1]

theorem f135_inv {ds outs : List D} (h : F135 ds = some outs) : ∃ ys : List Tb, ds = [⟨.sl TbT, ys⟩] ∧ tidy ys ∧ outs = [⟨.sl TbT, ordT ys⟩] := by
  unfold F135 at h
  split at h
  · rename_i hh
    simp only [Option.some.injEq] at h
    exact ⟨hh.choose, hh.choose_spec.1, hh.choose_spec.2, h.symm⟩
  · cases h
theorem s135 {lc : List Ct} (hl0 : look (lc.map fun c => (c.sig.id, c)) 135 = some c135) : ∀ (ys : List Tb) (ht : tidy ys), Does1 (Phi lc) 135 [⟨.sl TbT, ys⟩] [⟨.sl TbT, ordT ys⟩] :=
  fun ys ht => by
    have eFc : c135.F = F135 := rfl
    have eFh := f135 ys ht
    rw [← eFc] at eFh
    exact Does1.of hl0 eFh rfl
end Go.Proofs.Ytdjknicjnaiomaa.Sx

/- The texts of the functions that the laws of level reach. -/
namespace Go.Proofs.Ytdjknicjnaiomaa.Sx
def sig53 : Sig := { id := 53, ins := [(false, TbT.sl)], outs := [(false, [(Ty.bool, none)])] }
def ir53 : IR := .loop [.l (.int .i64 0)] [Ty.int .i64] (.op .len [.v 0] (.op (.icmp .lss) [.v 1, .v 2] (.ite (.v 3) (.op (.icmp .leq) [.v 1, .l (.int .i64 80)] (.ite (.v 4) (.op .inb [.v 0, .v 1] (.op (.idx TbT) [.v 0, .v 1] (.op .len [.v 8] (.op (.icmp .gtr) [.v 10, .l (.int .i64 200)] (.ite (.v 11) (.ret [.l (.bool false)]) (.op .inb [.v 0, .v 1] (.op (.idx TbT) [.v 0, .v 1] (.op .len [.v 16] (.op (.icmp .gtr) [.v 17, .l (.int .i64 200)] (.ite (.v 18) (.ret [.l (.bool false)]) (.op (.ibin .add .i64) [.v 1, .l (.int .i64 1)] (.jump 0 [.v 19])))))))))))) (.op .len [.v 0] (.op (.icmp .leq) [.v 5, .l (.int .i64 80)] (.ret [.v 6]))))) (.op .len [.v 0] (.op (.icmp .leq) [.v 4, .l (.int .i64 80)] (.ret [.v 5]))))))
def sig62 : Sig := { id := 62, ins := [(false, (Ty.int .i64).sl), (false, (Ty.int .i64).sl)], outs := [(false, [(Ty.bool, none)])] }
def ir62 : IR := .op .len [.v 0] (.op .len [.v 1] (.op (.icmp .neq) [.v 2, .v 3] (.ite (.v 4) (.ret [.l (.bool false)]) (.loop [.l (.int .i64 0)] [Ty.int .i64] (.op .len [.v 0] (.op (.icmp .lss) [.v 5, .v 6] (.ite (.v 7) (.op .inb [.v 0, .v 5] (.op (.idx (Ty.int .i64)) [.v 0, .v 5] (.op .inb [.v 1, .v 5] (.op (.idx (Ty.int .i64)) [.v 1, .v 5] (.op (.icmp .neq) [.v 8, .v 9] (.ite (.v 10) (.ret [.l (.bool false)]) (.op (.ibin .add .i64) [.v 5, .l (.int .i64 1)] (.jump 0 [.v 11])))))))) (.ret [.l (.bool true)]))))))))
def sig57 : Sig := { id := 57, ins := [(false, (Ty.int .i64).sl), (false, Ty.int .i64)], outs := [(false, [(Ty.bool, none)])] }
def ir57 : IR := .loop [.l (.int .i64 0)] [Ty.int .i64] (.op .len [.v 0] (.op (.icmp .lss) [.v 2, .v 3] (.ite (.v 4) (.op .inb [.v 0, .v 2] (.op (.idx (Ty.int .i64)) [.v 0, .v 2] (.op (.icmp .eql) [.v 5, .v 1] (.ite (.v 6) (.ret [.l (.bool true)]) (.op (.ibin .add .i64) [.v 2, .l (.int .i64 1)] (.jump 0 [.v 7])))))) (.ret [.l (.bool false)]))))
def sig63 : Sig := { id := 63, ins := [(false, TbT.sl)], outs := [(false, [((Ty.int .i64).sl, some 3)])] }
def ir63 : IR := .op (.mk (Ty.int .i64) 0) [] (.loop [.v 1, .l (.int .i64 0)] [(Ty.int .i64).sl, Ty.int .i64] (.op .len [.v 0] (.op (.icmp .lss) [.v 3, .v 4] (.ite (.v 5) (.op .inb [.v 0, .v 3] (.op (.idx TbT) [.v 0, .v 3] (.op (.mk (Ty.int .i64) 1) [.v 6] (.op .app [.v 2, .v 11] (.op (.ibin .add .i64) [.v 3, .l (.int .i64 1)] (.jump 0 [.v 12, .v 13])))))) (.ret [.v 2])))))
def sig101 : Sig := { id := 101, ins := [(true, TbT), (true, TbT)], outs := [(false, [(Ty.bool, none)])] }
def ir101 : IR := .op (.scmp .lss) [.v 4, .v 8] (.op .not [.v 10] (.ite (.v 11) (.op (.scmp .lss) [.v 9, .v 3] (.op .not [.v 12] (.ret [.v 13]))) (.ret [.l (.bool false)])))
def sig102 : Sig := { id := 102, ins := [(true, TbT), (true, TbT)], outs := [(false, [(Ty.bool, none)])] }
def ir102 : IR := .op (.scmp .geq) [.v 4, .v 8] (.ite (.v 10) (.op (.scmp .geq) [.v 9, .v 3] (.ret [.v 11])) (.ret [.l (.bool false)]))
def sig114 : Sig := { id := 114, ins := [(true, TbT)], outs := [(false, [(Ty.bool, none)])] }
def ir114 : IR := .op (.icmp .geq) [.v 0, .l (.int .i64 1)] (.ite (.v 5) (.op (.icmp .leq) [.v 0, .l (.int .i64 2147483647)] (.ite (.v 6) (.op (.icmp .geq) [.v 1, .l (.int .i64 0)] (.ite (.v 7) (.op (.icmp .leq) [.v 1, .l (.int .i64 4)] (.ite (.v 8) (.op (.icmp .geq) [.v 2, .l (.int .i64 0)] (.ite (.v 9) (.op (.icmp .leq) [.v 2, .l (.int .i64 1073741824)] (.ite (.v 10) (.op (.scmp .neq) [.v 3, .l (.str [])] (.ite (.v 11) (.op .len [.v 3] (.op (.icmp .leq) [.v 12, .l (.int .i64 64)] (.ite (.v 13) (.op .len [.v 4] (.op (.icmp .leq) [.v 14, .l (.int .i64 64)] (.ite (.v 15) (.op (.scmp .leq) [.v 3, .v 4] (.ret [.v 16])) (.ret [.l (.bool false)])))) (.ret [.l (.bool false)])))) (.ret [.l (.bool false)]))) (.ret [.l (.bool false)]))) (.ret [.l (.bool false)]))) (.ret [.l (.bool false)]))) (.ret [.l (.bool false)]))) (.ret [.l (.bool false)]))) (.ret [.l (.bool false)]))
def sig58 : Sig := { id := 58, ins := [(false, TbT.sl)], outs := [(false, [(Ty.int .i64, none)])] }
def ir58 : IR := .op .len [.v 0] (.op (.icmp .gtr) [.v 1, .l (.int .i64 64)] (.ite (.v 2) (.ret [.l (.int .i64 1)]) (.op .len [.v 0] (.loop [.l (.int .i64 0)] [Ty.int .i64] (.op (.icmp .lss) [.v 4, .v 3] (.ite (.v 5) (.op .inb [.v 0, .v 4] (.op (.idx TbT) [.v 0, .v 4] (.op (.call 114) [.v 6, .v 7, .v 8, .v 9, .v 10] (.op .not [.v 11] (.ite (.v 12) (.ret [.l (.int .i64 1)]) (.op .sub [.v 0, .l (.int .i64 0), .v 4] (.op .len [.v 13] (.loop [.l (.int .i64 0)] [Ty.int .i64] (.op (.icmp .lss) [.v 15, .v 14] (.ite (.v 16) (.op .inb [.v 13, .v 15] (.op (.idx TbT) [.v 13, .v 15] (.op (.icmp .eql) [.v 6, .v 17] (.ite (.v 22) (.ret [.l (.int .i64 1)]) (.op (.icmp .gtr) [.v 7, .l (.int .i64 0)] (.ite (.v 23) (.op (.icmp .eql) [.v 7, .v 18] (.ite (.v 24) (.op (.call 102) [.v 6, .v 7, .v 8, .v 9, .v 10, .v 17, .v 18, .v 19, .v 20, .v 21] (.ite (.v 25) (.ret [.l (.int .i64 1)]) (.op (.ibin .add .i64) [.v 15, .l (.int .i64 1)] (.jump 1 [.v 26])))) (.op (.ibin .add .i64) [.v 15, .l (.int .i64 1)] (.jump 1 [.v 25])))) (.op (.ibin .add .i64) [.v 15, .l (.int .i64 1)] (.jump 1 [.v 24])))))))) (.op (.ibin .add .i64) [.v 4, .l (.int .i64 1)] (.jump 0 [.v 17])))))))))))) (.ret [.l (.int .i64 0)])))))))
def sig109 : Sig := { id := 109, ins := [(false, TbT.sl)], outs := [(false, [(TbT.sl, some 56)])] }
def ir109 : IR := .nilc (.v 0) (.ret [.l (.nil TbT)]) (.op (.mk TbT 0) [] (.op .app [.v 1, .v 0] (.ret [.v 2])))
def sig103 : Sig := { id := 103, ins := [(false, TbT.sl)], outs := [(false, [(TbT.sl, some 56)])] }
def ir103 : IR := .op (.call 109) [.v 0] (.op (.call 135) [.v 1] (.ret [.v 2]))
def sig113 : Sig := { id := 113, ins := [(false, TbT.sl)], outs := [(false, [((Ty.int .i64).sl, some 3)])] }
def ir113 : IR := .op .len [.v 0] (.loop [.l (.nil (Ty.int .i64)), .l (.int .i64 0)] [(Ty.int .i64).sl, Ty.int .i64] (.op (.icmp .lss) [.v 3, .v 1] (.ite (.v 4) (.op .inb [.v 0, .v 3] (.op (.idx TbT) [.v 0, .v 3] (.op (.mk (Ty.int .i64) 1) [.v 5] (.op .app [.v 2, .v 10] (.op (.ibin .add .i64) [.v 3, .l (.int .i64 1)] (.jump 0 [.v 11, .v 12])))))) (.ret [.v 2]))))
def sig104 : Sig := { id := 104, ins := [(false, TbT.sl), (false, Ty.int .i64)], outs := [(false, [(TbT.sl, some 56)])] }
def ir104 : IR := .op (.call 109) [.v 0] (.op .len [.v 2] (.loop [.l (.int .i64 0)] [Ty.int .i64] (.op (.icmp .lss) [.v 4, .v 3] (.ite (.v 5) (.op .inb [.v 2, .v 4] (.op (.idx TbT) [.v 2, .v 4] (.op (.icmp .neq) [.v 7, .v 1] (.ite (.v 11) (.op (.icmp .eql) [.v 4, .l (.int .i64 (-1))] (.ite (.v 12) (.ret [.v 2]) (.op (.ibin .add .i64) [.v 4, .l (.int .i64 1)] (.loop [.v 4, .v 13, .v 2] [Ty.int .i64, Ty.int .i64, TbT.sl] (.op .len [.v 16] (.op (.icmp .lss) [.v 15, .v 17] (.ite (.v 18) (.op .inb [.v 16, .v 15] (.op (.idx TbT) [.v 16, .v 15] (.op (.icmp .neq) [.v 20, .v 1] (.op .not [.v 24] (.ite (.v 25) (.op .inb [.v 16, .v 14] (.op (.upd TbT 0) [.v 16, .v 14, .v 19, .v 20, .v 21, .v 22, .v 23] (.op (.ibin .add .i64) [.v 14, .l (.int .i64 1)] (.op (.ibin .add .i64) [.v 15, .l (.int .i64 1)] (.jump 1 [.v 27, .v 28, .v 26]))))) (.op (.ibin .add .i64) [.v 15, .l (.int .i64 1)] (.jump 1 [.v 14, .v 26, .v 16]))))))) (.op .sub [.v 16, .v 14] (.op (.clr TbT) [.v 16, .v 14] (.op .sub [.v 20, .l (.int .i64 0), .v 14] (.ret [.v 21]))))))))))) (.op (.ibin .add .i64) [.v 4, .l (.int .i64 1)] (.jump 0 [.v 12])))))) (.ret [.v 2])))))
def sig105 : Sig := { id := 105, ins := [(false, TbT.sl), (false, Ty.int .i64), (false, Ty.int .i64)], outs := [(false, [(Ty.bool, none)])] }
def ir105 : IR := .op (.icmp .eql) [.v 1, .l (.int .i64 0)] (.ite (.v 3) (.op .len [.v 0] (.op (.icmp .geq) [.v 4, .l (.int .i64 4)] (.ret [.v 5]))) (.op .len [.v 0] (.loop [.l (.int .i64 0), .l (.int .i64 0)] [Ty.int .i64, Ty.int .i64] (.op (.icmp .lss) [.v 6, .v 4] (.ite (.v 7) (.op .inb [.v 0, .v 6] (.op (.idx TbT) [.v 0, .v 6] (.op (.ibin .add .i64) [.v 5, .v 10] (.op (.ibin .add .i64) [.v 6, .l (.int .i64 1)] (.jump 0 [.v 13, .v 14]))))) (.op (.ibin .sub .i64) [.v 1, .l (.int .i64 1)] (.op (.ibin .mul .i64) [.l (.int .i64 2), .v 8] (.op (.ibin .shl .i64) [.v 2, .v 9] (.op (.icmp .gtr) [.v 5, .v 10] (.ret [.v 11]))))))))))
def sig106 : Sig := { id := 106, ins := [(false, TbT.sl)], outs := [(true, [(Ty.int .i64, none), (Ty.int .i64, none), (Ty.int .i64, none), (Ty.str, none), (Ty.str, none)])] }
def ir106 : IR := .op .inb [.v 0, .l (.int .i64 0)] (.op (.idx TbT) [.v 0, .l (.int .i64 0)] (.op .len [.v 0] (.loop [.l (.int .i64 0), .v 4, .v 5] [Ty.int .i64, Ty.str, Ty.str] (.op (.icmp .lss) [.v 7, .v 6] (.ite (.v 10) (.op .inb [.v 0, .v 7] (.op (.idx TbT) [.v 0, .v 7] (.op .min [.v 8, .v 14] (.op .max [.v 9, .v 15] (.op (.ibin .add .i64) [.v 7, .l (.int .i64 1)] (.jump 0 [.v 18, .v 16, .v 17])))))) (.ret [.v 1, .v 2, .v 3, .v 8, .v 9]))))))
def sig112 : Sig := { id := 112, ins := [(true, TbT), (false, TbT.sl)], outs := [(false, [(Ty.bool, none)])] }
def ir112 : IR := .op .len [.v 5] (.loop [.l (.int .i64 0)] [Ty.int .i64] (.op (.icmp .lss) [.v 7, .v 6] (.ite (.v 8) (.op .inb [.v 5, .v 7] (.op (.idx TbT) [.v 5, .v 7] (.op (.call 102) [.v 0, .v 1, .v 2, .v 3, .v 4, .v 9, .v 10, .v 11, .v 12, .v 13] (.ite (.v 14) (.op (.icmp .geq) [.v 7, .l (.int .i64 0)] (.ret [.v 15])) (.op (.ibin .add .i64) [.v 7, .l (.int .i64 1)] (.jump 0 [.v 15])))))) (.ret [.l (.bool false)]))))
def sig60 : Sig := { id := 60, ins := [(false, TbT.sl)], outs := [(true, [((Ty.int .i64).sl, some 3), (Ty.int .i64, none), (Ty.bool, none)]), (false, [(Ty.bool, none)])] }
def ir60 : IR := .op (.call 58) [.v 0] (.op (.icmp .neq) [.v 1, .l (.int .i64 0)] (.ite (.v 2) (.ret [.l (.nil (Ty.int .i64)), .l (.int .i64 0), .l (.bool false), .l (.bool false)]) (.op .len [.v 0] (.op (.icmp .eql) [.v 3, .l (.int .i64 0)] (.ite (.v 4) (.ret [.l (.nil (Ty.int .i64)), .l (.int .i64 0), .l (.bool false), .l (.bool false)]) (.op (.call 103) [.v 0] (.op (.call 113) [.v 5] (.op .len [.v 5] (.op (.ibin .sub .i64) [.v 7, .l (.int .i64 1)] (.op .inb [.v 5, .v 8] (.op (.idx TbT) [.v 5, .v 8] (.op .max [.l (.int .i64 1), .v 10] (.ret [.v 6, .v 14, .l (.bool true), .l (.bool true)])))))))))))))
def sig119 : Sig := { id := 119, ins := [(true, TbT), (true, TbT)], outs := [(false, [(Ty.bool, none)])] }
def ir119 : IR := .op (.icmp .neq) [.v 1, .v 6] (.ite (.v 10) (.op (.icmp .lss) [.v 1, .v 6] (.ret [.v 11])) (.op (.icmp .eql) [.v 1, .l (.int .i64 0)] (.ite (.v 11) (.op (.icmp .gtr) [.v 0, .v 5] (.ret [.v 12])) (.op (.scmp .lss) [.v 3, .v 8] (.ret [.v 12])))))
def sig64 : Sig := { id := 64, ins := [(false, TbT.sl)], outs := [(false, [(TbT.sl, some 56)])] }
def ir64 : IR := .op (.mk TbT 0) [] (.loop [.v 1, .l (.int .i64 0)] [TbT.sl, Ty.int .i64] (.op .len [.v 0] (.op (.icmp .lss) [.v 3, .v 4] (.ite (.v 5) (.op .len [.v 2] (.loop [.v 6] [Ty.int .i64] (.op (.icmp .gtr) [.v 7, .l (.int .i64 0)] (.ite (.v 8) (.op .inb [.v 0, .v 3] (.op (.idx TbT) [.v 0, .v 3] (.op (.ibin .sub .i64) [.v 7, .l (.int .i64 1)] (.op .inb [.v 2, .v 14] (.op (.idx TbT) [.v 2, .v 14] (.op (.call 119) [.v 9, .v 10, .v 11, .v 12, .v 13, .v 15, .v 16, .v 17, .v 18, .v 19] (.ite (.v 20) (.op (.ibin .sub .i64) [.v 7, .l (.int .i64 1)] (.jump 1 [.v 21])) (.op (.mk TbT 0) [] (.op .sub [.v 2, .v 7] (.op .app [.v 21, .v 22] (.op .ful [.v 2, .l (.int .i64 0), .v 7, .v 7] (.op .inb [.v 0, .v 3] (.op (.idx TbT) [.v 0, .v 3] (.op (.mk TbT 1) [.v 25, .v 26, .v 27, .v 28, .v 29] (.op .appn [.v 24, .v 30] (.op .app [.v 31, .v 23] (.op (.ibin .add .i64) [.v 3, .l (.int .i64 1)] (.jump 0 [.v 32, .v 33])))))))))))))))))) (.op (.mk TbT 0) [] (.op .sub [.v 2, .v 7] (.op .app [.v 9, .v 10] (.op .ful [.v 2, .l (.int .i64 0), .v 7, .v 7] (.op .inb [.v 0, .v 3] (.op (.idx TbT) [.v 0, .v 3] (.op (.mk TbT 1) [.v 13, .v 14, .v 15, .v 16, .v 17] (.op .appn [.v 12, .v 18] (.op .app [.v 19, .v 11] (.op (.ibin .add .i64) [.v 3, .l (.int .i64 1)] (.jump 0 [.v 20, .v 21]))))))))))))))) (.ret [.v 2])))))
def sig59 : Sig := { id := 59, ins := [(false, TbT.sl), (false, Ty.str)], outs := [(false, [((Ty.int .i64).sl, some 3)])] }
def ir59 : IR := .op (.call 58) [.v 0] (.op (.icmp .neq) [.v 2, .l (.int .i64 0)] (.ite (.v 3) (.ret [.l (.nil (Ty.int .i64))]) (.op (.call 103) [.v 0] (.op .len [.v 4] (.loop [.l (.int .i64 0)] [Ty.int .i64] (.op (.icmp .lss) [.v 6, .v 5] (.ite (.v 7) (.op .inb [.v 4, .v 6] (.op (.idx TbT) [.v 4, .v 6] (.op (.scmp .gtr) [.v 11, .v 1] (.ite (.v 13) (.op (.icmp .eql) [.v 6, .l (.int .i64 (-1))] (.ite (.v 14) (.op (.call 113) [.v 4] (.ret [.v 15])) (.op (.ibin .add .i64) [.v 6, .l (.int .i64 1)] (.loop [.v 6, .v 15, .v 4] [Ty.int .i64, Ty.int .i64, TbT.sl] (.op .len [.v 18] (.op (.icmp .lss) [.v 17, .v 19] (.ite (.v 20) (.op .inb [.v 18, .v 17] (.op (.idx TbT) [.v 18, .v 17] (.op (.scmp .gtr) [.v 24, .v 1] (.ite (.v 26) (.op (.ibin .add .i64) [.v 17, .l (.int .i64 1)] (.jump 1 [.v 16, .v 27, .v 18])) (.op (.scmp .lss) [.v 25, .v 1] (.op .not [.v 27] (.ite (.v 28) (.op .inb [.v 18, .v 16] (.op (.upd TbT 0) [.v 18, .v 16, .v 21, .v 22, .v 23, .v 24, .v 25] (.op (.ibin .add .i64) [.v 16, .l (.int .i64 1)] (.op (.ibin .add .i64) [.v 17, .l (.int .i64 1)] (.jump 1 [.v 30, .v 31, .v 29]))))) (.op (.ibin .add .i64) [.v 17, .l (.int .i64 1)] (.jump 1 [.v 16, .v 29, .v 18]))))))))) (.op .sub [.v 18, .v 16] (.op (.clr TbT) [.v 18, .v 16] (.op .sub [.v 22, .l (.int .i64 0), .v 16] (.op (.call 113) [.v 23] (.ret [.v 24])))))))))))) (.op (.scmp .lss) [.v 12, .v 1] (.ite (.v 14) (.op (.icmp .eql) [.v 6, .l (.int .i64 (-1))] (.ite (.v 15) (.op (.call 113) [.v 4] (.ret [.v 16])) (.op (.ibin .add .i64) [.v 6, .l (.int .i64 1)] (.loop [.v 6, .v 16, .v 4] [Ty.int .i64, Ty.int .i64, TbT.sl] (.op .len [.v 19] (.op (.icmp .lss) [.v 18, .v 20] (.ite (.v 21) (.op .inb [.v 19, .v 18] (.op (.idx TbT) [.v 19, .v 18] (.op (.scmp .gtr) [.v 25, .v 1] (.ite (.v 27) (.op (.ibin .add .i64) [.v 18, .l (.int .i64 1)] (.jump 1 [.v 17, .v 28, .v 19])) (.op (.scmp .lss) [.v 26, .v 1] (.op .not [.v 28] (.ite (.v 29) (.op .inb [.v 19, .v 17] (.op (.upd TbT 0) [.v 19, .v 17, .v 22, .v 23, .v 24, .v 25, .v 26] (.op (.ibin .add .i64) [.v 17, .l (.int .i64 1)] (.op (.ibin .add .i64) [.v 18, .l (.int .i64 1)] (.jump 1 [.v 31, .v 32, .v 30]))))) (.op (.ibin .add .i64) [.v 18, .l (.int .i64 1)] (.jump 1 [.v 17, .v 30, .v 19]))))))))) (.op .sub [.v 19, .v 17] (.op (.clr TbT) [.v 19, .v 17] (.op .sub [.v 23, .l (.int .i64 0), .v 17] (.op (.call 113) [.v 24] (.ret [.v 25])))))))))))) (.op (.ibin .add .i64) [.v 6, .l (.int .i64 1)] (.jump 0 [.v 15])))))))) (.op (.call 113) [.v 4] (.ret [.v 8])))))))))
def sig56 : Sig := { id := 56, ins := [(false, TbT.sl), (false, Ty.int .i64)], outs := [(true, [((Ty.int .i64).sl, some 3), (Ty.int .i64, none), (Ty.bool, none)]), (false, [(Ty.bool, none)])] }
def ir56 : IR := .op (.call 58) [.v 0] (.op (.icmp .neq) [.v 2, .l (.int .i64 0)] (.ite (.v 3) (.ret [.l (.nil (Ty.int .i64)), .l (.int .i64 0), .l (.bool false), .l (.bool false)]) (.op (.icmp .lss) [.v 1, .l (.int .i64 1)] (.ite (.v 4) (.ret [.l (.nil (Ty.int .i64)), .l (.int .i64 0), .l (.bool false), .l (.bool false)]) (.op (.icmp .gtr) [.v 1, .l (.int .i64 1048576)] (.ite (.v 5) (.ret [.l (.nil (Ty.int .i64)), .l (.int .i64 0), .l (.bool false), .l (.bool false)]) (.op (.call 103) [.v 0] (.loop [.l (.int .i64 0)] [Ty.int .i64] (.op (.icmp .lss) [.v 7, .l (.int .i64 4)] (.ite (.v 8) (.op (.call 104) [.v 6, .v 7] (.op (.call 105) [.v 9, .v 7, .v 1] (.op .not [.v 10] (.ite (.v 11) (.op (.ibin .add .i64) [.v 7, .l (.int .i64 1)] (.jump 0 [.v 12])) (.op (.icmp .gtr) [.v 7, .l (.int .i64 0)] (.ite (.v 12) (.op .sub [.v 9, .l (.int .i64 0), .l (.int .i64 1)] (.op (.call 106) [.v 13] (.op (.ibin .add .i64) [.v 7, .l (.int .i64 1)] (.op (.call 104) [.v 6, .v 19] (.op .len [.v 20] (.loop [.l (.int .i64 0)] [Ty.int .i64] (.op (.icmp .lss) [.v 22, .v 21] (.ite (.v 23) (.op .inb [.v 20, .v 22] (.op (.idx TbT) [.v 20, .v 22] (.op (.call 102) [.v 24, .v 25, .v 26, .v 27, .v 28, .v 14, .v 15, .v 16, .v 17, .v 18] (.op .not [.v 29] (.ite (.v 30) (.op (.icmp .eql) [.v 22, .l (.int .i64 (-1))] (.ite (.v 31) (.op (.call 109) [.v 13] (.op .app [.v 32, .v 20] (.op .len [.v 6] (.loop [.l (.int .i64 0)] [Ty.int .i64] (.op (.icmp .lss) [.v 35, .v 34] (.ite (.v 36) (.op .inb [.v 6, .v 35] (.op (.idx TbT) [.v 6, .v 35] (.op (.ibin .add .i64) [.v 7, .l (.int .i64 1)] (.op (.icmp .gtr) [.v 38, .v 42] (.ite (.v 43) (.op (.call 112) [.v 37, .v 38, .v 39, .v 40, .v 41, .v 33] (.ite (.v 44) (.op (.icmp .geq) [.v 35, .l (.int .i64 0)] (.op .not [.v 45] (.op (.call 113) [.v 33] (.op (.ibin .add .i64) [.v 7, .l (.int .i64 1)] (.ret [.v 47, .v 48, .v 46, .l (.bool true)]))))) (.op (.ibin .add .i64) [.v 35, .l (.int .i64 1)] (.jump 2 [.v 45])))) (.op (.ibin .add .i64) [.v 35, .l (.int .i64 1)] (.jump 2 [.v 44]))))))) (.op (.call 113) [.v 33] (.op (.ibin .add .i64) [.v 7, .l (.int .i64 1)] (.ret [.v 37, .v 38, .l (.bool true), .l (.bool true)]))))))))) (.op (.ibin .add .i64) [.v 22, .l (.int .i64 1)] (.loop [.v 22, .v 32, .v 20] [Ty.int .i64, Ty.int .i64, TbT.sl] (.op .len [.v 35] (.op (.icmp .lss) [.v 34, .v 36] (.ite (.v 37) (.op .inb [.v 35, .v 34] (.op (.idx TbT) [.v 35, .v 34] (.op (.call 102) [.v 38, .v 39, .v 40, .v 41, .v 42, .v 14, .v 15, .v 16, .v 17, .v 18] (.op .not [.v 43] (.op .not [.v 44] (.ite (.v 45) (.op .inb [.v 35, .v 33] (.op (.upd TbT 0) [.v 35, .v 33, .v 38, .v 39, .v 40, .v 41, .v 42] (.op (.ibin .add .i64) [.v 33, .l (.int .i64 1)] (.op (.ibin .add .i64) [.v 34, .l (.int .i64 1)] (.jump 2 [.v 47, .v 48, .v 46]))))) (.op (.ibin .add .i64) [.v 34, .l (.int .i64 1)] (.jump 2 [.v 33, .v 46, .v 35])))))))) (.op .sub [.v 35, .v 33] (.op (.clr TbT) [.v 35, .v 33] (.op .sub [.v 39, .l (.int .i64 0), .v 33] (.op (.call 109) [.v 13] (.op .app [.v 41, .v 40] (.op .len [.v 6] (.loop [.l (.int .i64 0)] [Ty.int .i64] (.op (.icmp .lss) [.v 44, .v 43] (.ite (.v 45) (.op .inb [.v 6, .v 44] (.op (.idx TbT) [.v 6, .v 44] (.op (.ibin .add .i64) [.v 7, .l (.int .i64 1)] (.op (.icmp .gtr) [.v 47, .v 51] (.ite (.v 52) (.op (.call 112) [.v 46, .v 47, .v 48, .v 49, .v 50, .v 42] (.ite (.v 53) (.op (.icmp .geq) [.v 44, .l (.int .i64 0)] (.op .not [.v 54] (.op (.call 113) [.v 42] (.op (.ibin .add .i64) [.v 7, .l (.int .i64 1)] (.ret [.v 56, .v 57, .v 55, .l (.bool true)]))))) (.op (.ibin .add .i64) [.v 44, .l (.int .i64 1)] (.jump 3 [.v 54])))) (.op (.ibin .add .i64) [.v 44, .l (.int .i64 1)] (.jump 3 [.v 53]))))))) (.op (.call 113) [.v 42] (.op (.ibin .add .i64) [.v 7, .l (.int .i64 1)] (.ret [.v 46, .v 47, .l (.bool true), .l (.bool true)]))))))))))))))))))) (.op (.ibin .add .i64) [.v 22, .l (.int .i64 1)] (.jump 1 [.v 31]))))))) (.op (.call 109) [.v 13] (.op .app [.v 24, .v 20] (.op .len [.v 6] (.loop [.l (.int .i64 0)] [Ty.int .i64] (.op (.icmp .lss) [.v 27, .v 26] (.ite (.v 28) (.op .inb [.v 6, .v 27] (.op (.idx TbT) [.v 6, .v 27] (.op (.ibin .add .i64) [.v 7, .l (.int .i64 1)] (.op (.icmp .gtr) [.v 30, .v 34] (.ite (.v 35) (.op (.call 112) [.v 29, .v 30, .v 31, .v 32, .v 33, .v 25] (.ite (.v 36) (.op (.icmp .geq) [.v 27, .l (.int .i64 0)] (.op .not [.v 37] (.op (.call 113) [.v 25] (.op (.ibin .add .i64) [.v 7, .l (.int .i64 1)] (.ret [.v 39, .v 40, .v 38, .l (.bool true)]))))) (.op (.ibin .add .i64) [.v 27, .l (.int .i64 1)] (.jump 2 [.v 37])))) (.op (.ibin .add .i64) [.v 27, .l (.int .i64 1)] (.jump 2 [.v 36]))))))) (.op (.call 113) [.v 25] (.op (.ibin .add .i64) [.v 7, .l (.int .i64 1)] (.ret [.v 29, .v 30, .l (.bool true), .l (.bool true)]))))))))))))))))) (.op (.call 106) [.v 9] (.op (.ibin .add .i64) [.v 7, .l (.int .i64 1)] (.op (.call 104) [.v 6, .v 18] (.op .len [.v 19] (.loop [.l (.int .i64 0)] [Ty.int .i64] (.op (.icmp .lss) [.v 21, .v 20] (.ite (.v 22) (.op .inb [.v 19, .v 21] (.op (.idx TbT) [.v 19, .v 21] (.op (.call 102) [.v 23, .v 24, .v 25, .v 26, .v 27, .v 13, .v 14, .v 15, .v 16, .v 17] (.op .not [.v 28] (.ite (.v 29) (.op (.icmp .eql) [.v 21, .l (.int .i64 (-1))] (.ite (.v 30) (.op (.call 109) [.v 9] (.op .app [.v 31, .v 19] (.op .len [.v 6] (.loop [.l (.int .i64 0)] [Ty.int .i64] (.op (.icmp .lss) [.v 34, .v 33] (.ite (.v 35) (.op .inb [.v 6, .v 34] (.op (.idx TbT) [.v 6, .v 34] (.op (.ibin .add .i64) [.v 7, .l (.int .i64 1)] (.op (.icmp .gtr) [.v 37, .v 41] (.ite (.v 42) (.op (.call 112) [.v 36, .v 37, .v 38, .v 39, .v 40, .v 32] (.ite (.v 43) (.op (.icmp .geq) [.v 34, .l (.int .i64 0)] (.op .not [.v 44] (.op (.call 113) [.v 32] (.op (.ibin .add .i64) [.v 7, .l (.int .i64 1)] (.ret [.v 46, .v 47, .v 45, .l (.bool true)]))))) (.op (.ibin .add .i64) [.v 34, .l (.int .i64 1)] (.jump 2 [.v 44])))) (.op (.ibin .add .i64) [.v 34, .l (.int .i64 1)] (.jump 2 [.v 43]))))))) (.op (.call 113) [.v 32] (.op (.ibin .add .i64) [.v 7, .l (.int .i64 1)] (.ret [.v 36, .v 37, .l (.bool true), .l (.bool true)]))))))))) (.op (.ibin .add .i64) [.v 21, .l (.int .i64 1)] (.loop [.v 21, .v 31, .v 19] [Ty.int .i64, Ty.int .i64, TbT.sl] (.op .len [.v 34] (.op (.icmp .lss) [.v 33, .v 35] (.ite (.v 36) (.op .inb [.v 34, .v 33] (.op (.idx TbT) [.v 34, .v 33] (.op (.call 102) [.v 37, .v 38, .v 39, .v 40, .v 41, .v 13, .v 14, .v 15, .v 16, .v 17] (.op .not [.v 42] (.op .not [.v 43] (.ite (.v 44) (.op .inb [.v 34, .v 32] (.op (.upd TbT 0) [.v 34, .v 32, .v 37, .v 38, .v 39, .v 40, .v 41] (.op (.ibin .add .i64) [.v 32, .l (.int .i64 1)] (.op (.ibin .add .i64) [.v 33, .l (.int .i64 1)] (.jump 2 [.v 46, .v 47, .v 45]))))) (.op (.ibin .add .i64) [.v 33, .l (.int .i64 1)] (.jump 2 [.v 32, .v 45, .v 34])))))))) (.op .sub [.v 34, .v 32] (.op (.clr TbT) [.v 34, .v 32] (.op .sub [.v 38, .l (.int .i64 0), .v 32] (.op (.call 109) [.v 9] (.op .app [.v 40, .v 39] (.op .len [.v 6] (.loop [.l (.int .i64 0)] [Ty.int .i64] (.op (.icmp .lss) [.v 43, .v 42] (.ite (.v 44) (.op .inb [.v 6, .v 43] (.op (.idx TbT) [.v 6, .v 43] (.op (.ibin .add .i64) [.v 7, .l (.int .i64 1)] (.op (.icmp .gtr) [.v 46, .v 50] (.ite (.v 51) (.op (.call 112) [.v 45, .v 46, .v 47, .v 48, .v 49, .v 41] (.ite (.v 52) (.op (.icmp .geq) [.v 43, .l (.int .i64 0)] (.op .not [.v 53] (.op (.call 113) [.v 41] (.op (.ibin .add .i64) [.v 7, .l (.int .i64 1)] (.ret [.v 55, .v 56, .v 54, .l (.bool true)]))))) (.op (.ibin .add .i64) [.v 43, .l (.int .i64 1)] (.jump 3 [.v 53])))) (.op (.ibin .add .i64) [.v 43, .l (.int .i64 1)] (.jump 3 [.v 52]))))))) (.op (.call 113) [.v 41] (.op (.ibin .add .i64) [.v 7, .l (.int .i64 1)] (.ret [.v 45, .v 46, .l (.bool true), .l (.bool true)]))))))))))))))))))) (.op (.ibin .add .i64) [.v 21, .l (.int .i64 1)] (.jump 1 [.v 30]))))))) (.op (.call 109) [.v 9] (.op .app [.v 23, .v 19] (.op .len [.v 6] (.loop [.l (.int .i64 0)] [Ty.int .i64] (.op (.icmp .lss) [.v 26, .v 25] (.ite (.v 27) (.op .inb [.v 6, .v 26] (.op (.idx TbT) [.v 6, .v 26] (.op (.ibin .add .i64) [.v 7, .l (.int .i64 1)] (.op (.icmp .gtr) [.v 29, .v 33] (.ite (.v 34) (.op (.call 112) [.v 28, .v 29, .v 30, .v 31, .v 32, .v 24] (.ite (.v 35) (.op (.icmp .geq) [.v 26, .l (.int .i64 0)] (.op .not [.v 36] (.op (.call 113) [.v 24] (.op (.ibin .add .i64) [.v 7, .l (.int .i64 1)] (.ret [.v 38, .v 39, .v 37, .l (.bool true)]))))) (.op (.ibin .add .i64) [.v 26, .l (.int .i64 1)] (.jump 2 [.v 36])))) (.op (.ibin .add .i64) [.v 26, .l (.int .i64 1)] (.jump 2 [.v 35]))))))) (.op (.call 113) [.v 24] (.op (.ibin .add .i64) [.v 7, .l (.int .i64 1)] (.ret [.v 28, .v 29, .l (.bool true), .l (.bool true)])))))))))))))))))))))) (.ret [.l (.nil (Ty.int .i64)), .l (.int .i64 0), .l (.bool false), .l (.bool false)])))))))))))
def sig54 : Sig := { id := 54, ins := [(false, TbT.sl)], outs := [(false, [(Ty.bool, none)])] }
def ir54 : IR := .loop [.l (.int .i64 0)] [Ty.int .i64] (.op .len [.v 0] (.op (.icmp .lss) [.v 1, .v 2] (.ite (.v 3) (.op .inb [.v 0, .v 1] (.op (.idx TbT) [.v 0, .v 1] (.op (.icmp .lss) [.v 4, .l (.int .i64 1)] (.ite (.v 9) (.ret [.l (.bool false)]) (.op (.icmp .gtr) [.v 4, .l (.int .i64 2147483647)] (.ite (.v 10) (.ret [.l (.bool false)]) (.op (.icmp .lss) [.v 5, .l (.int .i64 0)] (.ite (.v 11) (.ret [.l (.bool false)]) (.op (.icmp .gtr) [.v 5, .l (.int .i64 4)] (.ite (.v 12) (.ret [.l (.bool false)]) (.op (.icmp .lss) [.v 6, .l (.int .i64 0)] (.ite (.v 13) (.ret [.l (.bool false)]) (.op (.icmp .gtr) [.v 6, .l (.int .i64 1073741824)] (.ite (.v 14) (.ret [.l (.bool false)]) (.op (.scmp .eql) [.v 7, .l (.str [])] (.ite (.v 15) (.ret [.l (.bool false)]) (.op (.scmp .eql) [.v 8, .l (.str [])] (.ite (.v 16) (.ret [.l (.bool false)]) (.op .len [.v 7] (.op (.icmp .gtr) [.v 17, .l (.int .i64 64)] (.ite (.v 18) (.ret [.l (.bool false)]) (.op .len [.v 8] (.op (.icmp .gtr) [.v 19, .l (.int .i64 64)] (.ite (.v 20) (.ret [.l (.bool false)]) (.op (.scmp .gtr) [.v 7, .v 8] (.ite (.v 21) (.ret [.l (.bool false)]) (.loop [.l (.int .i64 0)] [Ty.int .i64] (.op (.icmp .lss) [.v 22, .v 1] (.ite (.v 23) (.op .inb [.v 0, .v 22] (.op (.idx TbT) [.v 0, .v 22] (.op (.icmp .eql) [.v 24, .v 4] (.ite (.v 29) (.ret [.l (.bool false)]) (.op .inb [.v 0, .v 22] (.op (.idx TbT) [.v 0, .v 22] (.op (.icmp .eql) [.v 31, .v 5] (.ite (.v 35) (.op (.icmp .gtr) [.v 5, .l (.int .i64 0)] (.ite (.v 36) (.op .inb [.v 0, .v 22] (.op (.idx TbT) [.v 0, .v 22] (.op (.call 101) [.v 37, .v 38, .v 39, .v 40, .v 41, .v 4, .v 5, .v 6, .v 7, .v 8] (.ite (.v 42) (.ret [.l (.bool false)]) (.op (.ibin .add .i64) [.v 22, .l (.int .i64 1)] (.jump 1 [.v 43])))))) (.op (.ibin .add .i64) [.v 22, .l (.int .i64 1)] (.jump 1 [.v 37])))) (.op (.ibin .add .i64) [.v 22, .l (.int .i64 1)] (.jump 1 [.v 36])))))))))) (.op (.ibin .add .i64) [.v 1, .l (.int .i64 1)] (.jump 0 [.v 24]))))))))))))))))))))))))))))))) (.op .len [.v 0] (.op (.icmp .leq) [.v 4, .l (.int .i64 64)] (.ret [.v 5]))))))
def sig117 : Sig := { id := 117, ins := [(false, TbT.sl), (false, Ty.int .i64)], outs := [(false, [(TbT.sl, some 56)])] }
def ir117 : IR := .op (.mk TbT 0) [] (.op (.call 64) [.v 0] (.loop [.v 2, .l (.int .i64 0)] [TbT.sl, Ty.int .i64] (.op .len [.v 3] (.op (.icmp .lss) [.v 5, .v 6] (.ite (.v 7) (.op .inb [.v 3, .v 5] (.op (.idx TbT) [.v 3, .v 5] (.op (.icmp .eql) [.v 9, .v 1] (.ite (.v 13) (.op .inb [.v 3, .v 5] (.op (.idx TbT) [.v 3, .v 5] (.op (.mk TbT 1) [.v 14, .v 15, .v 16, .v 17, .v 18] (.op .app [.v 4, .v 19] (.op (.ibin .add .i64) [.v 5, .l (.int .i64 1)] (.jump 0 [.v 20, .v 21])))))) (.op (.ibin .add .i64) [.v 5, .l (.int .i64 1)] (.jump 0 [.v 4, .v 14])))))) (.ret [.v 4]))))))
def sig116 : Sig := { id := 116, ins := [(false, TbT.sl), (false, Ty.int .i64), (false, Ty.int .i64)], outs := [(false, [(Ty.bool, none)])] }
def ir116 : IR := .op (.call 117) [.v 0, .v 1] (.op (.icmp .eql) [.v 1, .l (.int .i64 0)] (.ite (.v 4) (.op .len [.v 3] (.op (.icmp .geq) [.v 5, .l (.int .i64 4)] (.ret [.v 6]))) (.loop [.l (.int .i64 0), .l (.int .i64 0)] [Ty.int .i64, Ty.int .i64] (.op .len [.v 3] (.op (.icmp .lss) [.v 6, .v 7] (.ite (.v 8) (.op .inb [.v 3, .v 6] (.op (.idx TbT) [.v 3, .v 6] (.op (.ibin .add .i64) [.v 5, .v 11] (.op (.ibin .add .i64) [.v 6, .l (.int .i64 1)] (.jump 0 [.v 14, .v 15]))))) (.loop [.v 2, .l (.int .i64 1)] [Ty.int .i64, Ty.int .i64] (.op (.icmp .lss) [.v 10, .v 1] (.ite (.v 11) (.op (.ibin .mul .i64) [.v 9, .l (.int .i64 4)] (.op (.ibin .add .i64) [.v 10, .l (.int .i64 1)] (.jump 1 [.v 12, .v 13]))) (.op (.icmp .gtr) [.v 5, .v 9] (.ret [.v 12])))))))))))
def sig118 : Sig := { id := 118, ins := [(true, TbT), (false, TbT.sl)], outs := [(false, [(Ty.bool, none)])] }
def ir118 : IR := .loop [.l (.int .i64 0)] [Ty.int .i64] (.op .len [.v 5] (.op (.icmp .lss) [.v 6, .v 7] (.ite (.v 8) (.op .inb [.v 5, .v 6] (.op (.idx TbT) [.v 5, .v 6] (.op (.call 101) [.v 0, .v 1, .v 2, .v 3, .v 4, .v 9, .v 10, .v 11, .v 12, .v 13] (.ite (.v 14) (.ret [.l (.bool true)]) (.op (.ibin .add .i64) [.v 6, .l (.int .i64 1)] (.jump 0 [.v 15])))))) (.ret [.l (.bool false)]))))
def sig61 : Sig := { id := 61, ins := [(false, TbT.sl), (false, Ty.int .i64)], outs := [(true, [((Ty.int .i64).sl, some 3), (Ty.int .i64, none), (Ty.bool, none)])] }
def ir61 : IR := .loop [.l (.int .i64 0)] [Ty.int .i64] (.op (.icmp .lss) [.v 2, .l (.int .i64 4)] (.ite (.v 3) (.op (.call 116) [.v 0, .v 2, .v 1] (.op .not [.v 4] (.ite (.v 5) (.op (.ibin .add .i64) [.v 2, .l (.int .i64 1)] (.jump 0 [.v 6])) (.op (.icmp .eql) [.v 2, .l (.int .i64 4)] (.ite (.v 6) (.ret [.l (.nil (Ty.int .i64)), .l (.int .i64 0), .l (.bool false)]) (.op (.call 117) [.v 0, .v 2] (.op (.icmp .gtr) [.v 2, .l (.int .i64 0)] (.ite (.v 8) (.op .sub [.v 7, .l (.int .i64 0), .l (.int .i64 1)] (.op .inb [.v 9, .l (.int .i64 0)] (.op (.idx TbT) [.v 9, .l (.int .i64 0)] (.loop [.l (.int .i64 0), .v 13, .v 14] [Ty.int .i64, Ty.str, Ty.str] (.op .len [.v 9] (.op (.icmp .lss) [.v 15, .v 18] (.ite (.v 19) (.op .inb [.v 9, .v 15] (.op (.idx TbT) [.v 9, .v 15] (.op (.scmp .lss) [.v 23, .v 16] (.ite (.v 25) (.op .inb [.v 9, .v 15] (.op (.idx TbT) [.v 9, .v 15] (.op .inb [.v 9, .v 15] (.op (.idx TbT) [.v 9, .v 15] (.op (.scmp .gtr) [.v 35, .v 17] (.ite (.v 36) (.op .inb [.v 9, .v 15] (.op (.idx TbT) [.v 9, .v 15] (.op (.ibin .add .i64) [.v 15, .l (.int .i64 1)] (.jump 1 [.v 42, .v 29, .v 41])))) (.op (.ibin .add .i64) [.v 15, .l (.int .i64 1)] (.jump 1 [.v 37, .v 29, .v 17])))))))) (.op .inb [.v 9, .v 15] (.op (.idx TbT) [.v 9, .v 15] (.op (.scmp .gtr) [.v 30, .v 17] (.ite (.v 31) (.op .inb [.v 9, .v 15] (.op (.idx TbT) [.v 9, .v 15] (.op (.ibin .add .i64) [.v 15, .l (.int .i64 1)] (.jump 1 [.v 37, .v 16, .v 36])))) (.op (.ibin .add .i64) [.v 15, .l (.int .i64 1)] (.jump 1 [.v 32, .v 16, .v 17])))))))))) (.op (.ibin .add .i64) [.v 2, .l (.int .i64 1)] (.op (.call 117) [.v 0, .v 20] (.loop [.v 9, .l (.int .i64 0)] [TbT.sl, Ty.int .i64] (.op .len [.v 21] (.op (.icmp .lss) [.v 23, .v 24] (.ite (.v 25) (.op .inb [.v 21, .v 23] (.op (.idx TbT) [.v 21, .v 23] (.op (.call 101) [.v 26, .v 27, .v 28, .v 29, .v 30, .v 10, .v 11, .v 12, .v 16, .v 17] (.ite (.v 31) (.op .len [.v 22] (.op .len [.v 22] (.op .ful [.v 22, .l (.int .i64 0), .v 32, .v 33] (.op .inb [.v 21, .v 23] (.op (.idx TbT) [.v 21, .v 23] (.op (.mk TbT 1) [.v 35, .v 36, .v 37, .v 38, .v 39] (.op .appn [.v 34, .v 40] (.op (.ibin .add .i64) [.v 23, .l (.int .i64 1)] (.jump 2 [.v 41, .v 42]))))))))) (.op (.ibin .add .i64) [.v 23, .l (.int .i64 1)] (.jump 2 [.v 22, .v 32])))))) (.op (.call 63) [.v 22] (.op (.ibin .add .i64) [.v 2, .l (.int .i64 1)] (.loop [.l (.int .i64 0), .l (.bool true)] [Ty.int .i64, Ty.bool] (.op .len [.v 0] (.op (.icmp .lss) [.v 28, .v 30] (.ite (.v 31) (.op .inb [.v 0, .v 28] (.op (.idx TbT) [.v 0, .v 28] (.op (.ibin .add .i64) [.v 2, .l (.int .i64 1)] (.op (.icmp .gtr) [.v 33, .v 37] (.ite (.v 38) (.op .inb [.v 0, .v 28] (.op (.idx TbT) [.v 0, .v 28] (.op (.call 118) [.v 39, .v 40, .v 41, .v 42, .v 43, .v 22] (.ite (.v 44) (.op (.ibin .add .i64) [.v 28, .l (.int .i64 1)] (.jump 3 [.v 45, .l (.bool false)])) (.op (.ibin .add .i64) [.v 28, .l (.int .i64 1)] (.jump 3 [.v 45, .v 29])))))) (.op (.ibin .add .i64) [.v 28, .l (.int .i64 1)] (.jump 3 [.v 39, .v 29]))))))) (.ret [.v 26, .v 27, .v 29])))))))))))))))))))) (.op .inb [.v 7, .l (.int .i64 0)] (.op (.idx TbT) [.v 7, .l (.int .i64 0)] (.loop [.l (.int .i64 0), .v 12, .v 13] [Ty.int .i64, Ty.str, Ty.str] (.op .len [.v 7] (.op (.icmp .lss) [.v 14, .v 17] (.ite (.v 18) (.op .inb [.v 7, .v 14] (.op (.idx TbT) [.v 7, .v 14] (.op (.scmp .lss) [.v 22, .v 15] (.ite (.v 24) (.op .inb [.v 7, .v 14] (.op (.idx TbT) [.v 7, .v 14] (.op .inb [.v 7, .v 14] (.op (.idx TbT) [.v 7, .v 14] (.op (.scmp .gtr) [.v 34, .v 16] (.ite (.v 35) (.op .inb [.v 7, .v 14] (.op (.idx TbT) [.v 7, .v 14] (.op (.ibin .add .i64) [.v 14, .l (.int .i64 1)] (.jump 1 [.v 41, .v 28, .v 40])))) (.op (.ibin .add .i64) [.v 14, .l (.int .i64 1)] (.jump 1 [.v 36, .v 28, .v 16])))))))) (.op .inb [.v 7, .v 14] (.op (.idx TbT) [.v 7, .v 14] (.op (.scmp .gtr) [.v 29, .v 16] (.ite (.v 30) (.op .inb [.v 7, .v 14] (.op (.idx TbT) [.v 7, .v 14] (.op (.ibin .add .i64) [.v 14, .l (.int .i64 1)] (.jump 1 [.v 36, .v 15, .v 35])))) (.op (.ibin .add .i64) [.v 14, .l (.int .i64 1)] (.jump 1 [.v 31, .v 15, .v 16])))))))))) (.op (.ibin .add .i64) [.v 2, .l (.int .i64 1)] (.op (.call 117) [.v 0, .v 19] (.loop [.v 7, .l (.int .i64 0)] [TbT.sl, Ty.int .i64] (.op .len [.v 20] (.op (.icmp .lss) [.v 22, .v 23] (.ite (.v 24) (.op .inb [.v 20, .v 22] (.op (.idx TbT) [.v 20, .v 22] (.op (.call 101) [.v 25, .v 26, .v 27, .v 28, .v 29, .v 9, .v 10, .v 11, .v 15, .v 16] (.ite (.v 30) (.op .len [.v 21] (.op .len [.v 21] (.op .ful [.v 21, .l (.int .i64 0), .v 31, .v 32] (.op .inb [.v 20, .v 22] (.op (.idx TbT) [.v 20, .v 22] (.op (.mk TbT 1) [.v 34, .v 35, .v 36, .v 37, .v 38] (.op .appn [.v 33, .v 39] (.op (.ibin .add .i64) [.v 22, .l (.int .i64 1)] (.jump 2 [.v 40, .v 41]))))))))) (.op (.ibin .add .i64) [.v 22, .l (.int .i64 1)] (.jump 2 [.v 21, .v 31])))))) (.op (.call 63) [.v 21] (.op (.ibin .add .i64) [.v 2, .l (.int .i64 1)] (.loop [.l (.int .i64 0), .l (.bool true)] [Ty.int .i64, Ty.bool] (.op .len [.v 0] (.op (.icmp .lss) [.v 27, .v 29] (.ite (.v 30) (.op .inb [.v 0, .v 27] (.op (.idx TbT) [.v 0, .v 27] (.op (.ibin .add .i64) [.v 2, .l (.int .i64 1)] (.op (.icmp .gtr) [.v 32, .v 36] (.ite (.v 37) (.op .inb [.v 0, .v 27] (.op (.idx TbT) [.v 0, .v 27] (.op (.call 118) [.v 38, .v 39, .v 40, .v 41, .v 42, .v 21] (.ite (.v 43) (.op (.ibin .add .i64) [.v 27, .l (.int .i64 1)] (.jump 3 [.v 44, .l (.bool false)])) (.op (.ibin .add .i64) [.v 27, .l (.int .i64 1)] (.jump 3 [.v 44, .v 28])))))) (.op (.ibin .add .i64) [.v 27, .l (.int .i64 1)] (.jump 3 [.v 38, .v 28]))))))) (.ret [.v 25, .v 26, .v 28]))))))))))))))))))))))))))) (.op (.icmp .eql) [.v 2, .l (.int .i64 4)] (.ite (.v 4) (.ret [.l (.nil (Ty.int .i64)), .l (.int .i64 0), .l (.bool false)]) (.op (.call 117) [.v 0, .v 2] (.op (.icmp .gtr) [.v 2, .l (.int .i64 0)] (.ite (.v 6) (.op .sub [.v 5, .l (.int .i64 0), .l (.int .i64 1)] (.op .inb [.v 7, .l (.int .i64 0)] (.op (.idx TbT) [.v 7, .l (.int .i64 0)] (.loop [.l (.int .i64 0), .v 11, .v 12] [Ty.int .i64, Ty.str, Ty.str] (.op .len [.v 7] (.op (.icmp .lss) [.v 13, .v 16] (.ite (.v 17) (.op .inb [.v 7, .v 13] (.op (.idx TbT) [.v 7, .v 13] (.op (.scmp .lss) [.v 21, .v 14] (.ite (.v 23) (.op .inb [.v 7, .v 13] (.op (.idx TbT) [.v 7, .v 13] (.op .inb [.v 7, .v 13] (.op (.idx TbT) [.v 7, .v 13] (.op (.scmp .gtr) [.v 33, .v 15] (.ite (.v 34) (.op .inb [.v 7, .v 13] (.op (.idx TbT) [.v 7, .v 13] (.op (.ibin .add .i64) [.v 13, .l (.int .i64 1)] (.jump 1 [.v 40, .v 27, .v 39])))) (.op (.ibin .add .i64) [.v 13, .l (.int .i64 1)] (.jump 1 [.v 35, .v 27, .v 15])))))))) (.op .inb [.v 7, .v 13] (.op (.idx TbT) [.v 7, .v 13] (.op (.scmp .gtr) [.v 28, .v 15] (.ite (.v 29) (.op .inb [.v 7, .v 13] (.op (.idx TbT) [.v 7, .v 13] (.op (.ibin .add .i64) [.v 13, .l (.int .i64 1)] (.jump 1 [.v 35, .v 14, .v 34])))) (.op (.ibin .add .i64) [.v 13, .l (.int .i64 1)] (.jump 1 [.v 30, .v 14, .v 15])))))))))) (.op (.ibin .add .i64) [.v 2, .l (.int .i64 1)] (.op (.call 117) [.v 0, .v 18] (.loop [.v 7, .l (.int .i64 0)] [TbT.sl, Ty.int .i64] (.op .len [.v 19] (.op (.icmp .lss) [.v 21, .v 22] (.ite (.v 23) (.op .inb [.v 19, .v 21] (.op (.idx TbT) [.v 19, .v 21] (.op (.call 101) [.v 24, .v 25, .v 26, .v 27, .v 28, .v 8, .v 9, .v 10, .v 14, .v 15] (.ite (.v 29) (.op .len [.v 20] (.op .len [.v 20] (.op .ful [.v 20, .l (.int .i64 0), .v 30, .v 31] (.op .inb [.v 19, .v 21] (.op (.idx TbT) [.v 19, .v 21] (.op (.mk TbT 1) [.v 33, .v 34, .v 35, .v 36, .v 37] (.op .appn [.v 32, .v 38] (.op (.ibin .add .i64) [.v 21, .l (.int .i64 1)] (.jump 2 [.v 39, .v 40]))))))))) (.op (.ibin .add .i64) [.v 21, .l (.int .i64 1)] (.jump 2 [.v 20, .v 30])))))) (.op (.call 63) [.v 20] (.op (.ibin .add .i64) [.v 2, .l (.int .i64 1)] (.loop [.l (.int .i64 0), .l (.bool true)] [Ty.int .i64, Ty.bool] (.op .len [.v 0] (.op (.icmp .lss) [.v 26, .v 28] (.ite (.v 29) (.op .inb [.v 0, .v 26] (.op (.idx TbT) [.v 0, .v 26] (.op (.ibin .add .i64) [.v 2, .l (.int .i64 1)] (.op (.icmp .gtr) [.v 31, .v 35] (.ite (.v 36) (.op .inb [.v 0, .v 26] (.op (.idx TbT) [.v 0, .v 26] (.op (.call 118) [.v 37, .v 38, .v 39, .v 40, .v 41, .v 20] (.ite (.v 42) (.op (.ibin .add .i64) [.v 26, .l (.int .i64 1)] (.jump 3 [.v 43, .l (.bool false)])) (.op (.ibin .add .i64) [.v 26, .l (.int .i64 1)] (.jump 3 [.v 43, .v 27])))))) (.op (.ibin .add .i64) [.v 26, .l (.int .i64 1)] (.jump 3 [.v 37, .v 27]))))))) (.ret [.v 24, .v 25, .v 27])))))))))))))))))))) (.op .inb [.v 5, .l (.int .i64 0)] (.op (.idx TbT) [.v 5, .l (.int .i64 0)] (.loop [.l (.int .i64 0), .v 10, .v 11] [Ty.int .i64, Ty.str, Ty.str] (.op .len [.v 5] (.op (.icmp .lss) [.v 12, .v 15] (.ite (.v 16) (.op .inb [.v 5, .v 12] (.op (.idx TbT) [.v 5, .v 12] (.op (.scmp .lss) [.v 20, .v 13] (.ite (.v 22) (.op .inb [.v 5, .v 12] (.op (.idx TbT) [.v 5, .v 12] (.op .inb [.v 5, .v 12] (.op (.idx TbT) [.v 5, .v 12] (.op (.scmp .gtr) [.v 32, .v 14] (.ite (.v 33) (.op .inb [.v 5, .v 12] (.op (.idx TbT) [.v 5, .v 12] (.op (.ibin .add .i64) [.v 12, .l (.int .i64 1)] (.jump 1 [.v 39, .v 26, .v 38])))) (.op (.ibin .add .i64) [.v 12, .l (.int .i64 1)] (.jump 1 [.v 34, .v 26, .v 14])))))))) (.op .inb [.v 5, .v 12] (.op (.idx TbT) [.v 5, .v 12] (.op (.scmp .gtr) [.v 27, .v 14] (.ite (.v 28) (.op .inb [.v 5, .v 12] (.op (.idx TbT) [.v 5, .v 12] (.op (.ibin .add .i64) [.v 12, .l (.int .i64 1)] (.jump 1 [.v 34, .v 13, .v 33])))) (.op (.ibin .add .i64) [.v 12, .l (.int .i64 1)] (.jump 1 [.v 29, .v 13, .v 14])))))))))) (.op (.ibin .add .i64) [.v 2, .l (.int .i64 1)] (.op (.call 117) [.v 0, .v 17] (.loop [.v 5, .l (.int .i64 0)] [TbT.sl, Ty.int .i64] (.op .len [.v 18] (.op (.icmp .lss) [.v 20, .v 21] (.ite (.v 22) (.op .inb [.v 18, .v 20] (.op (.idx TbT) [.v 18, .v 20] (.op (.call 101) [.v 23, .v 24, .v 25, .v 26, .v 27, .v 7, .v 8, .v 9, .v 13, .v 14] (.ite (.v 28) (.op .len [.v 19] (.op .len [.v 19] (.op .ful [.v 19, .l (.int .i64 0), .v 29, .v 30] (.op .inb [.v 18, .v 20] (.op (.idx TbT) [.v 18, .v 20] (.op (.mk TbT 1) [.v 32, .v 33, .v 34, .v 35, .v 36] (.op .appn [.v 31, .v 37] (.op (.ibin .add .i64) [.v 20, .l (.int .i64 1)] (.jump 2 [.v 38, .v 39]))))))))) (.op (.ibin .add .i64) [.v 20, .l (.int .i64 1)] (.jump 2 [.v 19, .v 29])))))) (.op (.call 63) [.v 19] (.op (.ibin .add .i64) [.v 2, .l (.int .i64 1)] (.loop [.l (.int .i64 0), .l (.bool true)] [Ty.int .i64, Ty.bool] (.op .len [.v 0] (.op (.icmp .lss) [.v 25, .v 27] (.ite (.v 28) (.op .inb [.v 0, .v 25] (.op (.idx TbT) [.v 0, .v 25] (.op (.ibin .add .i64) [.v 2, .l (.int .i64 1)] (.op (.icmp .gtr) [.v 30, .v 34] (.ite (.v 35) (.op .inb [.v 0, .v 25] (.op (.idx TbT) [.v 0, .v 25] (.op (.call 118) [.v 36, .v 37, .v 38, .v 39, .v 40, .v 19] (.ite (.v 41) (.op (.ibin .add .i64) [.v 25, .l (.int .i64 1)] (.jump 3 [.v 42, .l (.bool false)])) (.op (.ibin .add .i64) [.v 25, .l (.int .i64 1)] (.jump 3 [.v 42, .v 26])))))) (.op (.ibin .add .i64) [.v 25, .l (.int .i64 1)] (.jump 3 [.v 36, .v 26]))))))) (.ret [.v 23, .v 24, .v 26]))))))))))))))))))))))))))
def sig55 : Sig := { id := 55, ins := [], outs := [(false, [(Ty.bool, none)])] }
def ir55 : IR := .op (.mk TbT 4) [.l (.int .i64 1), .l (.int .i64 0), .l (.int .i64 0), .l (.str [Int.ofNat 97]), .l (.str [Int.ofNat 99]), .l (.int .i64 2), .l (.int .i64 0), .l (.int .i64 0), .l (.str [Int.ofNat 97]), .l (.str [Int.ofNat 99]), .l (.int .i64 3), .l (.int .i64 0), .l (.int .i64 0), .l (.str [Int.ofNat 97]), .l (.str [Int.ofNat 99]), .l (.int .i64 4), .l (.int .i64 0), .l (.int .i64 0), .l (.str [Int.ofNat 98]), .l (.str [Int.ofNat 100])] (.op (.call 56) [.v 0, .l (.int .i64 100)] (.ite (.v 4) (.op (.mk (Ty.int .i64) 4) [.l (.int .i64 4), .l (.int .i64 3), .l (.int .i64 2), .l (.int .i64 1)] (.op (.call 62) [.v 1, .v 5] (.ite (.v 6) (.op (.icmp .eql) [.v 2, .l (.int .i64 1)] (.ite (.v 7) (.ite (.v 3) (.op .inb [.v 0, .l (.int .i64 0)] (.op (.idx TbT) [.v 0, .l (.int .i64 0)] (.op .inb [.v 0, .l (.int .i64 3)] (.op (.idx TbT) [.v 0, .l (.int .i64 3)] (.op (.call 102) [.v 8, .v 9, .v 10, .v 11, .v 12, .v 13, .v 14, .v 15, .v 16, .v 17] (.ret [.v 18])))))) (.ret [.l (.bool false)])) (.ret [.l (.bool false)]))) (.ret [.l (.bool false)])))) (.ret [.l (.bool false)])))
def sig13 : Sig := { id := 13, ins := [(false, TbT.sl), (false, Ty.int .i64), (false, Ty.str)], outs := [(false, [(Ty.bool, none)])] }
def ir13 : IR := .op (.call 53) [.v 0] (.op .not [.v 3] (.ite (.v 4) (.op (.call 55) [] (.ret [.v 5])) (.op (.call 54) [.v 0] (.op .not [.v 5] (.ite (.v 6) (.op (.call 55) [] (.ret [.v 7])) (.op .len [.v 2] (.op (.icmp .gtr) [.v 7, .l (.int .i64 200)] (.ite (.v 8) (.op (.call 55) [] (.ret [.v 9])) (.op (.call 56) [.v 0, .v 1] (.op .not [.v 12] (.ite (.v 13) (.op (.call 55) [] (.ret [.v 14])) (.op (.mk TbT 0) [] (.loop [.v 14, .l (.bool false), .l (.int .i64 0), .l (.str []), .l (.str [])] [TbT.sl, Ty.bool, Ty.int .i64, Ty.str, Ty.str] (.op .len [.v 0] (.op (.icmp .lss) [.v 17, .v 20] (.ite (.v 21) (.op .inb [.v 0, .v 17] (.op (.idx TbT) [.v 0, .v 17] (.op (.icmp .eql) [.v 22, .l (.int .i64 2147483647)] (.ite (.v 27) (.op (.call 55) [] (.ret [.v 28])) (.op (.call 57) [.v 9, .v 22] (.op .not [.v 28] (.ite (.v 29) (.op (.mk TbT 1) [.v 22, .v 23, .v 24, .v 25, .v 26] (.op .app [.v 15, .v 30] (.op (.ibin .add .i64) [.v 17, .l (.int .i64 1)] (.jump 0 [.v 31, .v 16, .v 32, .v 18, .v 19])))) (.ite (.v 16) (.op (.scmp .eql) [.v 18, .l (.str [])] (.ite (.v 30) (.op (.scmp .gtr) [.v 26, .v 19] (.ite (.v 31) (.op (.ibin .add .i64) [.v 17, .l (.int .i64 1)] (.jump 0 [.v 15, .l (.bool true), .v 32, .v 25, .v 26])) (.op (.ibin .add .i64) [.v 17, .l (.int .i64 1)] (.jump 0 [.v 15, .l (.bool true), .v 32, .v 25, .v 19])))) (.op (.scmp .lss) [.v 25, .v 18] (.ite (.v 31) (.op (.scmp .gtr) [.v 26, .v 19] (.ite (.v 32) (.op (.ibin .add .i64) [.v 17, .l (.int .i64 1)] (.jump 0 [.v 15, .l (.bool true), .v 33, .v 25, .v 26])) (.op (.ibin .add .i64) [.v 17, .l (.int .i64 1)] (.jump 0 [.v 15, .l (.bool true), .v 33, .v 25, .v 19])))) (.op (.scmp .gtr) [.v 26, .v 19] (.ite (.v 32) (.op (.ibin .add .i64) [.v 17, .l (.int .i64 1)] (.jump 0 [.v 15, .l (.bool true), .v 33, .v 18, .v 26])) (.op (.ibin .add .i64) [.v 17, .l (.int .i64 1)] (.jump 0 [.v 15, .l (.bool true), .v 33, .v 18, .v 19])))))))) (.op (.scmp .leq) [.v 25, .v 2] (.ite (.v 30) (.op (.scmp .leq) [.v 2, .v 26] (.op (.scmp .eql) [.v 18, .l (.str [])] (.ite (.v 32) (.op (.scmp .gtr) [.v 26, .v 19] (.ite (.v 33) (.op (.ibin .add .i64) [.v 17, .l (.int .i64 1)] (.jump 0 [.v 15, .v 31, .v 34, .v 25, .v 26])) (.op (.ibin .add .i64) [.v 17, .l (.int .i64 1)] (.jump 0 [.v 15, .v 31, .v 34, .v 25, .v 19])))) (.op (.scmp .lss) [.v 25, .v 18] (.ite (.v 33) (.op (.scmp .gtr) [.v 26, .v 19] (.ite (.v 34) (.op (.ibin .add .i64) [.v 17, .l (.int .i64 1)] (.jump 0 [.v 15, .v 31, .v 35, .v 25, .v 26])) (.op (.ibin .add .i64) [.v 17, .l (.int .i64 1)] (.jump 0 [.v 15, .v 31, .v 35, .v 25, .v 19])))) (.op (.scmp .gtr) [.v 26, .v 19] (.ite (.v 34) (.op (.ibin .add .i64) [.v 17, .l (.int .i64 1)] (.jump 0 [.v 15, .v 31, .v 35, .v 18, .v 26])) (.op (.ibin .add .i64) [.v 17, .l (.int .i64 1)] (.jump 0 [.v 15, .v 31, .v 35, .v 18, .v 19]))))))))) (.op (.scmp .eql) [.v 18, .l (.str [])] (.ite (.v 31) (.op (.scmp .gtr) [.v 26, .v 19] (.ite (.v 32) (.op (.ibin .add .i64) [.v 17, .l (.int .i64 1)] (.jump 0 [.v 15, .l (.bool false), .v 33, .v 25, .v 26])) (.op (.ibin .add .i64) [.v 17, .l (.int .i64 1)] (.jump 0 [.v 15, .l (.bool false), .v 33, .v 25, .v 19])))) (.op (.scmp .lss) [.v 25, .v 18] (.ite (.v 32) (.op (.scmp .gtr) [.v 26, .v 19] (.ite (.v 33) (.op (.ibin .add .i64) [.v 17, .l (.int .i64 1)] (.jump 0 [.v 15, .l (.bool false), .v 34, .v 25, .v 26])) (.op (.ibin .add .i64) [.v 17, .l (.int .i64 1)] (.jump 0 [.v 15, .l (.bool false), .v 34, .v 25, .v 19])))) (.op (.scmp .gtr) [.v 26, .v 19] (.ite (.v 33) (.op (.ibin .add .i64) [.v 17, .l (.int .i64 1)] (.jump 0 [.v 15, .l (.bool false), .v 34, .v 18, .v 26])) (.op (.ibin .add .i64) [.v 17, .l (.int .i64 1)] (.jump 0 [.v 15, .l (.bool false), .v 34, .v 18, .v 19])))))))))))))))))) (.op (.mk TbT 1) [.l (.int .i64 2147483647), .v 10, .l (.int .i64 0), .v 18, .v 19] (.op .app [.v 15, .v 22] (.op (.call 58) [.v 23] (.op (.icmp .eql) [.v 24, .l (.int .i64 0)] (.ite (.v 25) (.op .not [.v 16] (.ite (.v 26) (.op (.call 55) [] (.ret [.v 27])) (.op (.call 59) [.v 23, .v 2] (.op (.call 57) [.v 27, .l (.int .i64 2147483647)] (.ite (.v 28) (.op (.call 55) [] (.ret [.v 29])) (.ret [.l (.bool false)])))))) (.ret [.l (.bool false)]))))))))))))))))))))))
def sig14 : Sig := { id := 14, ins := [(false, TbT.sl), (false, Ty.int .i64)], outs := [(false, [(Ty.bool, none)])] }
def ir14 : IR := .op (.call 53) [.v 0] (.op .not [.v 2] (.ite (.v 3) (.op (.call 55) [] (.ret [.v 4])) (.op (.call 56) [.v 0, .v 1] (.op (.call 60) [.v 0] (.op (.call 54) [.v 0] (.op .not [.v 12] (.ite (.v 13) (.op .not [.v 7] (.ite (.v 14) (.op (.icmp .eql) [.v 5, .l (.int .i64 0)] (.ite (.v 15) (.op .len [.v 4] (.op (.icmp .eql) [.v 16, .l (.int .i64 0)] (.ite (.v 17) (.op (.call 54) [.v 0] (.ite (.v 18) (.op (.call 55) [] (.ret [.v 19])) (.op .not [.v 11] (.ite (.v 19) (.op (.call 55) [] (.ret [.v 20])) (.ret [.l (.bool false)]))))) (.ret [.l (.bool false)])))) (.ret [.l (.bool false)]))) (.ret [.l (.bool false)]))) (.op (.icmp .lss) [.v 1, .l (.int .i64 1)] (.ite (.v 14) (.op .not [.v 7] (.ite (.v 15) (.op (.icmp .eql) [.v 5, .l (.int .i64 0)] (.ite (.v 16) (.op .len [.v 4] (.op (.icmp .eql) [.v 17, .l (.int .i64 0)] (.ite (.v 18) (.op (.call 54) [.v 0] (.ite (.v 19) (.op (.call 55) [] (.ret [.v 20])) (.op .not [.v 11] (.ite (.v 20) (.op (.call 55) [] (.ret [.v 21])) (.ret [.l (.bool false)]))))) (.ret [.l (.bool false)])))) (.ret [.l (.bool false)]))) (.ret [.l (.bool false)]))) (.op (.icmp .gtr) [.v 1, .l (.int .i64 1048576)] (.ite (.v 15) (.op .not [.v 7] (.ite (.v 16) (.op (.icmp .eql) [.v 5, .l (.int .i64 0)] (.ite (.v 17) (.op .len [.v 4] (.op (.icmp .eql) [.v 18, .l (.int .i64 0)] (.ite (.v 19) (.op (.call 54) [.v 0] (.ite (.v 20) (.op (.call 55) [] (.ret [.v 21])) (.op .not [.v 11] (.ite (.v 21) (.op (.call 55) [] (.ret [.v 22])) (.ret [.l (.bool false)]))))) (.ret [.l (.bool false)])))) (.ret [.l (.bool false)]))) (.ret [.l (.bool false)]))) (.op (.call 61) [.v 0, .v 1] (.op (.icmp .gtr) [.v 17, .l (.int .i64 0)] (.op (.bcmp .neq) [.v 7, .v 19] (.ite (.v 20) (.ret [.l (.bool false)]) (.op (.icmp .neq) [.v 5, .v 17] (.ite (.v 21) (.ret [.l (.bool false)]) (.op (.bcmp .neq) [.v 6, .v 18] (.ite (.v 22) (.ret [.l (.bool false)]) (.op (.call 62) [.v 4, .v 16] (.op .not [.v 23] (.ite (.v 24) (.ret [.l (.bool false)]) (.op .len [.v 0] (.op (.icmp .eql) [.v 25, .l (.int .i64 0)] (.ite (.v 26) (.op .not [.v 11] (.ite (.v 27) (.op (.icmp .eql) [.v 9, .l (.int .i64 0)] (.ite (.v 28) (.op (.call 55) [] (.ret [.v 29])) (.ret [.l (.bool false)]))) (.ret [.l (.bool false)]))) (.loop [.l (.int .i64 1), .l (.int .i64 0)] [Ty.int .i64, Ty.int .i64] (.op .len [.v 0] (.op (.icmp .lss) [.v 28, .v 29] (.ite (.v 30) (.op .inb [.v 0, .v 28] (.op (.idx TbT) [.v 0, .v 28] (.op (.icmp .gtr) [.v 32, .v 27] (.ite (.v 36) (.op .inb [.v 0, .v 28] (.op (.idx TbT) [.v 0, .v 28] (.op (.ibin .add .i64) [.v 28, .l (.int .i64 1)] (.jump 0 [.v 38, .v 42])))) (.op (.ibin .add .i64) [.v 28, .l (.int .i64 1)] (.jump 0 [.v 27, .v 37])))))) (.ite (.v 11) (.op (.icmp .eql) [.v 9, .v 27] (.ite (.v 31) (.ite (.v 10) (.op (.call 64) [.v 0] (.op (.call 63) [.v 32] (.op (.call 62) [.v 8, .v 33] (.ite (.v 34) (.op (.call 55) [] (.ret [.v 35])) (.ret [.l (.bool false)]))))) (.ret [.l (.bool false)])) (.ret [.l (.bool false)]))) (.ret [.l (.bool false)])))))))))))))))))))))))))))))))
noncomputable def F53 : List D → Option (List D) := Fof [] ir53
noncomputable def c53 : Ct := ⟨sig53, F53⟩
noncomputable def F62 : List D → Option (List D) := Fof [] ir62
noncomputable def c62 : Ct := ⟨sig62, F62⟩
noncomputable def F57 : List D → Option (List D) := Fof [] ir57
noncomputable def c57 : Ct := ⟨sig57, F57⟩
noncomputable def F63 : List D → Option (List D) := Fof [] ir63
noncomputable def c63 : Ct := ⟨sig63, F63⟩
noncomputable def F101 : List D → Option (List D) := Fof [] ir101
noncomputable def c101 : Ct := ⟨sig101, F101⟩
noncomputable def F102 : List D → Option (List D) := Fof [] ir102
noncomputable def c102 : Ct := ⟨sig102, F102⟩
noncomputable def F114 : List D → Option (List D) := Fof [] ir114
noncomputable def c114 : Ct := ⟨sig114, F114⟩
noncomputable def F58 : List D → Option (List D) := Fof [c114, c102] ir58
noncomputable def c58 : Ct := ⟨sig58, F58⟩
noncomputable def F109 : List D → Option (List D) := Fof [] ir109
noncomputable def c109 : Ct := ⟨sig109, F109⟩
noncomputable def F103 : List D → Option (List D) := Fof [c135, c109] ir103
noncomputable def c103 : Ct := ⟨sig103, F103⟩
noncomputable def F113 : List D → Option (List D) := Fof [] ir113
noncomputable def c113 : Ct := ⟨sig113, F113⟩
noncomputable def F104 : List D → Option (List D) := Fof [c109] ir104
noncomputable def c104 : Ct := ⟨sig104, F104⟩
noncomputable def F105 : List D → Option (List D) := Fof [] ir105
noncomputable def c105 : Ct := ⟨sig105, F105⟩
noncomputable def F106 : List D → Option (List D) := Fof [] ir106
noncomputable def c106 : Ct := ⟨sig106, F106⟩
noncomputable def F112 : List D → Option (List D) := Fof [c102] ir112
noncomputable def c112 : Ct := ⟨sig112, F112⟩
noncomputable def F60 : List D → Option (List D) := Fof [c58, c103, c113] ir60
noncomputable def c60 : Ct := ⟨sig60, F60⟩
noncomputable def F119 : List D → Option (List D) := Fof [] ir119
noncomputable def c119 : Ct := ⟨sig119, F119⟩
noncomputable def F64 : List D → Option (List D) := Fof [c119] ir64
noncomputable def c64 : Ct := ⟨sig64, F64⟩
noncomputable def F59 : List D → Option (List D) := Fof [c58, c103, c113] ir59
noncomputable def c59 : Ct := ⟨sig59, F59⟩
noncomputable def F56 : List D → Option (List D) := Fof [c58, c103, c104, c105, c106, c102, c109, c112, c113] ir56
noncomputable def c56 : Ct := ⟨sig56, F56⟩
noncomputable def F54 : List D → Option (List D) := Fof [c101] ir54
noncomputable def c54 : Ct := ⟨sig54, F54⟩
noncomputable def F117 : List D → Option (List D) := Fof [c64] ir117
noncomputable def c117 : Ct := ⟨sig117, F117⟩
noncomputable def F116 : List D → Option (List D) := Fof [c117] ir116
noncomputable def c116 : Ct := ⟨sig116, F116⟩
noncomputable def F118 : List D → Option (List D) := Fof [c101] ir118
noncomputable def c118 : Ct := ⟨sig118, F118⟩
noncomputable def F61 : List D → Option (List D) := Fof [c116, c117, c101, c63, c118] ir61
noncomputable def c61 : Ct := ⟨sig61, F61⟩
noncomputable def F55 : List D → Option (List D) := Fof [c56, c62, c102] ir55
noncomputable def c55 : Ct := ⟨sig55, F55⟩
noncomputable def F13 : List D → Option (List D) := Fof [c53, c55, c54, c56, c57, c58, c59] ir13
noncomputable def c13 : Ct := ⟨sig13, F13⟩
noncomputable def F14 : List D → Option (List D) := Fof [c53, c55, c56, c60, c54, c61, c62, c64, c63] ir14
noncomputable def c14 : Ct := ⟨sig14, F14⟩
end Go.Proofs.Ytdjknicjnaiomaa.Sx

set_option maxHeartbeats 1600000
/- Tables: the small functions. -/
namespace Go.Proofs.Ytdjknicjnaiomaa.Sx
attribute [local simp ↓] den_start deb_op deb_ret deb_jump deb_itev deb_itel deb_loop deb_fail deb_nilcv
attribute [local simp] nilE_some opE_some debP_nil debP_cons pushL_nil pushL_cons retE_some iteE_some evB_nil evB_v evB_l lkE_cons consE_some d_int d_bool d_str d_nil o_add o_sub o_mul o_and o_or o_xor o_andNot o_quo o_rem o_shl o_shr o_eql o_neq o_lss o_leq o_gtr o_geq o_seql o_sneq o_slss o_sleq o_sgtr o_sgeq o_beql o_bneq o_scat o_not o_neg o_com o_conv o_s2b o_b2s o_len o_slen o_inb o_idx o_sidx o_sub3 o_sub2 o_ssub3 o_ssub2 o_app o_clr o_appn o_ful o_apps o_mk mkE_some consD_some mkD_zero mkD_int mkD_str mkD_sl o_imin o_imax o_smin o_smax o_eqs eqsE_some eqC_nil andE_some eqC_int eqC_bool eqC_str j1 outE_some outE_none outE_ite agE_1 loopE_1 agE_2 loopE_2 agE_3 loopE_3 agE_4 loopE_4 agE_5 loopE_5 agE_6 loopE_6 agE_7 loopE_7 agE_8 loopE_8 agE_9 loopE_9 List.cons_append List.nil_append List.append_nil split List.take_succ_cons List.take_zero List.drop_succ_cons List.drop_zero

def cnt (n : Int) : Bool := decide (1 ≤ n ∧ n ≤ 2147483647)
def tabOk (n v s : Int) (f l : List Int) : Bool := cnt n && decide (0 ≤ v ∧ v ≤ 4) && decide (0 ≤ s ∧ s ≤ 1073741824) && decide (f ≠ [] ∧ f.length ≤ 64 ∧ l.length ≤ 64) && (ltL f l || decide (f = l))
def meetL (d e d' e' : List Int) : Bool := !ltL e d' && !ltL e' d
def meetT (x y : Tb) : Bool := meetL x.f x.l y.f y.l
def lightT (l : List Tb) : Bool := decide (l.length ≤ 80) && l.all fun x => decide (x.f.length ≤ 200 ∧ x.l.length ≤ 200)
abbrev tbD (x : Tb) : List D := [⟨.int .i64, x.1⟩, ⟨.int .i64, x.2.1⟩, ⟨.int .i64, x.2.2.1⟩, ⟨.str, x.2.2.2.1⟩, ⟨.str, x.2.2.2.2⟩]

theorem f102 (a b c : Int) (d e : List Int) (a' b' c' : Int) (d' e' : List Int) : F102 [⟨.int .i64, a⟩, ⟨.int .i64, b⟩, ⟨.int .i64, c⟩, ⟨.str, d⟩, ⟨.str, e⟩, ⟨.int .i64, a'⟩, ⟨.int .i64, b'⟩, ⟨.int .i64, c'⟩, ⟨.str, d'⟩, ⟨.str, e'⟩] = some [⟨.bool, meetL d e d' e'⟩] := by
  simp only [F102, Fof, ir102]
  unfold meetL
  cases h : ltL e d' <;> simp -implicitDefEqProofs [h]
theorem s102 {lc : List Ct} (hl0 : look (lc.map fun c => (c.sig.id, c)) 102 = some c102) : ∀ (a b c : Int) (d e : List Int) (a' b' c' : Int) (d' e' : List Int), Does1 (Phi lc) 102 [⟨.int .i64, a⟩, ⟨.int .i64, b⟩, ⟨.int .i64, c⟩, ⟨.str, d⟩, ⟨.str, e⟩, ⟨.int .i64, a'⟩, ⟨.int .i64, b'⟩, ⟨.int .i64, c'⟩, ⟨.str, d'⟩, ⟨.str, e'⟩] [⟨.bool, meetL d e d' e'⟩] :=
  fun a b c d e a' b' c' d' e' => by
    have eFc : c102.F = F102 := rfl
    have eFh := f102 a b c d e a' b' c' d' e'
    rw [← eFc] at eFh
    exact Does1.of hl0 eFh rfl
theorem f101 (a b c : Int) (d e : List Int) (a' b' c' : Int) (d' e' : List Int) : F101 [⟨.int .i64, a⟩, ⟨.int .i64, b⟩, ⟨.int .i64, c⟩, ⟨.str, d⟩, ⟨.str, e⟩, ⟨.int .i64, a'⟩, ⟨.int .i64, b'⟩, ⟨.int .i64, c'⟩, ⟨.str, d'⟩, ⟨.str, e'⟩] = some [⟨.bool, meetL d e d' e'⟩] := by
  simp only [F101, Fof, ir101]
  unfold meetL
  cases h : ltL e d' <;> simp -implicitDefEqProofs [h]
theorem s101 {lc : List Ct} (hl0 : look (lc.map fun c => (c.sig.id, c)) 101 = some c101) : ∀ (a b c : Int) (d e : List Int) (a' b' c' : Int) (d' e' : List Int), Does1 (Phi lc) 101 [⟨.int .i64, a⟩, ⟨.int .i64, b⟩, ⟨.int .i64, c⟩, ⟨.str, d⟩, ⟨.str, e⟩, ⟨.int .i64, a'⟩, ⟨.int .i64, b'⟩, ⟨.int .i64, c'⟩, ⟨.str, d'⟩, ⟨.str, e'⟩] [⟨.bool, meetL d e d' e'⟩] :=
  fun a b c d e a' b' c' d' e' => by
    have eFc : c101.F = F101 := rfl
    have eFh := f101 a b c d e a' b' c' d' e'
    rw [← eFc] at eFh
    exact Does1.of hl0 eFh rfl
theorem f119 (a b c : Int) (d e : List Int) (a' b' c' : Int) (d' e' : List Int) : F119 [⟨.int .i64, a⟩, ⟨.int .i64, b⟩, ⟨.int .i64, c⟩, ⟨.str, d⟩, ⟨.str, e⟩, ⟨.int .i64, a'⟩, ⟨.int .i64, b'⟩, ⟨.int .i64, c'⟩, ⟨.str, d'⟩, ⟨.str, e'⟩] = some [⟨.bool, ltT (a, b, c, d, e) (a', b', c', d', e')⟩] := by
  simp only [F119, Fof, ir119]
  simp only [ltT, Tb.f]
  by_cases h : b = b'
  · by_cases h0 : b = 0
    · subst h; simp -implicitDefEqProofs [h0]
    · subst h; simp -implicitDefEqProofs [h0]
  · simp -implicitDefEqProofs [h]
theorem s119 {lc : List Ct} (hl0 : look (lc.map fun c => (c.sig.id, c)) 119 = some c119) : ∀ (a b c : Int) (d e : List Int) (a' b' c' : Int) (d' e' : List Int), Does1 (Phi lc) 119 [⟨.int .i64, a⟩, ⟨.int .i64, b⟩, ⟨.int .i64, c⟩, ⟨.str, d⟩, ⟨.str, e⟩, ⟨.int .i64, a'⟩, ⟨.int .i64, b'⟩, ⟨.int .i64, c'⟩, ⟨.str, d'⟩, ⟨.str, e'⟩] [⟨.bool, ltT (a, b, c, d, e) (a', b', c', d', e')⟩] :=
  fun a b c d e a' b' c' d' e' => by
    have eFc : c119.F = F119 := rfl
    have eFh := f119 a b c d e a' b' c' d' e'
    rw [← eFc] at eFh
    exact Does1.of hl0 eFh rfl
theorem f114 (n v s : Int) (f l : List Int) : F114 [⟨.int .i64, n⟩, ⟨.int .i64, v⟩, ⟨.int .i64, s⟩, ⟨.str, f⟩, ⟨.str, l⟩] = some [⟨.bool, tabOk n v s f l⟩] := by
  simp only [F114, Fof, ir114]
  unfold tabOk cnt
  by_cases c1 : 1 ≤ n
  rotate_left; · simp -implicitDefEqProofs [c1]
  by_cases c2 : n ≤ 2147483647
  rotate_left; · simp -implicitDefEqProofs [c1, c2]
  by_cases c3 : 0 ≤ v
  rotate_left; · simp -implicitDefEqProofs [c1, c2, c3]
  by_cases c4 : v ≤ 4
  rotate_left; · simp -implicitDefEqProofs [c1, c2, c3, c4]
  by_cases c5 : 0 ≤ s
  rotate_left; · simp -implicitDefEqProofs [c1, c2, c3, c4, c5]
  by_cases c6 : s ≤ 1073741824
  rotate_left; · simp -implicitDefEqProofs [c1, c2, c3, c4, c5, c6]
  by_cases c7 : f = []
  · simp -implicitDefEqProofs [c1, c2, c3, c4, c5, c6, c7]
  by_cases c8 : f.length ≤ 64
  rotate_left
  · have c8' : ¬ ((f.length : Int) ≤ 64) := by omega
    simp -implicitDefEqProofs [c1, c2, c3, c4, c5, c6, c7, c8, c8']
  have c8' : ((f.length : Int) ≤ 64) := by omega
  by_cases c9 : l.length ≤ 64
  rotate_left
  · have c9' : ¬ ((l.length : Int) ≤ 64) := by omega
    simp -implicitDefEqProofs [c1, c2, c3, c4, c5, c6, c7, c8, c8', c9, c9']
  have c9' : ((l.length : Int) ≤ 64) := by omega
  simp -implicitDefEqProofs [c1, c2, c3, c4, c5, c6, c7, c8, c8', c9, c9']
theorem s114 {lc : List Ct} (hl0 : look (lc.map fun c => (c.sig.id, c)) 114 = some c114) : ∀ (n v s : Int) (f l : List Int), Does1 (Phi lc) 114 [⟨.int .i64, n⟩, ⟨.int .i64, v⟩, ⟨.int .i64, s⟩, ⟨.str, f⟩, ⟨.str, l⟩] [⟨.bool, tabOk n v s f l⟩] :=
  fun n v s f l => by
    have eFc : c114.F = F114 := rfl
    have eFh := f114 n v s f l
    rw [← eFc] at eFh
    exact Does1.of hl0 eFh rfl
theorem f53 (l : List Tb) : F53 [⟨.sl TbT, l⟩] = some [⟨.bool, lightT l⟩] := by
  simp only [F53, Fof, ir53]
  by_cases h80 : l.length ≤ 80
  rotate_left
  · have e0 : lightT l = false := by simp [lightT, h80]
    rw [e0]
    have h81 : ¬ ((l.length : Int) ≤ 80) := by omega
    simp -implicitDefEqProofs [h81]
    refine iter_meas (fun s : Int => (l.length - s).toNat) (fun s => ([⟨.bool, false⟩] : List D)) (fun s => 0 ≤ s ∧ s ≤ l.length) (by exact ⟨by omega, by omega⟩) ?_
    rintro i ⟨h1, h2⟩
    by_cases hi : i < l.length
    · by_cases h8 : i ≤ 80
      · have g1 := getG (l := l) (d := dflt TbT) h1 (by omega)
        have b1 : 0 ≤ i ∧ i < (l.length : Int) := ⟨h1, hi⟩
        have wi : IntKind.i64.wrap (i + 1) = i + 1 := wi64 _ (by omega) (by omega)
        generalize hcx : l[i.toNat]'(by omega) = x at *
        by_cases a1 : 200 < (x.2.2.2.1.length : Int)
        · refine .inr ?_
          simp -implicitDefEqProofs [hi, h8, b1, g1, hcx, a1]
        · by_cases a2 : 200 < (x.2.2.2.2.length : Int)
          · refine .inr ?_
            simp -implicitDefEqProofs [hi, h8, b1, g1, hcx, a1, a2]
          · refine .inl ⟨i + 1, ?_, ⟨by omega, by omega⟩, by omega, rfl⟩
            simp -implicitDefEqProofs [hi, h8, b1, g1, hcx, a1, a2, wi]
      · refine .inr ?_
        simp -implicitDefEqProofs [hi, h8, h81]
    · refine .inr ?_
      simp -implicitDefEqProofs [hi, h81]
  have h81 : ((l.length : Int) ≤ 80) := by omega
  simp -implicitDefEqProofs [h81]
  refine (iter_meas (fun s : Int => (l.length - s).toNat) (fun s => ([⟨.bool, (l.drop s.toNat).all fun x => decide (x.f.length ≤ 200 ∧ x.l.length ≤ 200)⟩] : List D)) (fun s => 0 ≤ s ∧ s ≤ l.length) (by exact ⟨by omega, by omega⟩) ?_).trans (by simp [lightT, h80])
  rintro i ⟨h1, h2⟩
  by_cases hi : i < l.length
  · rw [dropI h1 hi]
    have g1 := getG (l := l) (d := dflt TbT) h1 (by omega)
    have b1 : 0 ≤ i ∧ i < (l.length : Int) := ⟨h1, hi⟩
    have h8 : i ≤ 80 := by omega
    have wi : IntKind.i64.wrap (i + 1) = i + 1 := wi64 _ (by omega) (by omega)
    generalize hcx : l[i.toNat]'(by omega) = x at *
    simp only [List.all_cons, Tb.f, Tb.l]
    by_cases a1 : 200 < (x.2.2.2.1.length : Int)
    · refine .inr ?_
      have e1 : ¬ x.2.2.2.1.length ≤ 200 := by omega
      simp -implicitDefEqProofs [hi, h8, b1, g1, hcx, a1, e1]
    · have e1 : x.2.2.2.1.length ≤ 200 := by omega
      by_cases a2 : 200 < (x.2.2.2.2.length : Int)
      · refine .inr ?_
        have e2 : ¬ x.2.2.2.2.length ≤ 200 := by omega
        simp -implicitDefEqProofs [hi, h8, b1, g1, hcx, a1, a2, e1, e2]
      · have e2 : x.2.2.2.2.length ≤ 200 := by omega
        refine .inl ⟨i + 1, ?_, ⟨by omega, by omega⟩, by omega, ?_⟩
        · simp -implicitDefEqProofs [hi, h8, b1, g1, hcx, a1, a2, wi]
        · simp [e1, e2]
  · refine .inr ?_
    rw [List.drop_eq_nil_of_le (by omega)]
    simp -implicitDefEqProofs [hi, h81]
theorem s53 {lc : List Ct} (hl0 : look (lc.map fun c => (c.sig.id, c)) 53 = some c53) : ∀ (l : List Tb), Does1 (Phi lc) 53 [⟨.sl TbT, l⟩] [⟨.bool, lightT l⟩] :=
  fun l => by
    have eFc : c53.F = F53 := rfl
    have eFh := f53 l
    rw [← eFc] at eFh
    exact Does1.of hl0 eFh rfl
theorem f57 (l : List Int) (n : Int) (hl : l.length < 1000000) : F57 [⟨.sl (.int .i64), l⟩, ⟨.int .i64, n⟩] = some [⟨.bool, decide (n ∈ l)⟩] := by
  simp only [F57, Fof, ir57]
  simp -implicitDefEqProofs []
  refine (iter_meas (fun s : Int => (l.length - s).toNat) (fun s => ([⟨.bool, decide (n ∈ l.drop s.toNat)⟩] : List D)) (fun s => 0 ≤ s ∧ s ≤ l.length) (by exact ⟨by omega, by omega⟩) ?_).trans (by simp)
  rintro i ⟨h1, h2⟩
  by_cases hi : i < l.length
  · rw [dropI h1 hi]
    have g1 := getG (l := l) (d := (0 : Int)) h1 (by omega)
    have b1 : 0 ≤ i ∧ i < (l.length : Int) := ⟨h1, hi⟩
    have wi : IntKind.i64.wrap (i + 1) = i + 1 := wi64 _ (by omega) (by omega)
    generalize hcx : l[i.toNat]'(by omega) = x at *
    by_cases he : x = n
    · refine .inr ?_
      simp -implicitDefEqProofs [hi, b1, g1, hcx, he]
    · have he' : ¬ n = x := fun e => he e.symm
      refine .inl ⟨i + 1, ?_, ⟨by omega, by omega⟩, by omega, ?_⟩
      · simp -implicitDefEqProofs [hi, b1, g1, hcx, he, wi]
      · simp [he']
  · refine .inr ?_
    rw [List.drop_eq_nil_of_le (by omega)]
    simp -implicitDefEqProofs [hi]
theorem s57 {lc : List Ct} (hl0 : look (lc.map fun c => (c.sig.id, c)) 57 = some c57) : ∀ (l : List Int) (n : Int) (hl : l.length < 1000000), Does1 (Phi lc) 57 [⟨.sl (.int .i64), l⟩, ⟨.int .i64, n⟩] [⟨.bool, decide (n ∈ l)⟩] :=
  fun l n hl => by
    have eFc : c57.F = F57 := rfl
    have eFh := f57 l n hl
    rw [← eFc] at eFh
    exact Does1.of hl0 eFh rfl
theorem f62 (x y : List Int) (hx : x.length < 1000000) : F62 [⟨.sl (.int .i64), x⟩, ⟨.sl (.int .i64), y⟩] = some [⟨.bool, decide (x = y)⟩] := by
  simp only [F62, Fof, ir62]
  by_cases hn : (x.length : Int) = y.length
  rotate_left
  · have e0 : ¬ x = y := fun e => hn (by rw [e])
    simp -implicitDefEqProofs [hn, e0]
  simp -implicitDefEqProofs [hn]
  refine (iter_meas (fun s : Int => (x.length - s).toNat) (fun s => ([⟨.bool, decide (x.drop s.toNat = y.drop s.toNat)⟩] : List D)) (fun s => 0 ≤ s ∧ s ≤ x.length) (by exact ⟨by omega, by omega⟩) ?_).trans (by simp)
  rintro i ⟨h1, h2⟩
  by_cases hi : i < x.length
  · rw [dropI h1 hi, dropI (l := y) h1 (by omega)]
    have g1 := getG (l := x) (d := (0 : Int)) h1 (by omega)
    have g2 := getG (l := y) (d := (0 : Int)) h1 (by omega)
    have b1 : 0 ≤ i ∧ i < (x.length : Int) := ⟨h1, hi⟩
    have b2 : 0 ≤ i ∧ i < (y.length : Int) := ⟨h1, by omega⟩
    have wi : IntKind.i64.wrap (i + 1) = i + 1 := wi64 _ (by omega) (by omega)
    have hi2 : i < y.length := by omega
    generalize hcx : x[i.toNat]'(by omega) = u at *
    generalize hcy : y[i.toNat]'(by omega) = v at *
    by_cases he : u = v
    · refine .inl ⟨i + 1, ?_, ⟨by omega, by omega⟩, by omega, ?_⟩
      · simp -implicitDefEqProofs [hi, hi2, b1, b2, g1, g2, hcx, hcy, he, wi, hn]
      · simp [he]
    · refine .inr ?_
      simp -implicitDefEqProofs [hi, hi2, b1, b2, g1, g2, hcx, hcy, he, hn]
  · refine .inr ?_
    rw [List.drop_eq_nil_of_le (by omega), List.drop_eq_nil_of_le (by omega)]
    have hi2 : ¬ i < y.length := by omega
    simp -implicitDefEqProofs [hi, hi2, hn]
theorem s62 {lc : List Ct} (hl0 : look (lc.map fun c => (c.sig.id, c)) 62 = some c62) : ∀ (x y : List Int) (hx : x.length < 1000000), Does1 (Phi lc) 62 [⟨.sl (.int .i64), x⟩, ⟨.sl (.int .i64), y⟩] [⟨.bool, decide (x = y)⟩] :=
  fun x y hx => by
    have eFc : c62.F = F62 := rfl
    have eFh := f62 x y hx
    rw [← eFc] at eFh
    exact Does1.of hl0 eFh rfl
theorem f109 (l : List Tb) (hl : l.length < 100000000000) : F109 [⟨.sl TbT, l⟩] = some [⟨.sl TbT, l⟩] := by
  simp only [F109, Fof, ir109]
  have hb : l.length ≤ BIG := by simp only [BIG]; omega
  by_cases h : l = []
  · subst h; simp -implicitDefEqProofs [eqO]
  · simp -implicitDefEqProofs [h, hb]
theorem s109 {lc : List Ct} (hl0 : look (lc.map fun c => (c.sig.id, c)) 109 = some c109) : ∀ (l : List Tb) (hl : l.length < 100000000000), Does1 (Phi lc) 109 [⟨.sl TbT, l⟩] [⟨.sl TbT, l⟩] :=
  fun l hl => by
    have eFc : c109.F = F109 := rfl
    have eFh := f109 l hl
    rw [← eFc] at eFh
    exact Does1.of hl0 eFh rfl
def numsT (l : List Tb) : List Int := l.map (·.1)
theorem f113 (l : List Tb) (hl : l.length < 1000000) : F113 [⟨.sl TbT, l⟩] = some [⟨.sl (.int .i64), numsT l⟩] := by
  simp only [F113, Fof, ir113]
  simp -implicitDefEqProofs []
  refine (iter_meas (fun s : List Int × Int => (l.length - s.2).toNat) (fun s => ([⟨.sl (.int .i64), s.1 ++ numsT (l.drop s.2.toNat)⟩] : List D)) (fun s => 0 ≤ s.2 ∧ s.2 ≤ l.length ∧ s.1.length = s.2) (by exact ⟨by simp, by simp, by simp⟩) ?_).trans (by simp)
  rintro ⟨acc, i⟩ ⟨h1, h2, h3⟩
  simp only at h1 h2 h3 ⊢
  by_cases hi : i < l.length
  · rw [dropI h1 hi]
    have g1 := getG (l := l) (d := dflt TbT) h1 (by omega)
    have b1 : 0 ≤ i ∧ i < (l.length : Int) := ⟨h1, hi⟩
    have hb : acc.length + 1 ≤ BIG := by simp only [BIG]; omega
    have wi : IntKind.i64.wrap (i + 1) = i + 1 := wi64 _ (by omega) (by omega)
    generalize hcx : l[i.toNat]'(by omega) = x at *
    refine .inl ⟨(acc ++ [x.1], i + 1), ?_, ⟨by (try simp only); omega, by (try simp only); omega, by simp; omega⟩, by (try simp only); omega, ?_⟩
    · simp -implicitDefEqProofs [hi, b1, g1, hcx, wi, hb]
    · simp [numsT]
  · refine .inr ?_
    rw [List.drop_eq_nil_of_le (by omega)]
    simp -implicitDefEqProofs [hi, numsT]
theorem s113 {lc : List Ct} (hl0 : look (lc.map fun c => (c.sig.id, c)) 113 = some c113) : ∀ (l : List Tb) (hl : l.length < 1000000), Does1 (Phi lc) 113 [⟨.sl TbT, l⟩] [⟨.sl (.int .i64), numsT l⟩] :=
  fun l hl => by
    have eFc : c113.F = F113 := rfl
    have eFh := f113 l hl
    rw [← eFc] at eFh
    exact Does1.of hl0 eFh rfl
theorem f63 (l : List Tb) (hl : l.length < 1000000) : F63 [⟨.sl TbT, l⟩] = some [⟨.sl (.int .i64), numsT l⟩] := by
  simp only [F63, Fof, ir63]
  simp -implicitDefEqProofs []
  refine (iter_meas (fun s : List Int × Int => (l.length - s.2).toNat) (fun s => ([⟨.sl (.int .i64), s.1 ++ numsT (l.drop s.2.toNat)⟩] : List D)) (fun s => 0 ≤ s.2 ∧ s.2 ≤ l.length ∧ s.1.length = s.2) (by exact ⟨by simp, by simp, by simp⟩) ?_).trans (by simp)
  rintro ⟨acc, i⟩ ⟨h1, h2, h3⟩
  simp only at h1 h2 h3 ⊢
  by_cases hi : i < l.length
  · rw [dropI h1 hi]
    have g1 := getG (l := l) (d := dflt TbT) h1 (by omega)
    have b1 : 0 ≤ i ∧ i < (l.length : Int) := ⟨h1, hi⟩
    have hb : acc.length + 1 ≤ BIG := by simp only [BIG]; omega
    have wi : IntKind.i64.wrap (i + 1) = i + 1 := wi64 _ (by omega) (by omega)
    generalize hcx : l[i.toNat]'(by omega) = x at *
    refine .inl ⟨(acc ++ [x.1], i + 1), ?_, ⟨by (try simp only); omega, by (try simp only); omega, by simp; omega⟩, by (try simp only); omega, ?_⟩
    · simp -implicitDefEqProofs [hi, b1, g1, hcx, wi, hb]
    · simp [numsT]
  · refine .inr ?_
    rw [List.drop_eq_nil_of_le (by omega)]
    simp -implicitDefEqProofs [hi, numsT]
theorem s63 {lc : List Ct} (hl0 : look (lc.map fun c => (c.sig.id, c)) 63 = some c63) : ∀ (l : List Tb) (hl : l.length < 1000000), Does1 (Phi lc) 63 [⟨.sl TbT, l⟩] [⟨.sl (.int .i64), numsT l⟩] :=
  fun l hl => by
    have eFc : c63.F = F63 := rfl
    have eFh := f63 l hl
    rw [← eFc] at eFh
    exact Does1.of hl0 eFh rfl
theorem f112 (a b c : Int) (d e : List Int) (l : List Tb) (hl : l.length < 1000000) : F112 [⟨.int .i64, a⟩, ⟨.int .i64, b⟩, ⟨.int .i64, c⟩, ⟨.str, d⟩, ⟨.str, e⟩, ⟨.sl TbT, l⟩] = some [⟨.bool, l.any (meetT (a, b, c, d, e))⟩] := by
  have h102 := s102 (lc := [c102]) rfl
  simp only [F112, Fof, ir112]
  generalize Phi [c102] = Φ at *
  simp -implicitDefEqProofs []
  refine (iter_meas (fun s : Int => (l.length - s).toNat) (fun s => ([⟨.bool, (l.drop s.toNat).any (meetT (a, b, c, d, e))⟩] : List D)) (fun s => 0 ≤ s ∧ s ≤ l.length) (by exact ⟨by omega, by omega⟩) ?_).trans (by simp)
  rintro i ⟨h1, h2⟩
  by_cases hi : i < l.length
  · rw [dropI h1 hi]
    have g1 := getG (l := l) (d := dflt TbT) h1 (by omega)
    have b1 : 0 ≤ i ∧ i < (l.length : Int) := ⟨h1, hi⟩
    have wi : IntKind.i64.wrap (i + 1) = i + 1 := wi64 _ (by omega) (by omega)
    generalize hcx : l[i.toNat]'(by omega) = x at *
    have k : Does1 Φ 102 [⟨.int .i64, a⟩, ⟨.int .i64, b⟩, ⟨.int .i64, c⟩, ⟨.str, d⟩, ⟨.str, e⟩, ⟨.int .i64, x.1⟩, ⟨.int .i64, x.2.1⟩, ⟨.int .i64, x.2.2.1⟩, ⟨.str, x.2.2.2.1⟩, ⟨.str, x.2.2.2.2⟩] [⟨.bool, meetT (a, b, c, d, e) x⟩] := h102 a b c d e _ _ _ _ _
    rw [List.any_cons]
    cases hm : meetT (a, b, c, d, e) x <;> rw [hm] at k
    · refine .inl ⟨i + 1, ?_, ⟨by omega, by omega⟩, by omega, rfl⟩
      simp -implicitDefEqProofs [hi, b1, g1, hcx, k, wi]
    · refine .inr ?_
      simp -implicitDefEqProofs [hi, b1, g1, hcx, k, h1]
  · refine .inr ?_
    rw [List.drop_eq_nil_of_le (by omega)]
    simp -implicitDefEqProofs [hi]
theorem s112 {lc : List Ct} (hl0 : look (lc.map fun c => (c.sig.id, c)) 112 = some c112) : ∀ (a b c : Int) (d e : List Int) (l : List Tb) (hl : l.length < 1000000), Does1 (Phi lc) 112 [⟨.int .i64, a⟩, ⟨.int .i64, b⟩, ⟨.int .i64, c⟩, ⟨.str, d⟩, ⟨.str, e⟩, ⟨.sl TbT, l⟩] [⟨.bool, l.any (meetT (a, b, c, d, e))⟩] :=
  fun a b c d e l hl => by
    have eFc : c112.F = F112 := rfl
    have eFh := f112 a b c d e l hl
    rw [← eFc] at eFh
    exact Does1.of hl0 eFh rfl
theorem f118 (a b c : Int) (d e : List Int) (l : List Tb) (hl : l.length < 1000000) : F118 [⟨.int .i64, a⟩, ⟨.int .i64, b⟩, ⟨.int .i64, c⟩, ⟨.str, d⟩, ⟨.str, e⟩, ⟨.sl TbT, l⟩] = some [⟨.bool, l.any (meetT (a, b, c, d, e))⟩] := by
  have h101 := s101 (lc := [c101]) rfl
  simp only [F118, Fof, ir118]
  generalize Phi [c101] = Φ at *
  simp -implicitDefEqProofs []
  refine (iter_meas (fun s : Int => (l.length - s).toNat) (fun s => ([⟨.bool, (l.drop s.toNat).any (meetT (a, b, c, d, e))⟩] : List D)) (fun s => 0 ≤ s ∧ s ≤ l.length) (by exact ⟨by omega, by omega⟩) ?_).trans (by simp)
  rintro i ⟨h1, h2⟩
  by_cases hi : i < l.length
  · rw [dropI h1 hi]
    have g1 := getG (l := l) (d := dflt TbT) h1 (by omega)
    have b1 : 0 ≤ i ∧ i < (l.length : Int) := ⟨h1, hi⟩
    have wi : IntKind.i64.wrap (i + 1) = i + 1 := wi64 _ (by omega) (by omega)
    generalize hcx : l[i.toNat]'(by omega) = x at *
    have k : Does1 Φ 101 [⟨.int .i64, a⟩, ⟨.int .i64, b⟩, ⟨.int .i64, c⟩, ⟨.str, d⟩, ⟨.str, e⟩, ⟨.int .i64, x.1⟩, ⟨.int .i64, x.2.1⟩, ⟨.int .i64, x.2.2.1⟩, ⟨.str, x.2.2.2.1⟩, ⟨.str, x.2.2.2.2⟩] [⟨.bool, meetT (a, b, c, d, e) x⟩] := h101 a b c d e _ _ _ _ _
    rw [List.any_cons]
    cases hm : meetT (a, b, c, d, e) x <;> rw [hm] at k
    · refine .inl ⟨i + 1, ?_, ⟨by omega, by omega⟩, by omega, rfl⟩
      simp -implicitDefEqProofs [hi, b1, g1, hcx, k, wi]
    · refine .inr ?_
      simp -implicitDefEqProofs [hi, b1, g1, hcx, k, h1]
  · refine .inr ?_
    rw [List.drop_eq_nil_of_le (by omega)]
    simp -implicitDefEqProofs [hi]
theorem s118 {lc : List Ct} (hl0 : look (lc.map fun c => (c.sig.id, c)) 118 = some c118) : ∀ (a b c : Int) (d e : List Int) (l : List Tb) (hl : l.length < 1000000), Does1 (Phi lc) 118 [⟨.int .i64, a⟩, ⟨.int .i64, b⟩, ⟨.int .i64, c⟩, ⟨.str, d⟩, ⟨.str, e⟩, ⟨.sl TbT, l⟩] [⟨.bool, l.any (meetT (a, b, c, d, e))⟩] :=
  fun a b c d e l hl => by
    have eFc : c118.F = F118 := rfl
    have eFh := f118 a b c d e l hl
    rw [← eFc] at eFh
    exact Does1.of hl0 eFh rfl
end Go.Proofs.Ytdjknicjnaiomaa.Sx

set_option maxHeartbeats 4000000
/- Tables: which may be; in order; of a level. -/
namespace Go.Proofs.Ytdjknicjnaiomaa.Sx
attribute [local simp ↓] den_start deb_op deb_ret deb_jump deb_itev deb_itel deb_loop deb_fail deb_nilcv
attribute [local simp] nilE_some opE_some debP_nil debP_cons pushL_nil pushL_cons retE_some iteE_some evB_nil evB_v evB_l lkE_cons consE_some d_int d_bool d_str d_nil o_add o_sub o_mul o_and o_or o_xor o_andNot o_quo o_rem o_shl o_shr o_eql o_neq o_lss o_leq o_gtr o_geq o_seql o_sneq o_slss o_sleq o_sgtr o_sgeq o_beql o_bneq o_scat o_not o_neg o_com o_conv o_s2b o_b2s o_len o_slen o_inb o_idx o_sidx o_sub3 o_sub2 o_ssub3 o_ssub2 o_app o_clr o_appn o_ful o_apps o_mk mkE_some consD_some mkD_zero mkD_int mkD_str mkD_sl o_imin o_imax o_smin o_smax o_eqs eqsE_some eqC_nil andE_some eqC_int eqC_bool eqC_str j1 outE_some outE_none outE_ite agE_1 loopE_1 agE_2 loopE_2 agE_3 loopE_3 agE_4 loopE_4 agE_5 loopE_5 agE_6 loopE_6 agE_7 loopE_7 agE_8 loopE_8 agE_9 loopE_9 List.cons_append List.nil_append List.append_nil split List.take_succ_cons List.take_zero List.drop_succ_cons List.drop_zero

def clash (t u : Tb) : Bool := decide (t.1 = u.1) || (decide (0 < t.2.1) && decide (t.2.1 = u.2.1) && meetT t u)
def okT (x : Tb) : Bool := tabOk x.1 x.2.1 x.2.2.1 x.f x.l
def goodFrom : List Tb → List Tb → Bool
  | _, [] => true
  | pre, t :: r => okT t && !(pre.any (clash t)) && goodFrom (pre ++ [t]) r
def mayT (l : List Tb) : Bool := decide (l.length ≤ 64) && goodFrom [] l

theorem meetL_comm (a b c d : List Int) : meetL a b c d = meetL c d a b := by unfold meetL; rw [Bool.and_comm]

theorem f58 (l : List Tb) : F58 [⟨.sl TbT, l⟩] = some [⟨.int .i64, if mayT l = true then 0 else 1⟩] := by
  have h114 := s114 (lc := [c114, c102]) rfl
  have h102 := s102 (lc := [c114, c102]) rfl
  simp only [F58, Fof, ir58]
  generalize Phi [c114, c102] = Φ at *
  by_cases h64 : (64 : Int) < l.length
  · have e0 : mayT l = false := by simp [mayT]; omega
    rw [e0]; simp -implicitDefEqProofs [h64]
  simp -implicitDefEqProofs [h64]
  refine (iter_meas (fun s : Int => (l.length - s).toNat) (fun s => ([⟨.int .i64, if goodFrom (l.take s.toNat) (l.drop s.toNat) = true then 0 else 1⟩] : List D)) (fun s => 0 ≤ s ∧ s ≤ l.length) (by exact ⟨by omega, by omega⟩) ?_).trans (by simp [mayT, show l.length ≤ 64 by omega])
  rintro i ⟨h1, h2⟩
  by_cases hi : i < l.length
  rotate_left
  · refine .inr ?_
    rw [List.drop_eq_nil_of_le (by omega)]
    simp -implicitDefEqProofs [hi, goodFrom]
  rw [dropI h1 hi]
  have htk : l.take (i + 1).toNat = l.take i.toNat ++ [l[i.toNat]'(by omega)] := by rw [show (i + 1).toNat = i.toNat + 1 by omega, List.take_succ_eq_append_getElem (by omega)]
  have g1 := getG (l := l) (d := dflt TbT) h1 (by omega)
  have b1 : 0 ≤ i ∧ i < (l.length : Int) := ⟨h1, hi⟩
  have b2 : 0 ≤ i ∧ i ≤ (l.length : Int) := ⟨h1, h2⟩
  have wi : IntKind.i64.wrap (i + 1) = i + 1 := wi64 _ (by omega) (by omega)
  generalize hcx : l[i.toNat]'(by omega) = x at *
  have k : Does1 Φ 114 [⟨.int .i64, x.1⟩, ⟨.int .i64, x.2.1⟩, ⟨.int .i64, x.2.2.1⟩, ⟨.str, x.2.2.2.1⟩, ⟨.str, x.2.2.2.2⟩] [⟨.bool, okT x⟩] := h114 _ _ _ _ _
  have e1 : goodFrom (l.take i.toNat) (x :: l.drop (i + 1).toNat) = (okT x && !((l.take i.toNat).any (clash x)) && goodFrom (l.take (i + 1).toNat) (l.drop (i + 1).toNat)) := by rw [htk]; rfl
  have hpl : (l.take i.toNat).length = i.toNat := by rw [List.length_take]; omega
  have hmin : min i.toNat l.length = i.toNat := by omega
  generalize hp : l.take i.toNat = p at *
  cases ho : okT x <;> rw [ho] at k
  · refine .inr ?_
    rw [e1, ho]
    simp -implicitDefEqProofs [hi, b1, b2, g1, hcx, k]
  refine or_of (if p.any (clash x) = true then .out [⟨.int .i64, 1⟩] else .again (i + 1)) ?_ ?_
  rotate_left
  · rw [e1, ho]
    cases ha : p.any (clash x)
    · rw [if_neg Bool.false_ne_true]; exact (fitsLS_again _ _ _).mpr ⟨⟨by omega, by omega⟩, by omega, by simp⟩
    · rw [if_pos rfl]; exact (fitsLS_out _ _ _).mpr (by simp)
  simp -implicitDefEqProofs [hi, b1, b2, g1, hcx, k, hp, hmin, -List.any_eq_true, -List.any_eq_false]
  refine any_loop (e := TbT) p (clash x) _ _ _ ?_ ?_
  rotate_left
  · simp -implicitDefEqProofs [wi]
  intro j j1 hj
  have g2 := getG (l := p) (d := dflt TbT) j1 (by omega)
  have b3 : 0 ≤ j ∧ j < (p.length : Int) := ⟨j1, hj⟩
  have wj : IntKind.i64.wrap (j + 1) = j + 1 := wi64 _ (by omega) (by omega)
  rw [g2]
  generalize hcu : p[j.toNat]'(by omega) = u at *
  have k2 : Does1 Φ 102 [⟨.int .i64, x.1⟩, ⟨.int .i64, x.2.1⟩, ⟨.int .i64, x.2.2.1⟩, ⟨.str, x.2.2.2.1⟩, ⟨.str, x.2.2.2.2⟩, ⟨.int .i64, u.1⟩, ⟨.int .i64, u.2.1⟩, ⟨.int .i64, u.2.2.1⟩, ⟨.str, u.2.2.2.1⟩, ⟨.str, u.2.2.2.2⟩] [⟨.bool, meetT x u⟩] := h102 _ _ _ _ _ _ _ _ _ _
  unfold clash
  by_cases c1 : x.1 = u.1
  · simp -implicitDefEqProofs [hj, b3, g2, c1]
  by_cases c2 : 0 < x.2.1
  rotate_left
  · simp -implicitDefEqProofs [hj, b3, g2, c1, c2, wj]
  by_cases c3 : x.2.1 = u.2.1
  rotate_left
  · simp -implicitDefEqProofs [hj, b3, g2, c1, c2, c3, wj]
  have c2' : 0 < u.2.1 := by omega
  rw [c3] at k2
  cases hm : meetT x u <;> rw [hm] at k2 <;> simp -implicitDefEqProofs [hj, b3, g2, c1, c2, c2', c3, wj, k2]
theorem s58 {lc : List Ct} (hl0 : look (lc.map fun c => (c.sig.id, c)) 58 = some c58) : ∀ (l : List Tb), Does1 (Phi lc) 58 [⟨.sl TbT, l⟩] [⟨.int .i64, if mayT l = true then 0 else 1⟩] :=
  fun l => by
    have eFc : c58.F = F58 := rfl
    have eFh := f58 l
    rw [← eFc] at eFh
    exact Does1.of hl0 eFh rfl
theorem f54 (l : List Tb) (hl : l.length < 1000000) : F54 [⟨.sl TbT, l⟩] = some [⟨.bool, mayT l⟩] := by
  have h101 := s101 (lc := [c101]) rfl
  simp only [F54, Fof, ir54]
  generalize Phi [c101] = Φ at *
  simp -implicitDefEqProofs []
  refine (iter_meas (fun s : Int => (l.length - s).toNat) (fun s => ([⟨.bool, decide (l.length ≤ 64) && goodFrom (l.take s.toNat) (l.drop s.toNat)⟩] : List D)) (fun s => 0 ≤ s ∧ s ≤ l.length) (by exact ⟨by omega, by omega⟩) ?_).trans (by simp [mayT])
  rintro i ⟨h1, h2⟩
  by_cases hi : i < l.length
  rotate_left
  · refine .inr ?_
    rw [List.drop_eq_nil_of_le (by omega)]
    have e : decide ((l.length : Int) ≤ 64) = decide (l.length ≤ 64) := by rw [decide_eq_decide]; omega
    simp -implicitDefEqProofs [hi, goodFrom, e]
  rw [dropI h1 hi]
  have htk : l.take (i + 1).toNat = l.take i.toNat ++ [l[i.toNat]'(by omega)] := by rw [show (i + 1).toNat = i.toNat + 1 by omega, List.take_succ_eq_append_getElem (by omega)]
  have g1 := getG (l := l) (d := dflt TbT) h1 (by omega)
  have b1 : 0 ≤ i ∧ i < (l.length : Int) := ⟨h1, hi⟩
  have wi : IntKind.i64.wrap (i + 1) = i + 1 := wi64 _ (by omega) (by omega)
  generalize hcx : l[i.toNat]'(by omega) = x at *
  have e1 : goodFrom (l.take i.toNat) (x :: l.drop (i + 1).toNat) = (okT x && !((l.take i.toNat).any (clash x)) && goodFrom (l.take (i + 1).toNat) (l.drop (i + 1).toNat)) := by rw [htk]; rfl
  have hpl : (l.take i.toNat).length = i.toNat := by rw [List.length_take]; omega
  have hpg : ∀ j : Int, 0 ≤ j → j < i → (l.take i.toNat)[j.toNat]?.getD (dflt TbT) = l[j.toNat]?.getD (dflt TbT) := by
    intro j j1 j2
    rw [List.getElem?_take, if_pos (by omega)]
  generalize hp : l.take i.toNat = p at *
  rw [e1]
  clear e1
  by_cases d1 : x.1 < 1
  · have e0 : okT x = false := by
      have : ¬ 1 ≤ x.1 := by omega
      simp [okT, tabOk, cnt, this]
    refine .inr ?_
    rw [e0]
    simp -implicitDefEqProofs [hi, b1, g1, hcx, d1]
  by_cases d2 : 2147483647 < x.1
  · have e0 : okT x = false := by
      have : ¬ x.1 ≤ 2147483647 := by omega
      simp [okT, tabOk, cnt, this]
    refine .inr ?_
    rw [e0]
    simp -implicitDefEqProofs [hi, b1, g1, hcx, d1, d2]
  by_cases d3 : x.2.1 < 0
  · have e0 : okT x = false := by
      have : ¬ 0 ≤ x.2.1 := by omega
      simp [okT, tabOk, cnt, this]
    refine .inr ?_
    rw [e0]
    simp -implicitDefEqProofs [hi, b1, g1, hcx, d1, d2, d3]
  by_cases d4 : 4 < x.2.1
  · have e0 : okT x = false := by
      have : ¬ x.2.1 ≤ 4 := by omega
      simp [okT, tabOk, cnt, this]
    refine .inr ?_
    rw [e0]
    simp -implicitDefEqProofs [hi, b1, g1, hcx, d1, d2, d3, d4]
  by_cases d5 : x.2.2.1 < 0
  · have e0 : okT x = false := by
      have : ¬ 0 ≤ x.2.2.1 := by omega
      simp [okT, tabOk, cnt, this]
    refine .inr ?_
    rw [e0]
    simp -implicitDefEqProofs [hi, b1, g1, hcx, d1, d2, d3, d4, d5]
  by_cases d6 : 1073741824 < x.2.2.1
  · have e0 : okT x = false := by
      have : ¬ x.2.2.1 ≤ 1073741824 := by omega
      simp [okT, tabOk, cnt, this]
    refine .inr ?_
    rw [e0]
    simp -implicitDefEqProofs [hi, b1, g1, hcx, d1, d2, d3, d4, d5, d6]
  by_cases d7 : x.2.2.2.1 = []
  · have e0 : okT x = false := by
      simp [okT, tabOk, Tb.f, d7]
    refine .inr ?_
    rw [e0]
    simp -implicitDefEqProofs [hi, b1, g1, hcx, d1, d2, d3, d4, d5, d6, d7]
  by_cases d8 : x.2.2.2.2 = []
  · have e0 : okT x = false := by
      have h1 : ltL x.2.2.2.1 [] = false := by cases x.2.2.2.1 <;> rfl
      simp [okT, tabOk, Tb.f, Tb.l, d8, h1, d7]
    refine .inr ?_
    rw [e0]
    simp -implicitDefEqProofs [hi, b1, g1, hcx, d1, d2, d3, d4, d5, d6, d7, d8]
  by_cases d9 : (64 : Int) < x.2.2.2.1.length
  · have e0 : okT x = false := by
      have : ¬ x.2.2.2.1.length ≤ 64 := by omega
      simp [okT, tabOk, Tb.f, this]
    refine .inr ?_
    rw [e0]
    simp -implicitDefEqProofs [hi, b1, g1, hcx, d1, d2, d3, d4, d5, d6, d7, d8, d9]
  by_cases d10 : (64 : Int) < x.2.2.2.2.length
  · have e0 : okT x = false := by
      have : ¬ x.2.2.2.2.length ≤ 64 := by omega
      simp [okT, tabOk, Tb.l, this]
    refine .inr ?_
    rw [e0]
    simp -implicitDefEqProofs [hi, b1, g1, hcx, d1, d2, d3, d4, d5, d6, d7, d8, d9, d10]
  by_cases d11 : ltL x.2.2.2.1 x.2.2.2.2 = false ∧ ¬ x.2.2.2.1 = x.2.2.2.2
  · have e0 : okT x = false := by simp [okT, tabOk, Tb.f, Tb.l, d11.1, d11.2]
    refine .inr ?_
    rw [e0]
    simp -implicitDefEqProofs [hi, b1, g1, hcx, d1, d2, d3, d4, d5, d6, d7, d8, d9, d10, d11]
  have ho : okT x = true := by
    have a : (ltL x.2.2.2.1 x.2.2.2.2 || decide (x.2.2.2.1 = x.2.2.2.2)) = true := by
      cases hq : ltL x.2.2.2.1 x.2.2.2.2
      · simp only [Bool.false_or, decide_eq_true_eq]
        exact Classical.byContradiction fun h => d11 ⟨hq, h⟩
      · rfl
    have e1 : 1 ≤ x.1 ∧ x.1 ≤ 2147483647 := by omega
    have e2 : 0 ≤ x.2.1 ∧ x.2.1 ≤ 4 := by omega
    have e3 : 0 ≤ x.2.2.1 ∧ x.2.2.1 ≤ 1073741824 := by omega
    have e4 : x.2.2.2.1.length ≤ 64 ∧ x.2.2.2.2.length ≤ 64 := by omega
    unfold okT tabOk cnt Tb.f Tb.l
    rw [a]
    simp [e1, e2, e3, e4, d7]
  refine or_of (if p.any (clash x) = true then .out [⟨.bool, false⟩] else .again (i + 1)) ?_ ?_
  rotate_left
  · rw [ho]
    cases ha : p.any (clash x)
    · rw [if_neg Bool.false_ne_true]; exact (fitsLS_again _ _ _).mpr ⟨⟨by omega, by omega⟩, by omega, by simp⟩
    · rw [if_pos rfl]; exact (fitsLS_out _ _ _).mpr (by simp)
  simp -implicitDefEqProofs [hi, b1, g1, hcx, d1, d2, d3, d4, d5, d6, d7, d8, d9, d10, d11, -List.any_eq_true, -List.any_eq_false]
  have hpi : (p.length : Int) = i := by omega
  refine any_loop (e := TbT) p (clash x) _ _ _ ?_ ?_
  rotate_left
  · simp -implicitDefEqProofs [wi, hpi]
  intro j j1 hj
  have hj' : j < i := by omega
  rw [hpg j j1 hj']
  have g2 := getG (l := l) (d := dflt TbT) j1 (by omega)
  have b3 : 0 ≤ j ∧ j < (l.length : Int) := ⟨j1, by omega⟩
  have wj : IntKind.i64.wrap (j + 1) = j + 1 := wi64 _ (by omega) (by omega)
  rw [g2]
  generalize hcu : l[j.toNat]'(by omega) = u at *
  have k2 : Does1 Φ 101 [⟨.int .i64, u.1⟩, ⟨.int .i64, u.2.1⟩, ⟨.int .i64, u.2.2.1⟩, ⟨.str, u.2.2.2.1⟩, ⟨.str, u.2.2.2.2⟩, ⟨.int .i64, x.1⟩, ⟨.int .i64, x.2.1⟩, ⟨.int .i64, x.2.2.1⟩, ⟨.str, x.2.2.2.1⟩, ⟨.str, x.2.2.2.2⟩] [⟨.bool, meetT x u⟩] := by
    have := h101 u.1 u.2.1 u.2.2.1 u.2.2.2.1 u.2.2.2.2 x.1 x.2.1 x.2.2.1 x.2.2.2.1 x.2.2.2.2
    rw [meetL_comm] at this
    exact this
  unfold clash
  by_cases c1 : u.1 = x.1
  · have c1' : x.1 = u.1 := c1.symm
    simp -implicitDefEqProofs [hj', b3, b1, g1, g2, hcx, c1]
  have c1' : ¬ x.1 = u.1 := fun e => c1 e.symm
  by_cases c3 : u.2.1 = x.2.1
  rotate_left
  · have c3' : ¬ x.2.1 = u.2.1 := fun e => c3 e.symm
    simp -implicitDefEqProofs [hj', b3, b1, g1, g2, hcx, c1, c1', c3, c3', wj]
  by_cases c2 : 0 < x.2.1
  rotate_left
  · simp -implicitDefEqProofs [hj', b3, b1, g1, g2, hcx, c1, c1', c3, c2, wj]
  rw [c3] at k2
  cases hm : meetT x u <;> rw [hm] at k2 <;> simp -implicitDefEqProofs [hj', b3, b1, g1, g2, hcx, c1, c1', c2, c3, wj, k2]
theorem s54 {lc : List Ct} (hl0 : look (lc.map fun c => (c.sig.id, c)) 54 = some c54) : ∀ (l : List Tb) (hl : l.length < 1000000), Does1 (Phi lc) 54 [⟨.sl TbT, l⟩] [⟨.bool, mayT l⟩] :=
  fun l hl => by
    have eFc : c54.F = F54 := rfl
    have eFh := f54 l hl
    rw [← eFc] at eFh
    exact Does1.of hl0 eFh rfl
end Go.Proofs.Ytdjknicjnaiomaa.Sx
