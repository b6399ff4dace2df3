/-
  The document's disk: names as sorted lists, its functions and what they answer.
-/
import Derived.Test.YtmglkddddpipgaaP2
set_option linter.unusedVariables false
set_option linter.unusedSimpArgs false
namespace Go.Proofs.Ytmglkddddpipgaa
open Sx Go.RowKit

abbrev NmD : Type := List Int × Int

theorem ltL_irrefl : ∀ a : List Int, ltL a a = false
  | [] => rfl
  | x :: a => by simp [ltL, ltL_irrefl a]
theorem ltL_trans : ∀ {a b c : List Int}, ltL a b = true → ltL b c = true → ltL a c = true
  | a, b, [], _, h => by simp [ltL] at h
  | [], b, z :: c, _, _ => rfl
  | x :: a, [], z :: c, h, _ => by simp [ltL] at h
  | x :: a, y :: b, z :: c, h1, h2 => by
    simp only [ltL, Bool.or_eq_true, Bool.and_eq_true, decide_eq_true_eq] at h1 h2 ⊢; rcases h1 with h1 | ⟨h1, h3⟩
    · rcases h2 with h2 | ⟨h2, h4⟩
      · exact .inl (by omega)
      · exact .inl (by omega)
    · rcases h2 with h2 | ⟨h2, h4⟩
      · exact .inl (by omega)
      · exact .inr ⟨by omega, ltL_trans h3 h4⟩
theorem ltL_tri : ∀ a b : List Int, ltL a b = true ∨ a = b ∨ ltL b a = true
  | [], [] => .inr (.inl rfl)
  | [], _ :: _ => .inl rfl
  | _ :: _, [] => .inr (.inr rfl)
  | x :: a, y :: b => by
    simp only [ltL, Bool.or_eq_true, Bool.and_eq_true, decide_eq_true_eq]; rcases Int.lt_trichotomy x y with h | h | h
    · exact .inl (.inl h)
    · subst h; rcases ltL_tri a b with h | h | h
      · exact .inl (.inr ⟨rfl, h⟩)
      · exact .inr (.inl (by rw [h]))
      · exact .inr (.inr (.inr ⟨rfl, h⟩))
    · exact .inr (.inr (.inl h))

def woN (l : List NmD) (a : List Int) : List NmD := l.filter fun x => !decide (x.1 = a)
def wiN (l : List NmD) (x : NmD) : List NmD := ((woN l x.1).takeWhile fun y => ltL y.1 x.1) ++ x :: ((woN l x.1).dropWhile fun y => ltL y.1 x.1)
def stN (l : List NmD) (t : TurnD) : List NmD :=
  let x := if t.1 = [] then l else woN l t.1
  if t.2.1 = [] then x else wiN x (t.2.1, t.2.2)
def atL (l : List NmD) (a : List Int) : Int := match l.find? fun x => decide (x.1 = a) with | some x => x.2 | none => -1

def Srt (l : List NmD) : Prop := l.Pairwise fun x y => ltL x.1 y.1 = true
theorem Srt.wo {l : List NmD} (h : Srt l) (a : List Int) : Srt (woN l a) := List.Pairwise.sublist List.filter_sublist h
theorem ins_srt {x : NmD} : ∀ {m : List NmD}, Srt m → (∀ y ∈ m, y.1 ≠ x.1) → Srt ((m.takeWhile fun y => ltL y.1 x.1) ++ x :: (m.dropWhile fun y => ltL y.1 x.1))
  | [], _, _ => by simp [Srt]
  | y :: m, h, hn => by
    obtain ⟨h1, h2⟩ := List.pairwise_cons.1 h; by_cases hy : ltL y.1 x.1 = true
    · rw [List.takeWhile_cons_of_pos (p := fun y : NmD => ltL y.1 x.1) hy, List.dropWhile_cons_of_pos (p := fun y : NmD => ltL y.1 x.1) hy]; refine List.pairwise_cons.2 ⟨fun z hz => ?_, ins_srt h2 fun z hz => hn z (by simp [hz])⟩
      rcases List.mem_append.1 hz with hz | hz
      · exact h1 z (List.takeWhile_sublist _ |>.subset hz)
      · rcases List.mem_cons.1 hz with rfl | hz
        · exact hy
        · exact h1 z (List.dropWhile_sublist _ |>.subset hz)
    · rw [List.takeWhile_cons_of_neg (p := fun y : NmD => ltL y.1 x.1) hy, List.dropWhile_cons_of_neg (p := fun y : NmD => ltL y.1 x.1) hy]; have hxy : ltL x.1 y.1 = true := by
        rcases ltL_tri x.1 y.1 with h | h | h
        · exact h
        · exact absurd h.symm (hn y (by simp))
        · exact absurd h hy
      refine List.pairwise_cons.2 ⟨fun z hz => ?_, h⟩
      rcases List.mem_cons.1 hz with rfl | hz
      · exact hxy
      · exact ltL_trans hxy (h1 z hz)
theorem mem_wo {l : List NmD} {a : List Int} {x : NmD} (h : x ∈ woN l a) : x ∈ l ∧ x.1 ≠ a := by
  have := List.mem_filter.1 h
  exact ⟨this.1, by simpa using this.2⟩
theorem Srt.wi {l : List NmD} (h : Srt l) (x : NmD) : Srt (wiN l x) := ins_srt (h.wo _) fun y hy => (mem_wo hy).2
theorem wi_perm (l : List NmD) (x : NmD) : (wiN l x).Perm (x :: woN l x.1) := by
  unfold wiN; refine List.perm_middle.trans ?_
  rw [List.takeWhile_append_dropWhile]

theorem delS_filter {a : List Int} : ∀ {m : Mp}, (m.map (·.1)).Nodup → delS a m = m.filter fun x => !decide (x.1 = a)
  | [], _ => rfl
  | (b, j) :: m, h => by
    have h' := List.nodup_cons.1 h
    by_cases hq : a = b
    · subst hq; have e : delS a ((a, j) :: m) = m := by simp [delS, delM, keyEq]
      rw [e, List.filter_cons, if_neg (by simp)]; refine (List.filter_eq_self.2 fun x hx => ?_).symm
      have : x.1 ≠ a := fun e => h'.1 (List.mem_map.2 ⟨x, hx, e⟩)
      simp [this]
    · have e : delS a ((b, j) :: m) = (b, j) :: delS a m := by simp [delS, delM, keyEq, hq]
      have hq' : ¬ b = a := fun e => hq e.symm
      rw [e, List.filter_cons, if_pos (by simp [hq']), delS_filter h'.2]
theorem setS_perm {a : List Int} {i : Int} : ∀ {m : Mp}, (m.map (·.1)).Nodup → (setS a i m).Perm ((a, i) :: m.filter fun x => !decide (x.1 = a))
  | [], _ => List.Perm.refl _
  | (b, j) :: m, h => by
    have h' := List.nodup_cons.1 h
    by_cases hq : a = b
    · subst hq; have e : setS a i ((a, j) :: m) = (a, i) :: m := by simp [setS, setM, keyEq]
      rw [e, List.filter_cons, if_neg (by simp)]; rw [List.filter_eq_self.2 fun x hx => ?_]; have : x.1 ≠ a := fun e => h'.1 (List.mem_map.2 ⟨x, hx, e⟩)
      simp [this]
    · have e : setS a i ((b, j) :: m) = (b, j) :: setS a i m := by simp [setS, setM, keyEq, hq]
      have hq' : ¬ b = a := fun e => hq e.symm
      rw [e, List.filter_cons, if_pos (by simp [hq'])]
      exact ((setS_perm h'.2).cons _).trans (List.Perm.swap _ _ _)

def toR (m : Mp) : List NmD := m.map fun x => (x.1, x.2 - 1)
def tR (t : TurnD) : TurnD := (t.1, t.2.1, if t.2.1 = [] then 0 else t.2.2 - 1)

structure RelN (m : Mp) (l : List NmD) : Prop where
  nd : (m.map (·.1)).Nodup
  pm : (toR m).Perm l
  st : Srt l

theorem toR_filter (a : List Int) (m : Mp) : toR (m.filter fun x => !decide (x.1 = a)) = woN (toR m) a := by
  induction m with
  | nil => rfl
  | cons x m ih =>
    unfold toR woN at *
    by_cases h : x.1 = a
    · rw [List.filter_cons, if_neg (by simp [h]), List.map_cons, List.filter_cons, if_neg (by simp [h]), ih]
    · rw [List.filter_cons, if_pos (by simp [h]), List.map_cons, List.map_cons, List.filter_cons, if_pos (by simp [h]), ih]
theorem nd_filter {m : Mp} (h : (m.map (·.1)).Nodup) (q : List Int × Int → Bool) : ((m.filter q).map (·.1)).Nodup := (List.filter_sublist.map _).nodup h
theorem RelN.del {m : Mp} {l : List NmD} (h : RelN m l) (a : List Int) : RelN (delS a m) (woN l a) := by
  rw [delS_filter h.nd]; refine ⟨nd_filter h.nd _, ?_, h.st.wo _⟩
  rw [toR_filter]; exact h.pm.filter _
theorem RelN.set {m : Mp} {l : List NmD} (h : RelN m l) (a : List Int) (i : Int) : RelN (setS a i m) (wiN l (a, i - 1)) := by
  have hp := setS_perm (a := a) (i := i) h.nd
  refine ⟨?_, ?_, h.st.wi _⟩
  · refine (hp.map _).nodup_iff.2 ?_
    rw [List.map_cons]; refine List.nodup_cons.2 ⟨fun hm => ?_, nd_filter h.nd _⟩
    obtain ⟨x, hx, e⟩ := List.mem_map.1 hm; have := (List.mem_filter.1 hx).2
    simp [e] at this
  · refine (hp.map _).trans ?_
    refine List.Perm.trans ?_ (wi_perm _ _).symm
    rw [List.map_cons]; refine List.Perm.cons _ ?_
    show (toR _).Perm _
    rw [toR_filter]; exact h.pm.filter _
theorem RelN.turn {m : Mp} {l : List NmD} (h : RelN m l) (t : TurnD) : RelN (turnM t m) (stN l (tR t)) := by
  obtain ⟨a, b, i⟩ := t; unfold turnM stN tR; simp only
  by_cases h1 : a = []
  · by_cases h2 : b = []
    · simp only [if_pos h1, if_pos h2]; exact h
    · simp only [if_pos h1, if_neg h2]; exact h.set _ _
  · by_cases h2 : b = []
    · simp only [if_neg h1, if_pos h2]; exact h.del _
    · simp only [if_neg h1, if_neg h2]; exact (h.del _).set _ _
theorem RelN.turns {m : Mp} {l : List NmD} (h : RelN m l) (ts : List TurnD) : RelN (ts.foldl (fun m t => turnM t m) m) ((ts.map tR).foldl stN l) := by
  induction ts generalizing m l with
  | nil => exact h
  | cons t ts ih => exact ih (h.turn t)
theorem RelN.len {m : Mp} {l : List NmD} (h : RelN m l) : l.length = m.length := by rw [← h.pm.length_eq]; simp [toR]
theorem RelN.mem {m : Mp} {l : List NmD} (h : RelN m l) {a : List Int} {i : Int} : (a, i) ∈ l ↔ (a, i + 1) ∈ m := by
  rw [← h.pm.mem_iff]; unfold toR; refine List.mem_map.trans ⟨?_, fun hm => ⟨_, hm, by simp⟩⟩
  rintro ⟨⟨b, j⟩, hx, e⟩
  simp only [Prod.mk.injEq] at e; obtain ⟨rfl, rfl⟩ := e; rw [show j - 1 + 1 = j by omega]; exact hx
theorem Srt.uniq {l : List NmD} (h : Srt l) {x y : NmD} (hx : x ∈ l) (hy : y ∈ l) (e : x.1 = y.1) : x = y := by
  induction l with
  | nil => cases hx
  | cons z l ih =>
    obtain ⟨h1, h2⟩ := List.pairwise_cons.1 h; have irr : ∀ w ∈ l, w.1 ≠ z.1 := fun w hw e => by
      have := h1 w hw
      rw [e, ltL_irrefl] at this; cases this
    rcases List.mem_cons.1 hx with ex | hx'
    · rcases List.mem_cons.1 hy with ey | hy'
      · rw [ex, ey]
      · exact absurd (by rw [← e, ex]) (irr y hy')
    · rcases List.mem_cons.1 hy with ey | hy'
      · exact absurd (by rw [e, ey]) (irr x hx')
      · exact ih h2 hx' hy'
theorem atL_mem {l : List NmD} (h : Srt l) {a : List Int} {i : Int} (hm : (a, i) ∈ l) : atL l a = i := by
  unfold atL; cases hf : l.find? fun x => decide (x.1 = a) with
  | none =>
    have := List.find?_eq_none.1 hf _ hm
    simp at this
  | some x =>
    have h1 := List.find?_some hf
    have h2 := List.mem_of_find?_eq_some hf
    rw [h.uniq h2 hm (by simpa using h1)]
theorem atL_none {l : List NmD} {a : List Int} (hm : ∀ x ∈ l, x.1 ≠ a) : atL l a = -1 := by
  unfold atL; rw [List.find?_eq_none.2 fun x hx => by simpa using hm x hx]
theorem RelN.at_some {m : Mp} {l : List NmD} (h : RelN m l) {a : List Int} {i : Int} (hf : findS a m = some i) : atL l a = i - 1 :=
  atL_mem h.st (h.mem.2 (by rw [show i - 1 + 1 = i by omega]; exact findS_mem hf))
theorem RelN.at_none {m : Mp} {l : List NmD} (h : RelN m l) {a : List Int} (hf : findS a m = none) : atL l a = -1 :=
  atL_none fun x hx e => by
    obtain ⟨b, i⟩ := x; simp only at e
    subst e; obtain ⟨j, hj⟩ := findS_some (h.mem.1 hx)
    rw [hf] at hj; cases hj
end Go.Proofs.Ytmglkddddpipgaa

namespace Go.Proofs.Ytmglkddddpipgaa
open Sx Go.RowKit

structure Rd where
  q : Int
  fs : List FileD
  sf : List NmD
  ts : List TurnD
  st : Int
  fa : Int
  de : Bool
def Rd.now (d : Rd) : List NmD := d.ts.foldl stN d.sf
def Rd.names (d : Rd) (n : Int) : List NmD := (d.ts.take n.toNat).foldl stN d.sf
def Rd.at (d : Rd) (a : List Int) : Int := atL d.now a
def Rd.th (d : Rd) (i : Int) : Bool := (List.range (d.ts.length + 1)).any fun n => ((d.ts.take n).foldl stN d.sf).any fun x => decide (x.2 = i)
def Rd.used (d : Rd) : Nat := ((List.range d.fs.length).map fun (j : Nat) => if d.th (j : Int) = true then (d.fs.getD j ([], 0)).1.length else 0).sum
def Rd.act (d : Rd) : Rd × Int := ({ d with st := (actM d.st d.fa d.de).2.1, fa := (actM d.st d.fa d.de).2.2.1, de := (actM d.st d.fa d.de).2.2.2 }, (actM d.st d.fa d.de).1)
def Rd.fl (d : Rd) (i : Int) : FileD := d.fs.getD i.toNat ([], 0)

def KP (sm : Mp) (ts : List TurnD) (i : Int) : Prop := (∃ y ∈ sm, y.2 = i) ∨ ∃ t ∈ ts, t.2.1 ≠ [] ∧ t.2.2 = i
abbrev pre (sm : Mp) (ts : List TurnD) : Mp := ts.foldl (fun m t => turnM t m) sm

theorem pre_from {x : List Int × Int} : ∀ {ts : List TurnD} {sm : Mp}, x ∈ pre sm ts → KP sm ts x.2
  | [], sm, h => .inl ⟨x, h, rfl⟩
  | t :: ts, sm, h => by
    rcases pre_from (ts := ts) (sm := turnM t sm) h with ⟨y, hy, e⟩ | ⟨t', ht, e⟩
    · rcases turnM_sub hy with hy | ⟨h1, rfl⟩
      · exact .inl ⟨y, hy, e⟩
      · exact .inr ⟨t, by simp, h1, e⟩
    · exact .inr ⟨t', by simp [ht], e⟩
theorem setS_has {a : List Int} {i : Int} : ∀ (m : Mp), (a, i) ∈ setS a i m
  | [] => by simp [setS, setM]
  | (b, j) :: m => by
    by_cases hq : a = b
    · have : setS a i ((b, j) :: m) = (a, i) :: m := by simp [setS, setM, keyEq, hq]
      rw [this]; simp
    · have : setS a i ((b, j) :: m) = (b, j) :: setS a i m := by simp [setS, setM, keyEq, hq]
      rw [this]; exact List.mem_cons_of_mem _ (setS_has m)
theorem turnM_has {t : TurnD} (h : t.2.1 ≠ []) (m : Mp) : (t.2.1, t.2.2) ∈ turnM t m := by
  unfold turnM; simp only [if_neg h]; exact setS_has _
theorem pre_to {i : Int} : ∀ {ts : List TurnD} {sm : Mp}, KP sm ts i → ∃ n, n ≤ ts.length ∧ ∃ x ∈ pre sm (ts.take n), x.2 = i
  | ts, sm, .inl ⟨y, hy, e⟩ => ⟨0, Nat.zero_le _, y, by simpa using hy, e⟩
  | ts, sm, .inr ⟨t, ht, h1, e⟩ => by
    obtain ⟨n, hn⟩ := List.getElem?_of_mem ht
    obtain ⟨hl, _⟩ := List.getElem?_eq_some_iff.1 hn
    refine ⟨n + 1, hl, (t.2.1, t.2.2), ?_, e⟩
    unfold pre; rw [List.take_add_one, hn, List.foldl_append]; exact turnM_has h1 _

theorem nd_inj {α β : Type} {f : α → β} : ∀ {l : List α}, (l.map f).Nodup → ∀ {x y : α}, x ∈ l → y ∈ l → f x = f y → x = y
  | z :: l, h, x, y, hx, hy, e => by
    have h' := List.nodup_cons.1 h
    rcases List.mem_cons.1 hx with ex | hx'
    · rcases List.mem_cons.1 hy with ey | hy'
      · rw [ex, ey]
      · exact absurd (List.mem_map.2 ⟨y, hy', by rw [← e, ex]⟩) h'.1
    · rcases List.mem_cons.1 hy with ey | hy'
      · exact absurd (List.mem_map.2 ⟨x, hx', by rw [e, ey]⟩) h'.1
      · exact nd_inj h'.2 hx' hy' e
theorem findF_of {i : Int} {r : Option Nat} : ∀ {m : Fm}, (m.map (·.1)).Nodup → (i, r) ∈ m → findF i m = some r
  | (b, w) :: m, h, hm => by
    have h' := List.nodup_cons.1 h
    by_cases hb : i = b
    · subst hb; rcases List.mem_cons.1 hm with hm | hm
      · simp only [Prod.mk.injEq] at hm; simp [findF, findM, keyEq, hm.2]
      · exact absurd (List.mem_map.2 ⟨_, hm, rfl⟩) h'.1
    · rcases List.mem_cons.1 hm with hm | hm
      · simp only [Prod.mk.injEq] at hm; exact absurd hm.1 hb
      · have ih : findM (.int .i64) i m = some r := findF_of h'.2 hm
        simp [findF, findM, keyEq, hb, ih]

structure Sim (s : St) (d : Rd) : Prop where
  q : d.q = s.q
  st : d.st = s.st
  fa : d.fa = s.fa
  de : d.de = s.de
  len : (d.fs.length : Int) = s.nx
  ts : d.ts = s.ts.map tR
  sm : RelN s.sm d.sf
  nm : s.nm = pre s.sm s.ts
  fk : (s.fm.map (·.1)).Nodup
  f1 : ∀ x ∈ s.fm, 1 ≤ x.1
  fl : ∀ i k, findF i s.fm = some (some k) → d.fs[(i - 1).toNat]? = s.A2[k]?
  th : ∀ x ∈ s.fm, KP s.sm s.ts x.1
  ok : ∀ f ∈ d.fs, f.1.length ≤ 4194304 ∧ 0 ≤ f.2 ∧ f.2 ≤ f.1.length
  nv : ∀ n, ((Go.Proofs.Ytmglkddddpipgaa.pre s.sm (s.ts.take n)).map (·.2)).Nodup
  sk : ∀ x ∈ s.sm, x.1 ≠ []

theorem Sim.now {s : St} {d : Rd} (h : Sim s d) : RelN s.nm d.now := by
  rw [h.nm]; unfold Rd.now; rw [h.ts]; exact h.sm.turns _
theorem Sim.pre {s : St} {d : Rd} (h : Sim s d) (n : Nat) : RelN (pre s.sm (s.ts.take n)) ((d.ts.take n).foldl stN d.sf) := by
  rw [h.ts, ← List.map_take]; exact h.sm.turns _
theorem Sim.has {s : St} {d : Rd} {N : Nat} (hi : Inv s N) (h : Sim s d) {i : Int} (hk : KP s.sm s.ts i) : ∃ k, findF i s.fm = some (some k) := by
  rcases hk with ⟨y, hy, rfl⟩ | ⟨t, ht, h1, rfl⟩
  · exact hi.ok.snames y hy
  · exact hi.ok.tnames t ht h1
theorem Sim.pos {s : St} {d : Rd} {N : Nat} (hi : Inv s N) (h : Sim s d) {i : Int} (hk : KP s.sm s.ts i) : 1 ≤ i ∧ i ≤ s.nx := by
  obtain ⟨k, hk⟩ := h.has hi hk; have := findF_mem hk
  exact ⟨h.f1 _ this, hi.kn _ this⟩
theorem Sim.th_iff {s : St} {d : Rd} (h : Sim s d) (i : Int) : d.th i = true ↔ KP s.sm s.ts (i + 1) := by
  unfold Rd.th; rw [List.any_eq_true]; constructor
  · rintro ⟨n, hn, hx⟩
    obtain ⟨⟨a, j⟩, hx1, e⟩ := List.any_eq_true.1 hx; have e : j = i := by simpa using e
    subst e; have := pre_from ((h.pre n).mem.1 hx1)
    rcases this with ⟨y, hy, e⟩ | ⟨t, ht, e⟩
    · exact .inl ⟨y, hy, e⟩
    · exact .inr ⟨t, List.mem_of_mem_take ht, e⟩
  · intro hk; obtain ⟨n, hn, ⟨a, j⟩, hx, e⟩ := pre_to hk; simp only at e
    subst e; refine ⟨n, List.mem_range.2 (by rw [h.ts, List.length_map]; omega), List.any_eq_true.2 ⟨(a, i), (h.pre n).mem.2 hx, by simp⟩⟩

theorem sum_filter {α : Type} (p : α → Bool) (g : α → Nat) : ∀ l : List α, (l.map fun j => if p j = true then g j else 0).sum = ((l.filter p).map g).sum
  | [] => rfl
  | x :: l => by
    have ih := sum_filter p g l
    rw [List.map_cons, List.sum_cons, ih, List.filter_cons]; split
    · rw [List.map_cons, List.sum_cons]
    · rw [Nat.zero_add]

theorem Sim.used {s : St} {d : Rd} {N : Nat} (hi : Inv s N) (h : Sim s d) : d.used = usedN s.A2 s.fm := by
  unfold Rd.used usedN; rw [sum_filter (fun j : Nat => d.th (j : Int)) (fun j : Nat => (d.fs.getD j ([], 0)).1.length)]
  have e1 : s.fm.map (fun x => lenF s.A2 x.2) = (s.fm.map fun x => (x.1 - 1).toNat).map fun j => (d.fs.getD j ([], 0)).1.length := by
    rw [List.map_map]; apply List.map_congr_left
    intro x hx; obtain ⟨k, f, e1, e2, _⟩ := hi.ok.fm x hx; have hf := findF_of h.fk (i := x.1) (r := some k) (by rw [← e1]; exact hx)
    have := h.fl _ _ hf
    show lenF s.A2 x.2 = (d.fs.getD (x.1 - 1).toNat ([], 0)).1.length
    rw [e1, List.getD_eq_getElem?_getD, this, e2]; simp only [lenF, e2]; rfl
  rw [e1]; refine (List.Perm.map _ ?_).sum_nat
  have hn1 : ((List.range d.fs.length).filter fun j : Nat => d.th (j : Int)).Nodup := List.filter_sublist.nodup List.nodup_range
  have hn2 : (s.fm.map fun x => (x.1 - 1).toNat).Nodup := by
    have : (s.fm.map fun x => (x.1 - 1).toNat) = (s.fm.map (·.1)).map fun i : Int => (i - 1).toNat := by rw [List.map_map]; rfl
    rw [this]; have hp : ∀ i ∈ s.fm.map (·.1), 1 ≤ i := fun i hi => by obtain ⟨x, hx, rfl⟩ := List.mem_map.1 hi; exact h.f1 x hx
    have hk := h.fk
    generalize s.fm.map (·.1) = l at hp hk
    induction l with
    | nil => simp
    | cons i l ih =>
      obtain ⟨h1, h2⟩ := List.nodup_cons.1 hk; rw [List.map_cons]; refine List.nodup_cons.2 ⟨fun hm => ?_, ih (fun j hj => hp j (by simp [hj])) h2⟩
      obtain ⟨j, hj, e⟩ := List.mem_map.1 hm; have p1 := hp i (by simp)
      have p2 := hp j (by simp [hj])
      have : j = i := by omega
      subst this; exact h1 hj
  refine (List.perm_ext_iff_of_nodup hn1 hn2).2 fun j => ?_
  rw [List.mem_filter, List.mem_range, List.mem_map]; constructor
  · rintro ⟨h1, h2⟩
    obtain ⟨k, hk⟩ := h.has hi ((h.th_iff _).1 h2)
    exact ⟨_, findF_mem hk, by simp only; omega⟩
  · rintro ⟨x, hx, e⟩
    have p1 := h.f1 x hx
    have p2 := hi.kn x hx
    have p3 := h.len
    refine ⟨by omega, (h.th_iff _).2 ?_⟩
    rw [show (j : Int) + 1 = x.1 by omega]; exact h.th x hx

theorem Sim.count {s : St} {d : Rd} (h : Sim s d) (st fa : Int) (de : Bool) : Sim { s with st := st, fa := fa, de := de } { d with st := st, fa := fa, de := de } :=
  { q := h.q, st := rfl, fa := rfl, de := rfl, len := h.len, ts := h.ts, sm := h.sm, nm := h.nm, fk := h.fk, f1 := h.f1, fl := h.fl, th := h.th, ok := h.ok, nv := h.nv, sk := h.sk }
theorem Sim.act {s : St} {d : Rd} (h : Sim s d) : d.act.2 = s.act.1 ∧ Sim s.act.2 d.act.1 := by
  refine ⟨?_, ?_⟩
  · show (actM d.st d.fa d.de).1 = (actM s.st s.fa s.de).1
    rw [h.st, h.fa, h.de]
  · have e : d.act.1 = { d with st := (actM s.st s.fa s.de).2.1, fa := (actM s.st s.fa s.de).2.2.1, de := (actM s.st s.fa s.de).2.2.2 } := by
      unfold Rd.act; simp only [h.st, h.fa, h.de]
    rw [e]; exact h.count _ _ _
theorem fl_set {fm : Fm} {A2 fs : List FileD} (hn : (fm.map (·.2)).Nodup) (h1 : ∀ x ∈ fm, 1 ≤ x.1) (h : ∀ i k, findF i fm = some (some k) → fs[(i - 1).toNat]? = A2[k]?) {i : Int} {k : Nat} (hf : findF i fm = some (some k)) (f : FileD) :
    ∀ i' k', findF i' fm = some (some k') → (fs.set (i - 1).toNat f)[(i' - 1).toNat]? = (A2.set k f)[k']? := by
  intro i' k' hf'; have hA := h i k hf
  have hA' := h i' k' hf'
  have m1 := findF_mem hf
  have m2 := findF_mem hf'
  have p1 := h1 _ m1
  have p2 := h1 _ m2
  simp only at p1 p2
  by_cases e : i' = i
  · subst e; rw [hf] at hf'; simp only [oi] at hf'; subst hf'; rw [List.getElem?_set, if_pos rfl, List.getElem?_set, if_pos rfl]; have : (i' - 1).toNat < fs.length ↔ k < A2.length := by
      constructor
      · intro hlt; rw [List.getElem?_eq_getElem hlt] at hA; exact (List.getElem?_eq_some_iff.1 hA.symm).1
      · intro hlt; rw [List.getElem?_eq_getElem hlt] at hA; exact (List.getElem?_eq_some_iff.1 hA).1
    by_cases hk : k < A2.length
    · rw [if_pos hk, if_pos (this.2 hk)]
    · rw [if_neg hk, if_neg fun h => hk (this.1 h)]
  · have hk : k' ≠ k := fun ek => by
      have := nd_inj hn m1 m2 (by simp [ek])
      simp only [Prod.mk.injEq] at this; exact e this.1.symm
    rw [List.getElem?_set, if_neg (by omega), List.getElem?_set, if_neg fun e => hk e.symm]; exact hA'
theorem Sim.setFile {s : St} {d : Rd} {N : Nat} (hi : Inv s N) (h : Sim s d) {i : Int} {k : Nat} (hf : findF i s.fm = some (some k)) {f : FileD} (h1 : f.1.length ≤ 4194304) (h2 : 0 ≤ f.2) (h3 : f.2 ≤ f.1.length) :
    Sim { s with A2 := s.A2.set k f } { d with fs := d.fs.set (i - 1).toNat f } :=
  { q := h.q, st := h.st, fa := h.fa, de := h.de, len := by show ((d.fs.set _ _).length : Int) = _; rw [List.length_set]; exact h.len, ts := h.ts, sm := h.sm, nm := h.nm, fk := h.fk, f1 := h.f1
    fl := fl_set hi.rN h.f1 h.fl hf f, th := h.th, nv := h.nv, sk := h.sk
    ok := fun g hg => by
      rcases List.mem_or_eq_of_mem_set hg with hg | rfl
      · exact h.ok g hg
      · exact ⟨h1, h2, h3⟩ }
theorem Sim.forget {s : St} {d : Rd} (h : Sim s d) : Sim s.forget d :=
  { q := h.q, st := h.st, fa := h.fa, de := h.de, len := h.len, ts := h.ts, sm := h.sm, nm := h.nm, fk := (List.filter_sublist.map _).nodup h.fk
    f1 := fun x hx => h.f1 x (List.mem_filter.1 hx).1
    fl := fun i k hk => h.fl i k (findF_of h.fk (List.mem_filter.1 (findF_mem hk)).1)
    th := fun x hx => h.th x (List.mem_filter.1 hx).1, ok := h.ok, nv := h.nv, sk := h.sk }
theorem Sim.turn {s : St} {d : Rd} (h : Sim s d) {A1 : List Mp} {t : TurnD} (e1 : St.nm { s with A1 := A1 } = turnM t s.nm) (e2 : St.sm { s with A1 := A1 } = s.sm) (hv : ((turnM t s.nm).map (·.2)).Nodup) :
    Sim { s with A1 := A1, ts := s.ts ++ [t] } { d with ts := d.ts ++ [tR t] } := by
  have e1' : St.nm { s with A1 := A1, ts := s.ts ++ [t] } = turnM t s.nm := e1
  have e2' : St.sm { s with A1 := A1, ts := s.ts ++ [t] } = s.sm := e2
  refine { q := h.q, st := h.st, fa := h.fa, de := h.de, len := h.len, ts := ?_, sm := ?_, nm := ?_, fk := h.fk, f1 := h.f1, fl := h.fl, th := ?_, ok := h.ok, nv := ?_, sk := by rw [e2']; exact h.sk }
  · show d.ts ++ [tR t] = _
    rw [h.ts, List.map_append]; rfl
  · rw [e2']; exact h.sm
  · rw [e1', e2', h.nm]; show _ = Go.Proofs.Ytmglkddddpipgaa.pre s.sm (s.ts ++ [t])
    unfold Go.Proofs.Ytmglkddddpipgaa.pre; rw [List.foldl_append]; rfl
  · rw [e2']; intro x hx; rcases h.th x hx with ⟨y, hy, e⟩ | ⟨u, hu, e⟩
    · exact .inl ⟨y, hy, e⟩
    · exact .inr ⟨u, List.mem_append_left _ hu, e⟩
  · intro n; rw [e2']; show ((Go.Proofs.Ytmglkddddpipgaa.pre s.sm ((s.ts ++ [t]).take n)).map (·.2)).Nodup
    by_cases hn : n ≤ s.ts.length
    · rw [List.take_append_of_le_length hn]; exact h.nv n
    · rw [List.take_of_length_le (by rw [List.length_append, List.length_singleton]; omega)]
      unfold Go.Proofs.Ytmglkddddpipgaa.pre; rw [List.foldl_append]; have hv' := hv
      rw [h.nm] at hv'; exact hv'
theorem Sim.newFile {s : St} {d : Rd} (hkn : ∀ x ∈ s.fm, x.1 ≤ s.nx) (hx0 : 0 ≤ s.nx) (hvf : VF s.fm s.A2) (h : Sim s d) {b : List Int} (hb : b.length ≤ 4194304) (hk : KP s.sm s.ts (s.nx + 1)) :
    Sim { s with nx := s.nx + 1, A2 := s.A2 ++ [(b, 0)], fm := setF (s.nx + 1) (some s.A2.length) s.fm } { d with fs := d.fs ++ [(b, 0)] } := by
  have hfm : setF (s.nx + 1) (some s.A2.length) s.fm = s.fm ++ [(s.nx + 1, some s.A2.length)] := setF_new fun x hx => by
    have := hkn x hx; omega
  have hl := h.len
  refine { q := h.q, st := h.st, fa := h.fa, de := h.de, len := ?_, ts := h.ts, sm := h.sm, nm := h.nm, fk := ?_, f1 := ?_, fl := ?_, th := ?_, ok := ?_, nv := h.nv, sk := h.sk }
  · show ((d.fs ++ [(b, 0)]).length : Int) = s.nx + 1
    rw [List.length_append, List.length_singleton]; omega
  · show ((setF (s.nx + 1) (some s.A2.length) s.fm).map (·.1)).Nodup
    rw [hfm, List.map_append]; refine List.nodup_append.2 ⟨h.fk, by simp, fun x hx y hy e => ?_⟩
    obtain ⟨z, hz, rfl⟩ := List.mem_map.1 hx; simp only [List.map_cons, List.map_nil, List.mem_singleton] at hy; have := hkn z hz
    omega
  · intro x hx; have hx : x ∈ s.fm ++ [(s.nx + 1, some s.A2.length)] := by rw [← hfm]; exact hx
    rcases List.mem_append.1 hx with hx | hx
    · exact h.f1 x hx
    · rw [List.mem_singleton.1 hx]; simp only; omega
  · intro i k hf; have hf : findF i (setF (s.nx + 1) (some s.A2.length) s.fm) = some (some k) := hf
    show (d.fs ++ [(b, 0)])[(i - 1).toNat]? = (s.A2 ++ [(b, 0)])[k]?
    rw [findF_set] at hf; split at hf
    · rename_i e; simp only [oi] at hf; subst hf; rw [show (i - 1).toNat = d.fs.length by omega, List.getElem?_concat_length, List.getElem?_concat_length]
    · have hm := findF_mem hf
      have p1 := h.f1 _ hm
      have p2 := hkn _ hm
      simp only at p1 p2
      obtain ⟨k', f, e1, e2, _⟩ := hvf _ hm; simp only [oi] at e1; subst e1; rw [List.getElem?_append_left (by omega), List.getElem?_append_left (List.getElem?_eq_some_iff.1 e2).1]; exact h.fl i k hf
  · intro x hx; have hx : x ∈ s.fm ++ [(s.nx + 1, some s.A2.length)] := by rw [← hfm]; exact hx
    rcases List.mem_append.1 hx with hx | hx
    · exact h.th x hx
    · rw [List.mem_singleton.1 hx]; exact hk
  · intro f hf; rcases List.mem_append.1 hf with hf | hf
    · exact h.ok f hf
    · rw [List.mem_singleton.1 hf]; exact ⟨hb, Int.le_refl _, by simp only; omega⟩
theorem Sim.take {s : St} {d : Rd} (h : Sim s d) {jn js : Nat} {A1 : List Mp} {m : Mp} {l : List NmD} (e1 : A1[jn]? = some m) (e2 : A1[js]? = some m) (hr : RelN m l) (hv : (m.map (·.2)).Nodup) (hk : ∀ x ∈ m, x.1 ≠ []) :
    Sim (St.forget { s with jn := jn, js := js, A1 := A1, ts := [] }) { d with sf := l, ts := [] } := by
  have k1 : St.nm { s with jn := jn, js := js, A1 := A1, ts := [] } = m := by simp [St.nm, e1]
  have k2 : St.sm { s with jn := jn, js := js, A1 := A1, ts := [] } = m := by simp [St.sm, e2]
  have k1' : St.nm (St.forget { s with jn := jn, js := js, A1 := A1, ts := [] }) = m := k1
  have k2' : St.sm (St.forget { s with jn := jn, js := js, A1 := A1, ts := [] }) = m := k2
  refine { q := h.q, st := h.st, fa := h.fa, de := h.de, len := h.len, ts := rfl, sm := ?_, nm := ?_, fk := (List.filter_sublist.map _).nodup h.fk, f1 := fun x hx => h.f1 x (List.mem_filter.1 hx).1
           fl := fun i k hk => h.fl i k (findF_of h.fk (List.mem_filter.1 (findF_mem hk)).1), th := ?_, ok := h.ok, nv := fun n => by
             rw [k2']; show ((Go.Proofs.Ytmglkddddpipgaa.pre m (([] : List TurnD).take n)).map (·.2)).Nodup
             rw [List.take_nil]; exact hv, sk := by rw [k2']; exact hk }
  · rw [k2']; exact hr
  · rw [k1', k2']; rfl
  · intro x hx; have := (List.mem_filter.1 hx).2
    rw [k1, k2] at this; rw [k2']; simp only [keepB, List.any_nil, Bool.or_false, Bool.or_self, List.any_eq_true, beq_iff_eq] at this; exact .inl this
end Go.Proofs.Ytmglkddddpipgaa

namespace Go.Proofs.Ytmglkddddpipgaa
open Sx
def sig110 : Sig := { id := 110, ins := [(true, (Ty.int .i64).pair (FlT.sl.pair ((Ty.str.pair (Ty.int .i64)).sl.pair ((Ty.str.pair (Ty.str.pair (Ty.int .i64))).sl.pair ((Ty.int .i64).pair ((Ty.int .i64).pair Ty.bool)))))), (false, Ty.int .i64), (true, (Ty.int .u8).sl.pair (Ty.int .i64))], outs := [(true, [(Ty.int .i64, none), (FlT.sl, none), ((Ty.str.pair (Ty.int .i64)).sl, none), ((Ty.str.pair (Ty.str.pair (Ty.int .i64))).sl, none), (Ty.int .i64, none), (Ty.int .i64, none), (Ty.bool, none)])] }
def ir110 : IR := .op (.mk FlT 0) [] (.op .appd [.v 10, .v 1] (.op .inb [.v 11, .v 7] (.op (.upd FlT 0) [.v 11, .v 7, .v 8, .v 9] (.ret [.v 0, .v 12, .v 2, .v 3, .v 4, .v 5, .v 6]))))
def sig59 : Sig := { id := 59, ins := [(false, (Ty.int .u8).sl), (false, (Ty.int .u8).sl)], outs := [(false, [(Ty.bool, none)])] }
def ir59 : IR := .op .len [.v 0] (.op .len [.v 1] (.op (.icmp .neq) [.v 2, .v 3] (.ite (.v 4) (.ret [.l (.bool false)]) (.loop [.l (.int .i64 0)] [Ty.int .i64] (.op .len [.v 0] (.op (.icmp .lss) [.v 5, .v 6] (.ite (.v 7) (.op .inb [.v 0, .v 5] (.op (.idx (Ty.int .u8)) [.v 0, .v 5] (.op .inb [.v 1, .v 5] (.op (.idx (Ty.int .u8)) [.v 1, .v 5] (.op (.icmp .neq) [.v 8, .v 9] (.ite (.v 10) (.ret [.l (.bool false)]) (.op (.ibin .add .i64) [.v 5, .l (.int .i64 1)] (.jump 0 [.v 11])))))))) (.ret [.l (.bool true)]))))))))
def sig27 : Sig := { id := 27, ins := [(false, (Ty.int .u8).sl), (false, (Ty.int .u8).sl)], outs := [(false, [(Ty.bool, none)])] }
def ir27 : IR := .op (.call 59) [.v 0, .v 1] (.ret [.v 2])
def sig48 : Sig := { id := 48, ins := [(false, Ty.int .i64)], outs := [(true, [(Ty.int .i64, none), (FlT.sl, some 179), ((Ty.str.pair (Ty.int .i64)).sl, some 186), ((Ty.str.pair (Ty.str.pair (Ty.int .i64))).sl, some 182), (Ty.int .i64, none), (Ty.int .i64, none), (Ty.bool, none)])] }
def ir48 : IR := .ret [.v 0, .l (.nil FlT), .l (.nil (Ty.str.pair (Ty.int .i64))), .l (.nil (Ty.str.pair (Ty.str.pair (Ty.int .i64)))), .l (.int .i64 (-1)), .l (.int .i64 0), .l (.bool false)]
def sig131 : Sig := { id := 131, ins := [(false, (Ty.str.pair (Ty.int .i64)).sl), (false, Ty.str)], outs := [(false, [((Ty.str.pair (Ty.int .i64)).sl, some 186)])] }
def ir131 : IR := .op (.mk (Ty.str.pair (Ty.int .i64)) 0) [] (.loop [.v 2, .l (.int .i64 0)] [(Ty.str.pair (Ty.int .i64)).sl, Ty.int .i64] (.op .len [.v 0] (.op (.icmp .lss) [.v 4, .v 5] (.ite (.v 6) (.op .inb [.v 0, .v 4] (.op (.idx (Ty.str.pair (Ty.int .i64))) [.v 0, .v 4] (.op (.scmp .neq) [.v 7, .v 1] (.ite (.v 9) (.op .inb [.v 0, .v 4] (.op (.idx (Ty.str.pair (Ty.int .i64))) [.v 0, .v 4] (.op (.mk (Ty.str.pair (Ty.int .i64)) 1) [.v 10, .v 11] (.op .app [.v 3, .v 12] (.op (.ibin .add .i64) [.v 4, .l (.int .i64 1)] (.jump 0 [.v 13, .v 14])))))) (.op (.ibin .add .i64) [.v 4, .l (.int .i64 1)] (.jump 0 [.v 3, .v 10])))))) (.ret [.v 3])))))
def sig132 : Sig := { id := 132, ins := [(false, (Ty.str.pair (Ty.int .i64)).sl), (true, Ty.str.pair (Ty.int .i64))], outs := [(false, [((Ty.str.pair (Ty.int .i64)).sl, some 186)])] }
def ir132 : IR := .op (.call 131) [.v 0, .v 1] (.loop [.l (.int .i64 0)] [Ty.int .i64] (.op .len [.v 3] (.op (.icmp .lss) [.v 4, .v 5] (.ite (.v 6) (.op .inb [.v 3, .v 4] (.op (.idx (Ty.str.pair (Ty.int .i64))) [.v 3, .v 4] (.op (.scmp .lss) [.v 7, .v 1] (.ite (.v 9) (.op (.ibin .add .i64) [.v 4, .l (.int .i64 1)] (.jump 0 [.v 10])) (.op (.mk (Ty.str.pair (Ty.int .i64)) 0) [] (.op .sub [.v 3, .l (.int .i64 0), .v 4] (.op .app [.v 10, .v 11] (.op (.mk (Ty.str.pair (Ty.int .i64)) 1) [.v 1, .v 2] (.op .app [.v 12, .v 13] (.op .sub [.v 3, .v 4] (.op .app [.v 14, .v 15] (.ret [.v 16])))))))))))) (.op (.mk (Ty.str.pair (Ty.int .i64)) 0) [] (.op .sub [.v 3, .l (.int .i64 0), .v 4] (.op .app [.v 7, .v 8] (.op (.mk (Ty.str.pair (Ty.int .i64)) 1) [.v 1, .v 2] (.op .app [.v 9, .v 10] (.op .sub [.v 3, .v 4] (.op .app [.v 11, .v 12] (.ret [.v 13]))))))))))))
def sig111 : Sig := { id := 111, ins := [(true, (Ty.int .i64).pair (FlT.sl.pair ((Ty.str.pair (Ty.int .i64)).sl.pair ((Ty.str.pair (Ty.str.pair (Ty.int .i64))).sl.pair ((Ty.int .i64).pair ((Ty.int .i64).pair Ty.bool)))))), (false, Ty.int .i64)], outs := [(false, [((Ty.str.pair (Ty.int .i64)).sl, none)])] }
def ir111 : IR := .op (.mk (Ty.str.pair (Ty.int .i64)) 0) [] (.op .app [.v 8, .v 2] (.loop [.v 9, .l (.int .i64 0)] [(Ty.str.pair (Ty.int .i64)).sl, Ty.int .i64] (.op (.icmp .lss) [.v 11, .v 7] (.ite (.v 12) (.op .len [.v 3] (.op (.icmp .lss) [.v 11, .v 13] (.ite (.v 14) (.op .inb [.v 3, .v 11] (.op (.idx (Ty.str.pair (Ty.str.pair (Ty.int .i64)))) [.v 3, .v 11] (.op (.scmp .neq) [.v 15, .l (.str [])] (.ite (.v 18) (.op (.call 131) [.v 10, .v 15] (.op (.scmp .neq) [.v 16, .l (.str [])] (.ite (.v 20) (.op (.call 132) [.v 19, .v 16, .v 17] (.op (.ibin .add .i64) [.v 11, .l (.int .i64 1)] (.jump 0 [.v 21, .v 22]))) (.op (.ibin .add .i64) [.v 11, .l (.int .i64 1)] (.jump 0 [.v 19, .v 21]))))) (.op (.scmp .neq) [.v 16, .l (.str [])] (.ite (.v 19) (.op (.call 132) [.v 10, .v 16, .v 17] (.op (.ibin .add .i64) [.v 11, .l (.int .i64 1)] (.jump 0 [.v 20, .v 21]))) (.op (.ibin .add .i64) [.v 11, .l (.int .i64 1)] (.jump 0 [.v 10, .v 20])))))))) (.ret [.v 10])))) (.ret [.v 10])))))
def sig106 : Sig := { id := 106, ins := [(true, (Ty.int .i64).pair (FlT.sl.pair ((Ty.str.pair (Ty.int .i64)).sl.pair ((Ty.str.pair (Ty.str.pair (Ty.int .i64))).sl.pair ((Ty.int .i64).pair ((Ty.int .i64).pair Ty.bool))))))], outs := [(false, [((Ty.str.pair (Ty.int .i64)).sl, none)])] }
def ir106 : IR := .op .len [.v 3] (.op (.call 111) [.v 0, .v 1, .v 2, .v 3, .v 4, .v 5, .v 6, .v 7] (.ret [.v 8]))
def sig105 : Sig := { id := 105, ins := [(true, (Ty.int .i64).pair (FlT.sl.pair ((Ty.str.pair (Ty.int .i64)).sl.pair ((Ty.str.pair (Ty.str.pair (Ty.int .i64))).sl.pair ((Ty.int .i64).pair ((Ty.int .i64).pair Ty.bool)))))), (false, Ty.str)], outs := [(false, [(Ty.int .i64, none)])] }
def ir105 : IR := .op (.call 106) [.v 0, .v 1, .v 2, .v 3, .v 4, .v 5, .v 6] (.loop [.l (.int .i64 0)] [Ty.int .i64] (.op .len [.v 8] (.op (.icmp .lss) [.v 9, .v 10] (.ite (.v 11) (.op .inb [.v 8, .v 9] (.op (.idx (Ty.str.pair (Ty.int .i64))) [.v 8, .v 9] (.op (.scmp .eql) [.v 12, .v 7] (.ite (.v 14) (.op .inb [.v 8, .v 9] (.op (.idx (Ty.str.pair (Ty.int .i64))) [.v 8, .v 9] (.ret [.v 16]))) (.op (.ibin .add .i64) [.v 9, .l (.int .i64 1)] (.jump 0 [.v 15])))))) (.ret [.l (.int .i64 (-1))])))))
def sig130 : Sig := { id := 130, ins := [(true, (Ty.int .i64).pair (FlT.sl.pair ((Ty.str.pair (Ty.int .i64)).sl.pair ((Ty.str.pair (Ty.str.pair (Ty.int .i64))).sl.pair ((Ty.int .i64).pair ((Ty.int .i64).pair Ty.bool)))))), (false, Ty.int .i64)], outs := [(false, [(Ty.bool, none)])] }
def ir130 : IR := .loop [.l (.int .i64 0)] [Ty.int .i64] (.op .len [.v 3] (.op (.icmp .leq) [.v 8, .v 9] (.ite (.v 10) (.op (.call 111) [.v 0, .v 1, .v 2, .v 3, .v 4, .v 5, .v 6, .v 8] (.loop [.l (.int .i64 0)] [Ty.int .i64] (.op .len [.v 11] (.op (.icmp .lss) [.v 12, .v 13] (.ite (.v 14) (.op .inb [.v 11, .v 12] (.op (.idx (Ty.str.pair (Ty.int .i64))) [.v 11, .v 12] (.op (.icmp .eql) [.v 16, .v 7] (.ite (.v 17) (.ret [.l (.bool true)]) (.op (.ibin .add .i64) [.v 12, .l (.int .i64 1)] (.jump 1 [.v 18])))))) (.op (.ibin .add .i64) [.v 8, .l (.int .i64 1)] (.jump 0 [.v 15]))))))) (.ret [.l (.bool false)]))))
def sig108 : Sig := { id := 108, ins := [(true, (Ty.int .i64).pair (FlT.sl.pair ((Ty.str.pair (Ty.int .i64)).sl.pair ((Ty.str.pair (Ty.str.pair (Ty.int .i64))).sl.pair ((Ty.int .i64).pair ((Ty.int .i64).pair Ty.bool))))))], outs := [(true, [(Ty.int .i64, none), (FlT.sl, none), ((Ty.str.pair (Ty.int .i64)).sl, none), ((Ty.str.pair (Ty.str.pair (Ty.int .i64))).sl, none), (Ty.int .i64, none), (Ty.int .i64, none), (Ty.bool, none)]), (false, [(Ty.int .i64, none)])] }
def ir108 : IR := .op (.icmp .eql) [.v 4, .l (.int .i64 0)] (.ite (.v 7) (.ret [.v 0, .v 1, .v 2, .v 3, .v 4, .v 5, .l (.bool true), .l (.int .i64 9)]) (.op (.icmp .gtr) [.v 4, .l (.int .i64 0)] (.ite (.v 8) (.op (.ibin .sub .i64) [.v 4, .l (.int .i64 1)] (.op (.icmp .eql) [.v 5, .l (.int .i64 1)] (.ite (.v 10) (.ret [.v 0, .v 1, .v 2, .v 3, .v 9, .l (.int .i64 0), .v 6, .l (.int .i64 8)]) (.op (.icmp .gtr) [.v 5, .l (.int .i64 1)] (.ite (.v 11) (.op (.ibin .sub .i64) [.v 5, .l (.int .i64 1)] (.ret [.v 0, .v 1, .v 2, .v 3, .v 9, .v 12, .v 6, .l (.int .i64 0)])) (.ret [.v 0, .v 1, .v 2, .v 3, .v 9, .v 5, .v 6, .l (.int .i64 0)])))))) (.op (.icmp .eql) [.v 5, .l (.int .i64 1)] (.ite (.v 9) (.ret [.v 0, .v 1, .v 2, .v 3, .v 4, .l (.int .i64 0), .v 6, .l (.int .i64 8)]) (.op (.icmp .gtr) [.v 5, .l (.int .i64 1)] (.ite (.v 10) (.op (.ibin .sub .i64) [.v 5, .l (.int .i64 1)] (.ret [.v 0, .v 1, .v 2, .v 3, .v 4, .v 11, .v 6, .l (.int .i64 0)])) (.ret [.v 0, .v 1, .v 2, .v 3, .v 4, .v 5, .v 6, .l (.int .i64 0)]))))))))
def sig109 : Sig := { id := 109, ins := [(true, (Ty.int .i64).pair (FlT.sl.pair ((Ty.str.pair (Ty.int .i64)).sl.pair ((Ty.str.pair (Ty.str.pair (Ty.int .i64))).sl.pair ((Ty.int .i64).pair ((Ty.int .i64).pair Ty.bool)))))), (true, Ty.str.pair (Ty.str.pair (Ty.int .i64)))], outs := [(true, [(Ty.int .i64, none), (FlT.sl, none), ((Ty.str.pair (Ty.int .i64)).sl, none), ((Ty.str.pair (Ty.str.pair (Ty.int .i64))).sl, none), (Ty.int .i64, none), (Ty.int .i64, none), (Ty.bool, none)])] }
def ir109 : IR := .op (.mk (Ty.str.pair (Ty.str.pair (Ty.int .i64))) 0) [] (.op .app [.v 10, .v 3] (.op (.mk (Ty.str.pair (Ty.str.pair (Ty.int .i64))) 1) [.v 7, .v 8, .v 9] (.op .app [.v 11, .v 12] (.ret [.v 0, .v 1, .v 2, .v 13, .v 4, .v 5, .v 6]))))
def sig107 : Sig := { id := 107, ins := [(true, (Ty.int .i64).pair (FlT.sl.pair ((Ty.str.pair (Ty.int .i64)).sl.pair ((Ty.str.pair (Ty.str.pair (Ty.int .i64))).sl.pair ((Ty.int .i64).pair ((Ty.int .i64).pair Ty.bool))))))], outs := [(false, [(Ty.int .i64, none)])] }
def ir107 : IR := .loop [.l (.int .i64 0), .l (.int .i64 0)] [Ty.int .i64, Ty.int .i64] (.op .len [.v 1] (.op (.icmp .lss) [.v 8, .v 9] (.ite (.v 10) (.op (.call 130) [.v 0, .v 1, .v 2, .v 3, .v 4, .v 5, .v 6, .v 8] (.ite (.v 11) (.op .inb [.v 1, .v 8] (.op (.idx FlT) [.v 1, .v 8] (.op .len [.v 12] (.op (.ibin .add .i64) [.v 7, .v 14] (.op (.ibin .add .i64) [.v 8, .l (.int .i64 1)] (.jump 0 [.v 15, .v 16])))))) (.op (.ibin .add .i64) [.v 8, .l (.int .i64 1)] (.jump 0 [.v 7, .v 12])))) (.ret [.v 7]))))
def sig80 : Sig := { id := 80, ins := [(true, (Ty.int .i64).pair (FlT.sl.pair ((Ty.str.pair (Ty.int .i64)).sl.pair ((Ty.str.pair (Ty.str.pair (Ty.int .i64))).sl.pair ((Ty.int .i64).pair ((Ty.int .i64).pair Ty.bool)))))), (false, Ty.str), (false, (Ty.int .u8).sl)], outs := [(true, [(Ty.int .i64, none), (FlT.sl, none), ((Ty.str.pair (Ty.int .i64)).sl, none), ((Ty.str.pair (Ty.str.pair (Ty.int .i64))).sl, none), (Ty.int .i64, none), (Ty.int .i64, none), (Ty.bool, none)]), (false, [(Ty.int .i64, none)])] }
def ir80 : IR := .op (.call 105) [.v 0, .v 1, .v 2, .v 3, .v 4, .v 5, .v 6, .v 7] (.ite (.v 6) (.ret [.v 0, .v 1, .v 2, .v 3, .v 4, .v 5, .v 6, .l (.int .i64 9)]) (.op (.scmp .eql) [.v 7, .l (.str [])] (.ite (.v 10) (.ret [.v 0, .v 1, .v 2, .v 3, .v 4, .v 5, .v 6, .l (.int .i64 1)]) (.op .len [.v 7] (.op (.icmp .gtr) [.v 11, .l (.int .i64 16)] (.ite (.v 12) (.ret [.v 0, .v 1, .v 2, .v 3, .v 4, .v 5, .v 6, .l (.int .i64 1)]) (.op (.icmp .lss) [.v 9, .l (.int .i64 0)] (.ite (.v 13) (.op (.call 106) [.v 0, .v 1, .v 2, .v 3, .v 4, .v 5, .v 6] (.op .len [.v 14] (.op (.icmp .geq) [.v 15, .l (.int .i64 5000)] (.ite (.v 16) (.ret [.v 0, .v 1, .v 2, .v 3, .v 4, .v 5, .v 6, .l (.int .i64 7)]) (.op (.call 107) [.v 0, .v 1, .v 2, .v 3, .v 4, .v 5, .v 6] (.op .len [.v 8] (.op (.ibin .add .i64) [.v 17, .v 18] (.op (.icmp .gtr) [.v 19, .v 0] (.ite (.v 20) (.ret [.v 0, .v 1, .v 2, .v 3, .v 4, .v 5, .v 6, .l (.int .i64 7)]) (.op (.call 108) [.v 0, .v 1, .v 2, .v 3, .v 4, .v 5, .v 6] (.op (.icmp .neq) [.v 28, .l (.int .i64 0)] (.ite (.v 29) (.ret [.v 21, .v 22, .v 23, .v 24, .v 25, .v 26, .v 27, .v 28]) (.op (.icmp .lss) [.v 9, .l (.int .i64 0)] (.ite (.v 30) (.op .len [.v 22] (.op (.mk FlT 0) [] (.op .app [.v 32, .v 22] (.op (.mk FlT 1) [.l (.nil (Ty.int .u8)), .l (.int .i64 0)] (.op .app [.v 33, .v 34] (.op (.call 109) [.v 21, .v 35, .v 23, .v 24, .v 25, .v 26, .v 27, .l (.str []), .v 7, .v 31] (.op .inb [.v 37, .v 31] (.op (.idx FlT) [.v 37, .v 31] (.op (.mk (Ty.int .u8) 0) [] (.op .app [.v 45, .v 43] (.op .app [.v 46, .v 8] (.op (.call 110) [.v 36, .v 37, .v 38, .v 39, .v 40, .v 41, .v 42, .v 31, .v 47, .v 44] (.ret [.v 48, .v 49, .v 50, .v 51, .v 52, .v 53, .v 54, .l (.int .i64 0)]))))))))))))) (.op .inb [.v 22, .v 9] (.op (.idx FlT) [.v 22, .v 9] (.op (.mk (Ty.int .u8) 0) [] (.op .app [.v 33, .v 31] (.op .app [.v 34, .v 8] (.op (.call 110) [.v 21, .v 22, .v 23, .v 24, .v 25, .v 26, .v 27, .v 9, .v 35, .v 32] (.ret [.v 36, .v 37, .v 38, .v 39, .v 40, .v 41, .v 42, .l (.int .i64 0)]))))))))))))))))))))) (.op (.call 107) [.v 0, .v 1, .v 2, .v 3, .v 4, .v 5, .v 6] (.op .len [.v 8] (.op (.ibin .add .i64) [.v 14, .v 15] (.op (.icmp .gtr) [.v 16, .v 0] (.ite (.v 17) (.ret [.v 0, .v 1, .v 2, .v 3, .v 4, .v 5, .v 6, .l (.int .i64 7)]) (.op (.call 108) [.v 0, .v 1, .v 2, .v 3, .v 4, .v 5, .v 6] (.op (.icmp .neq) [.v 25, .l (.int .i64 0)] (.ite (.v 26) (.ret [.v 18, .v 19, .v 20, .v 21, .v 22, .v 23, .v 24, .v 25]) (.op (.icmp .lss) [.v 9, .l (.int .i64 0)] (.ite (.v 27) (.op .len [.v 19] (.op (.mk FlT 0) [] (.op .app [.v 29, .v 19] (.op (.mk FlT 1) [.l (.nil (Ty.int .u8)), .l (.int .i64 0)] (.op .app [.v 30, .v 31] (.op (.call 109) [.v 18, .v 32, .v 20, .v 21, .v 22, .v 23, .v 24, .l (.str []), .v 7, .v 28] (.op .inb [.v 34, .v 28] (.op (.idx FlT) [.v 34, .v 28] (.op (.mk (Ty.int .u8) 0) [] (.op .app [.v 42, .v 40] (.op .app [.v 43, .v 8] (.op (.call 110) [.v 33, .v 34, .v 35, .v 36, .v 37, .v 38, .v 39, .v 28, .v 44, .v 41] (.ret [.v 45, .v 46, .v 47, .v 48, .v 49, .v 50, .v 51, .l (.int .i64 0)]))))))))))))) (.op .inb [.v 19, .v 9] (.op (.idx FlT) [.v 19, .v 9] (.op (.mk (Ty.int .u8) 0) [] (.op .app [.v 30, .v 28] (.op .app [.v 31, .v 8] (.op (.call 110) [.v 18, .v 19, .v 20, .v 21, .v 22, .v 23, .v 24, .v 9, .v 32, .v 29] (.ret [.v 33, .v 34, .v 35, .v 36, .v 37, .v 38, .v 39, .l (.int .i64 0)])))))))))))))))))))))))))
def sig81 : Sig := { id := 81, ins := [(true, (Ty.int .i64).pair (FlT.sl.pair ((Ty.str.pair (Ty.int .i64)).sl.pair ((Ty.str.pair (Ty.str.pair (Ty.int .i64))).sl.pair ((Ty.int .i64).pair ((Ty.int .i64).pair Ty.bool)))))), (false, Ty.str), (false, Ty.int .i64)], outs := [(true, [(Ty.int .i64, none), (FlT.sl, none), ((Ty.str.pair (Ty.int .i64)).sl, none), ((Ty.str.pair (Ty.str.pair (Ty.int .i64))).sl, none), (Ty.int .i64, none), (Ty.int .i64, none), (Ty.bool, none)]), (false, [(Ty.int .i64, none)])] }
def ir81 : IR := .op (.call 105) [.v 0, .v 1, .v 2, .v 3, .v 4, .v 5, .v 6, .v 7] (.ite (.v 6) (.ret [.v 0, .v 1, .v 2, .v 3, .v 4, .v 5, .v 6, .l (.int .i64 9)]) (.op (.icmp .lss) [.v 9, .l (.int .i64 0)] (.ite (.v 10) (.ret [.v 0, .v 1, .v 2, .v 3, .v 4, .v 5, .v 6, .l (.int .i64 3)]) (.op .inb [.v 1, .v 9] (.op (.idx FlT) [.v 1, .v 9] (.op (.icmp .lss) [.v 8, .l (.int .i64 0)] (.ite (.v 13) (.ret [.v 0, .v 1, .v 2, .v 3, .v 4, .v 5, .v 6, .l (.int .i64 1)]) (.op .len [.v 11] (.op (.icmp .gtr) [.v 8, .v 14] (.ite (.v 15) (.ret [.v 0, .v 1, .v 2, .v 3, .v 4, .v 5, .v 6, .l (.int .i64 1)]) (.op (.call 108) [.v 0, .v 1, .v 2, .v 3, .v 4, .v 5, .v 6] (.op (.icmp .neq) [.v 23, .l (.int .i64 0)] (.ite (.v 24) (.ret [.v 16, .v 17, .v 18, .v 19, .v 20, .v 21, .v 22, .v 23]) (.op (.mk (Ty.int .u8) 0) [] (.op .sub [.v 11, .l (.int .i64 0), .v 8] (.op .app [.v 25, .v 26] (.op (.icmp .gtr) [.v 12, .v 8] (.ite (.v 28) (.op (.call 110) [.v 16, .v 17, .v 18, .v 19, .v 20, .v 21, .v 22, .v 9, .v 27, .v 8] (.ret [.v 29, .v 30, .v 31, .v 32, .v 33, .v 34, .v 35, .l (.int .i64 0)])) (.op (.call 110) [.v 16, .v 17, .v 18, .v 19, .v 20, .v 21, .v 22, .v 9, .v 27, .v 12] (.ret [.v 29, .v 30, .v 31, .v 32, .v 33, .v 34, .v 35, .l (.int .i64 0)]))))))))))))))))))))
def sig82 : Sig := { id := 82, ins := [(true, (Ty.int .i64).pair (FlT.sl.pair ((Ty.str.pair (Ty.int .i64)).sl.pair ((Ty.str.pair (Ty.str.pair (Ty.int .i64))).sl.pair ((Ty.int .i64).pair ((Ty.int .i64).pair Ty.bool)))))), (false, Ty.str)], outs := [(true, [(Ty.int .i64, none), (FlT.sl, none), ((Ty.str.pair (Ty.int .i64)).sl, none), ((Ty.str.pair (Ty.str.pair (Ty.int .i64))).sl, none), (Ty.int .i64, none), (Ty.int .i64, none), (Ty.bool, none)]), (false, [(Ty.int .i64, none)])] }
def ir82 : IR := .op (.call 105) [.v 0, .v 1, .v 2, .v 3, .v 4, .v 5, .v 6, .v 7] (.ite (.v 6) (.ret [.v 0, .v 1, .v 2, .v 3, .v 4, .v 5, .v 6, .l (.int .i64 9)]) (.op (.icmp .lss) [.v 8, .l (.int .i64 0)] (.ite (.v 9) (.ret [.v 0, .v 1, .v 2, .v 3, .v 4, .v 5, .v 6, .l (.int .i64 3)]) (.op (.call 108) [.v 0, .v 1, .v 2, .v 3, .v 4, .v 5, .v 6] (.op (.icmp .neq) [.v 17, .l (.int .i64 0)] (.ite (.v 18) (.ret [.v 10, .v 11, .v 12, .v 13, .v 14, .v 15, .v 16, .v 17]) (.op .inb [.v 11, .v 8] (.op (.idx FlT) [.v 11, .v 8] (.op .len [.v 19] (.op (.call 110) [.v 10, .v 11, .v 12, .v 13, .v 14, .v 15, .v 16, .v 8, .v 19, .v 21] (.ret [.v 22, .v 23, .v 24, .v 25, .v 26, .v 27, .v 28, .l (.int .i64 0)])))))))))))
def sig83 : Sig := { id := 83, ins := [(true, (Ty.int .i64).pair (FlT.sl.pair ((Ty.str.pair (Ty.int .i64)).sl.pair ((Ty.str.pair (Ty.str.pair (Ty.int .i64))).sl.pair ((Ty.int .i64).pair ((Ty.int .i64).pair Ty.bool))))))], outs := [(true, [(Ty.int .i64, none), (FlT.sl, none), ((Ty.str.pair (Ty.int .i64)).sl, none), ((Ty.str.pair (Ty.str.pair (Ty.int .i64))).sl, none), (Ty.int .i64, none), (Ty.int .i64, none), (Ty.bool, none)]), (false, [(Ty.int .i64, none)])] }
def ir83 : IR := .ite (.v 6) (.ret [.v 0, .v 1, .v 2, .v 3, .v 4, .v 5, .v 6, .l (.int .i64 9)]) (.op (.call 108) [.v 0, .v 1, .v 2, .v 3, .v 4, .v 5, .v 6] (.op (.icmp .eql) [.v 14, .l (.int .i64 0)] (.ite (.v 15) (.op (.call 106) [.v 7, .v 8, .v 9, .v 10, .v 11, .v 12, .v 13] (.ret [.v 7, .v 8, .v 16, .l (.nil (Ty.str.pair (Ty.str.pair (Ty.int .i64)))), .v 11, .v 12, .v 13, .v 14])) (.ret [.v 7, .v 8, .v 9, .v 10, .v 11, .v 12, .v 13, .v 14]))))
def sig84 : Sig := { id := 84, ins := [(true, (Ty.int .i64).pair (FlT.sl.pair ((Ty.str.pair (Ty.int .i64)).sl.pair ((Ty.str.pair (Ty.str.pair (Ty.int .i64))).sl.pair ((Ty.int .i64).pair ((Ty.int .i64).pair Ty.bool)))))), (false, Ty.str), (false, Ty.str)], outs := [(true, [(Ty.int .i64, none), (FlT.sl, none), ((Ty.str.pair (Ty.int .i64)).sl, none), ((Ty.str.pair (Ty.str.pair (Ty.int .i64))).sl, none), (Ty.int .i64, none), (Ty.int .i64, none), (Ty.bool, none)]), (false, [(Ty.int .i64, none)])] }
def ir84 : IR := .op (.call 105) [.v 0, .v 1, .v 2, .v 3, .v 4, .v 5, .v 6, .v 7] (.ite (.v 6) (.ret [.v 0, .v 1, .v 2, .v 3, .v 4, .v 5, .v 6, .l (.int .i64 9)]) (.op (.scmp .eql) [.v 8, .l (.str [])] (.ite (.v 10) (.ret [.v 0, .v 1, .v 2, .v 3, .v 4, .v 5, .v 6, .l (.int .i64 1)]) (.op .len [.v 8] (.op (.icmp .gtr) [.v 11, .l (.int .i64 16)] (.ite (.v 12) (.ret [.v 0, .v 1, .v 2, .v 3, .v 4, .v 5, .v 6, .l (.int .i64 1)]) (.op (.icmp .lss) [.v 9, .l (.int .i64 0)] (.ite (.v 13) (.ret [.v 0, .v 1, .v 2, .v 3, .v 4, .v 5, .v 6, .l (.int .i64 3)]) (.op (.call 108) [.v 0, .v 1, .v 2, .v 3, .v 4, .v 5, .v 6] (.op (.icmp .neq) [.v 21, .l (.int .i64 0)] (.ite (.v 22) (.ret [.v 14, .v 15, .v 16, .v 17, .v 18, .v 19, .v 20, .v 21]) (.op (.scmp .eql) [.v 7, .v 8] (.ite (.v 23) (.ret [.v 14, .v 15, .v 16, .v 17, .v 18, .v 19, .v 20, .v 21]) (.op (.call 109) [.v 14, .v 15, .v 16, .v 17, .v 18, .v 19, .v 20, .v 7, .v 8, .v 9] (.ret [.v 24, .v 25, .v 26, .v 27, .v 28, .v 29, .v 30, .l (.int .i64 0)])))))))))))))))
def sig85 : Sig := { id := 85, ins := [(true, (Ty.int .i64).pair (FlT.sl.pair ((Ty.str.pair (Ty.int .i64)).sl.pair ((Ty.str.pair (Ty.str.pair (Ty.int .i64))).sl.pair ((Ty.int .i64).pair ((Ty.int .i64).pair Ty.bool)))))), (false, Ty.str)], outs := [(true, [(Ty.int .i64, none), (FlT.sl, none), ((Ty.str.pair (Ty.int .i64)).sl, none), ((Ty.str.pair (Ty.str.pair (Ty.int .i64))).sl, none), (Ty.int .i64, none), (Ty.int .i64, none), (Ty.bool, none)]), (false, [(Ty.int .i64, none)])] }
def ir85 : IR := .op (.call 105) [.v 0, .v 1, .v 2, .v 3, .v 4, .v 5, .v 6, .v 7] (.ite (.v 6) (.ret [.v 0, .v 1, .v 2, .v 3, .v 4, .v 5, .v 6, .l (.int .i64 9)]) (.op (.icmp .lss) [.v 8, .l (.int .i64 0)] (.ite (.v 9) (.ret [.v 0, .v 1, .v 2, .v 3, .v 4, .v 5, .v 6, .l (.int .i64 3)]) (.op (.call 108) [.v 0, .v 1, .v 2, .v 3, .v 4, .v 5, .v 6] (.op (.icmp .neq) [.v 17, .l (.int .i64 0)] (.ite (.v 18) (.ret [.v 10, .v 11, .v 12, .v 13, .v 14, .v 15, .v 16, .v 17]) (.op (.call 109) [.v 10, .v 11, .v 12, .v 13, .v 14, .v 15, .v 16, .v 7, .l (.str []), .l (.int .i64 0)] (.ret [.v 19, .v 20, .v 21, .v 22, .v 23, .v 24, .v 25, .l (.int .i64 0)]))))))))
def sig86 : Sig := { id := 86, ins := [(true, (Ty.int .i64).pair (FlT.sl.pair ((Ty.str.pair (Ty.int .i64)).sl.pair ((Ty.str.pair (Ty.str.pair (Ty.int .i64))).sl.pair ((Ty.int .i64).pair ((Ty.int .i64).pair Ty.bool)))))), (true, (Ty.int .i64).pair (Ty.int .i64).sl)], outs := [(true, [(Ty.int .i64, none), (FlT.sl, none), ((Ty.str.pair (Ty.int .i64)).sl, none), ((Ty.str.pair (Ty.str.pair (Ty.int .i64))).sl, none), (Ty.int .i64, none), (Ty.int .i64, none), (Ty.bool, none)])] }
def ir86 : IR := .op (.call 111) [.v 0, .v 1, .v 2, .v 3, .v 4, .v 5, .v 6, .v 7] (.loop [.l (.int .i64 0), .l (.int .i64 0), .v 0, .v 1, .v 9, .l (.nil (Ty.str.pair (Ty.str.pair (Ty.int .i64)))), .v 4, .v 5, .v 6] [Ty.int .i64, Ty.int .i64, Ty.int .i64, FlT.sl, (Ty.str.pair (Ty.int .i64)).sl, (Ty.str.pair (Ty.str.pair (Ty.int .i64))).sl, Ty.int .i64, Ty.int .i64, Ty.bool] (.op .len [.v 9] (.op (.icmp .lss) [.v 11, .v 19] (.ite (.v 20) (.op .inb [.v 9, .v 11] (.op (.idx (Ty.str.pair (Ty.int .i64))) [.v 9, .v 11] (.op .inb [.v 13, .v 22] (.op (.idx FlT) [.v 13, .v 22] (.op .len [.v 23] (.op (.icmp .eql) [.v 25, .v 24] (.ite (.v 26) (.op (.ibin .add .i64) [.v 11, .l (.int .i64 1)] (.jump 0 [.v 10, .v 27, .v 12, .v 13, .v 14, .v 15, .v 16, .v 17, .v 18])) (.op .len [.v 8] (.op (.icmp .lss) [.v 10, .v 27] (.ite (.v 28) (.op .inb [.v 8, .v 10] (.op (.idx (Ty.int .i64)) [.v 8, .v 10] (.op (.ibin .add .i64) [.v 10, .l (.int .i64 1)] (.op (.icmp .lss) [.v 29, .l (.int .i64 0)] (.ite (.v 31) (.op .len [.v 23] (.op (.ibin .sub .i64) [.v 32, .v 24] (.op (.icmp .gtr) [.l (.int .i64 0), .v 33] (.ite (.v 34) (.op .len [.v 23] (.op (.ibin .sub .i64) [.v 35, .v 24] (.op (.ibin .add .i64) [.v 24, .v 36] (.op .inb [.v 9, .v 11] (.op (.idx (Ty.str.pair (Ty.int .i64))) [.v 9, .v 11] (.op (.mk (Ty.int .u8) 0) [] (.op .sub [.v 23, .l (.int .i64 0), .v 37] (.op .app [.v 40, .v 41] (.op (.call 110) [.v 12, .v 13, .v 14, .v 15, .v 16, .v 17, .v 18, .v 39, .v 42, .v 37] (.op (.ibin .add .i64) [.v 11, .l (.int .i64 1)] (.jump 0 [.v 30, .v 50, .v 43, .v 44, .v 45, .v 46, .v 47, .v 48, .v 49]))))))))))) (.op (.ibin .add .i64) [.v 24, .l (.int .i64 0)] (.op .inb [.v 9, .v 11] (.op (.idx (Ty.str.pair (Ty.int .i64))) [.v 9, .v 11] (.op (.mk (Ty.int .u8) 0) [] (.op .sub [.v 23, .l (.int .i64 0), .v 35] (.op .app [.v 38, .v 39] (.op (.call 110) [.v 12, .v 13, .v 14, .v 15, .v 16, .v 17, .v 18, .v 37, .v 40, .v 35] (.op (.ibin .add .i64) [.v 11, .l (.int .i64 1)] (.jump 0 [.v 30, .v 48, .v 41, .v 42, .v 43, .v 44, .v 45, .v 46, .v 47]))))))))))))) (.op .len [.v 23] (.op (.ibin .sub .i64) [.v 32, .v 24] (.op (.icmp .gtr) [.v 29, .v 33] (.ite (.v 34) (.op .len [.v 23] (.op (.ibin .sub .i64) [.v 35, .v 24] (.op (.ibin .add .i64) [.v 24, .v 36] (.op .inb [.v 9, .v 11] (.op (.idx (Ty.str.pair (Ty.int .i64))) [.v 9, .v 11] (.op (.mk (Ty.int .u8) 0) [] (.op .sub [.v 23, .l (.int .i64 0), .v 37] (.op .app [.v 40, .v 41] (.op (.call 110) [.v 12, .v 13, .v 14, .v 15, .v 16, .v 17, .v 18, .v 39, .v 42, .v 37] (.op (.ibin .add .i64) [.v 11, .l (.int .i64 1)] (.jump 0 [.v 30, .v 50, .v 43, .v 44, .v 45, .v 46, .v 47, .v 48, .v 49]))))))))))) (.op (.ibin .add .i64) [.v 24, .v 29] (.op .inb [.v 9, .v 11] (.op (.idx (Ty.str.pair (Ty.int .i64))) [.v 9, .v 11] (.op (.mk (Ty.int .u8) 0) [] (.op .sub [.v 23, .l (.int .i64 0), .v 35] (.op .app [.v 38, .v 39] (.op (.call 110) [.v 12, .v 13, .v 14, .v 15, .v 16, .v 17, .v 18, .v 37, .v 40, .v 35] (.op (.ibin .add .i64) [.v 11, .l (.int .i64 1)] (.jump 0 [.v 30, .v 48, .v 41, .v 42, .v 43, .v 44, .v 45, .v 46, .v 47])))))))))))))))))) (.op (.ibin .add .i64) [.v 10, .l (.int .i64 1)] (.op .len [.v 23] (.op (.ibin .sub .i64) [.v 30, .v 24] (.op (.icmp .gtr) [.l (.int .i64 0), .v 31] (.ite (.v 32) (.op .len [.v 23] (.op (.ibin .sub .i64) [.v 33, .v 24] (.op (.ibin .add .i64) [.v 24, .v 34] (.op .inb [.v 9, .v 11] (.op (.idx (Ty.str.pair (Ty.int .i64))) [.v 9, .v 11] (.op (.mk (Ty.int .u8) 0) [] (.op .sub [.v 23, .l (.int .i64 0), .v 35] (.op .app [.v 38, .v 39] (.op (.call 110) [.v 12, .v 13, .v 14, .v 15, .v 16, .v 17, .v 18, .v 37, .v 40, .v 35] (.op (.ibin .add .i64) [.v 11, .l (.int .i64 1)] (.jump 0 [.v 29, .v 48, .v 41, .v 42, .v 43, .v 44, .v 45, .v 46, .v 47]))))))))))) (.op (.ibin .add .i64) [.v 24, .l (.int .i64 0)] (.op .inb [.v 9, .v 11] (.op (.idx (Ty.str.pair (Ty.int .i64))) [.v 9, .v 11] (.op (.mk (Ty.int .u8) 0) [] (.op .sub [.v 23, .l (.int .i64 0), .v 33] (.op .app [.v 36, .v 37] (.op (.call 110) [.v 12, .v 13, .v 14, .v 15, .v 16, .v 17, .v 18, .v 35, .v 38, .v 33] (.op (.ibin .add .i64) [.v 11, .l (.int .i64 1)] (.jump 0 [.v 29, .v 46, .v 39, .v 40, .v 41, .v 42, .v 43, .v 44, .v 45])))))))))))))))))))))))) (.ret [.v 12, .v 13, .v 14, .v 15, .l (.int .i64 (-1)), .l (.int .i64 0), .l (.bool false)])))))
def sig49 : Sig := { id := 49, ins := [(true, (Ty.int .i64).pair (FlT.sl.pair ((Ty.str.pair (Ty.int .i64)).sl.pair ((Ty.str.pair (Ty.str.pair (Ty.int .i64))).sl.pair ((Ty.int .i64).pair ((Ty.int .i64).pair Ty.bool)))))), (true, (Ty.int .i64).pair (Ty.str.pair (Ty.str.pair ((Ty.int .u8).sl.pair ((Ty.int .i64).pair ((Ty.int .i64).pair (Ty.int .i64).sl))))))], outs := [(true, [(Ty.int .i64, none), (FlT.sl, none), ((Ty.str.pair (Ty.int .i64)).sl, none), ((Ty.str.pair (Ty.str.pair (Ty.int .i64))).sl, none), (Ty.int .i64, none), (Ty.int .i64, none), (Ty.bool, none)]), (false, [(Ty.int .i64, none)])] }
def ir49 : IR := .op (.icmp .eql) [.v 7, .l (.int .i64 0)] (.ite (.v 14) (.op (.call 80) [.v 0, .v 1, .v 2, .v 3, .v 4, .v 5, .v 6, .v 8, .v 10] (.ret [.v 15, .v 16, .v 17, .v 18, .v 19, .v 20, .v 21, .v 22])) (.op (.icmp .eql) [.v 7, .l (.int .i64 1)] (.ite (.v 15) (.op (.call 81) [.v 0, .v 1, .v 2, .v 3, .v 4, .v 5, .v 6, .v 8, .v 11] (.ret [.v 16, .v 17, .v 18, .v 19, .v 20, .v 21, .v 22, .v 23])) (.op (.icmp .eql) [.v 7, .l (.int .i64 2)] (.ite (.v 16) (.op (.call 82) [.v 0, .v 1, .v 2, .v 3, .v 4, .v 5, .v 6, .v 8] (.ret [.v 17, .v 18, .v 19, .v 20, .v 21, .v 22, .v 23, .v 24])) (.op (.icmp .eql) [.v 7, .l (.int .i64 3)] (.ite (.v 17) (.op (.call 83) [.v 0, .v 1, .v 2, .v 3, .v 4, .v 5, .v 6] (.ret [.v 18, .v 19, .v 20, .v 21, .v 22, .v 23, .v 24, .v 25])) (.op (.icmp .eql) [.v 7, .l (.int .i64 4)] (.ite (.v 18) (.op (.call 84) [.v 0, .v 1, .v 2, .v 3, .v 4, .v 5, .v 6, .v 8, .v 9] (.ret [.v 19, .v 20, .v 21, .v 22, .v 23, .v 24, .v 25, .v 26])) (.op (.icmp .eql) [.v 7, .l (.int .i64 5)] (.ite (.v 19) (.op (.call 85) [.v 0, .v 1, .v 2, .v 3, .v 4, .v 5, .v 6, .v 8] (.ret [.v 20, .v 21, .v 22, .v 23, .v 24, .v 25, .v 26, .v 27])) (.op (.icmp .eql) [.v 7, .l (.int .i64 6)] (.ite (.v 20) (.op (.icmp .lss) [.v 11, .l (.int .i64 0)] (.ite (.v 21) (.ret [.v 0, .v 1, .v 2, .v 3, .l (.int .i64 (-1)), .v 5, .v 6, .l (.int .i64 0)]) (.ret [.v 0, .v 1, .v 2, .v 3, .v 11, .v 5, .v 6, .l (.int .i64 0)]))) (.op (.icmp .eql) [.v 7, .l (.int .i64 7)] (.ite (.v 21) (.op (.icmp .lss) [.v 11, .l (.int .i64 0)] (.ite (.v 22) (.ret [.v 0, .v 1, .v 2, .v 3, .v 4, .l (.int .i64 0), .v 6, .l (.int .i64 0)]) (.ret [.v 0, .v 1, .v 2, .v 3, .v 4, .v 11, .v 6, .l (.int .i64 0)]))) (.op (.icmp .eql) [.v 7, .l (.int .i64 8)] (.ite (.v 22) (.op (.call 86) [.v 0, .v 1, .v 2, .v 3, .v 4, .v 5, .v 6, .v 12, .v 13] (.ret [.v 23, .v 24, .v 25, .v 26, .v 27, .v 28, .v 29, .l (.int .i64 0)])) (.ret [.v 0, .v 1, .v 2, .v 3, .v 4, .v 5, .v 6, .l (.int .i64 0)]))))))))))))))))))
def sig24 : Sig := { id := 24, ins := [(false, Ty.ref 0), (false, Ty.str), (false, Ty.int .i64), (false, Ty.int .i64)], outs := [(false, [((Ty.int .u8).sl, some 5)]), (false, [(Ty.int .i64, none)])], ars := [(0, T0), (1, T1), (2, T2), (3, T3)] }
def ir24 : IR := .op (.call 55) [.v 0, .v 4] (.ite (.v 8) (.ret [.l (.nil (Ty.int .u8)), .l (.int .i64 9), .v 9, .v 5, .v 6, .v 7]) (.op (.call 56) [.v 0, .v 1, .v 9, .v 5, .v 7] (.op .not [.v 12] (.ite (.v 16) (.ret [.l (.nil (Ty.int .u8)), .l (.int .i64 3), .v 13, .v 14, .v 6, .v 15]) (.op (.icmp .lss) [.v 2, .l (.int .i64 0)] (.ite (.v 17) (.ret [.l (.nil (Ty.int .u8)), .l (.int .i64 1), .v 13, .v 14, .v 6, .v 15]) (.op (.icmp .lss) [.v 3, .l (.int .i64 0)] (.ite (.v 18) (.ret [.l (.nil (Ty.int .u8)), .l (.int .i64 1), .v 13, .v 14, .v 6, .v 15]) (.op (.hget FlT 2) [.v 6, .v 11] (.op .len [.v 19] (.op (.icmp .gtr) [.v 2, .v 21] (.ite (.v 22) (.op (.hset FlT 2) [.v 6, .v 11, .v 19, .v 20] (.ret [.l (.nil (Ty.int .u8)), .l (.int .i64 1), .v 13, .v 14, .v 23, .v 15])) (.op .len [.v 19] (.op (.ibin .sub .i64) [.v 23, .v 2] (.op (.icmp .gtr) [.v 3, .v 24] (.ite (.v 25) (.op (.hset FlT 2) [.v 6, .v 11, .v 19, .v 20] (.ret [.l (.nil (Ty.int .u8)), .l (.int .i64 1), .v 13, .v 14, .v 26, .v 15])) (.op (.mkz (Ty.int .u8)) [.v 3] (.op .sub [.v 19, .v 2] (.op (.cpy (Ty.int .u8)) [.v 26, .v 27] (.op (.hset FlT 2) [.v 6, .v 11, .v 19, .v 20] (.ret [.v 28, .l (.int .i64 0), .v 13, .v 14, .v 30, .v 15])))))))))))))))))))))
def sig20 : Sig := { id := 20, ins := [(false, Ty.int .i64), (false, ((Ty.int .i64).pair (Ty.str.pair (Ty.str.pair ((Ty.int .u8).sl.pair ((Ty.int .i64).pair ((Ty.int .i64).pair (Ty.int .i64).sl)))))).sl)], outs := [(false, [(Ty.ref 0, none)]), (true, [(Ty.int .i64, none), (FlT.sl, none), ((Ty.str.pair (Ty.int .i64)).sl, none), ((Ty.str.pair (Ty.str.pair (Ty.int .i64))).sl, none), (Ty.int .i64, none), (Ty.int .i64, none), (Ty.bool, none)]), (false, [(Ty.bool, none)])], ars := [(0, T0), (1, T1), (2, T2), (3, T3)] }
def ir20 : IR := .op (.call 48) [.v 0] (.op (.call 16) [.v 0, .v 2, .v 3, .v 4, .v 5] (.op (.icmp .neq) [.v 14, .l (.int .i64 0)] (.ite (.v 19) (.ret [.v 13, .v 6, .v 7, .v 8, .v 9, .v 10, .v 11, .v 12, .l (.bool false), .v 15, .v 16, .v 17, .v 18]) (.op (.isr false) [.v 13] (.ite (.v 20) (.ret [.v 13, .v 6, .v 7, .v 8, .v 9, .v 10, .v 11, .v 12, .l (.bool false), .v 15, .v 16, .v 17, .v 18]) (.loop [.l (.int .i64 0), .v 6, .v 7, .v 8, .v 9, .v 10, .v 11, .v 12, .v 18, .v 17, .v 16, .v 15] [Ty.int .i64, Ty.int .i64, FlT.sl, (Ty.str.pair (Ty.int .i64)).sl, (Ty.str.pair (Ty.str.pair (Ty.int .i64))).sl, Ty.int .i64, Ty.int .i64, Ty.bool, ((Ty.int .i64).pair (Ty.ref 2)).sl.sl, FlT.sl, (Ty.str.pair (Ty.int .i64)).sl.sl, DkT.sl] (.op .len [.v 1] (.op (.icmp .lss) [.v 21, .v 33] (.ite (.v 34) (.op .inb [.v 1, .v 21] (.op (.idx ((Ty.int .i64).pair (Ty.str.pair (Ty.str.pair ((Ty.int .u8).sl.pair ((Ty.int .i64).pair ((Ty.int .i64).pair (Ty.int .i64).sl))))))) [.v 1, .v 21] (.op (.call 49) [.v 22, .v 23, .v 24, .v 25, .v 26, .v 27, .v 28, .v 35, .v 36, .v 37, .v 38, .v 39, .v 40, .v 41] (.op .inb [.v 1, .v 21] (.op (.idx ((Ty.int .i64).pair (Ty.str.pair (Ty.str.pair ((Ty.int .u8).sl.pair ((Ty.int .i64).pair ((Ty.int .i64).pair (Ty.int .i64).sl))))))) [.v 1, .v 21] (.op (.call 17) [.v 13, .v 50, .v 51, .v 52, .v 53, .v 54, .v 55, .v 56, .v 32, .v 31, .v 30, .v 29] (.op (.icmp .neq) [.v 57, .v 49] (.ite (.v 62) (.ret [.v 13, .v 42, .v 43, .v 44, .v 45, .v 46, .v 47, .v 48, .l (.bool false), .v 58, .v 59, .v 60, .v 61]) (.op (.ibin .add .i64) [.v 21, .l (.int .i64 1)] (.jump 0 [.v 63, .v 42, .v 43, .v 44, .v 45, .v 46, .v 47, .v 48, .v 61, .v 60, .v 59, .v 58])))))))))) (.ret [.v 13, .v 22, .v 23, .v 24, .v 25, .v 26, .v 27, .v 28, .l (.bool true), .v 32, .v 31, .v 30, .v 29]))))))))))
def sig5 : Sig := { id := 5, ins := [(false, ((Ty.int .i64).pair (Ty.str.pair (Ty.str.pair ((Ty.int .u8).sl.pair ((Ty.int .i64).pair ((Ty.int .i64).pair (Ty.int .i64).sl)))))).sl), (false, ((Ty.int .i64).pair (Ty.str.pair (Ty.str.pair ((Ty.int .u8).sl.pair ((Ty.int .i64).pair ((Ty.int .i64).pair (Ty.int .i64).sl)))))).sl)], outs := [(false, [(Ty.bool, none)])] }
def ir5 : IR := .op (.call 14) [.v 0] (.op .not [.v 2] (.ite (.v 3) (.op (.call 15) [] (.ret [.v 4])) (.op (.call 14) [.v 1] (.op .not [.v 4] (.ite (.v 5) (.op (.call 15) [] (.ret [.v 6])) (.op (.call 20) [.l (.int .i64 1000), .v 0, .l (.nil DkT), .l (.nil (Ty.str.pair (Ty.int .i64)).sl), .l (.nil FlT), .l (.nil ((Ty.int .i64).pair (Ty.ref 2)).sl)] (.op .not [.v 14] (.ite (.v 19) (.ret [.l (.bool false)]) (.op (.call 21) [.v 6, .l (.int .i64 100), .l (.nil (Ty.int .i64)), .v 15, .v 16, .v 17, .v 18] (.op (.mk (Ty.int .u8) 3) [.l (.int .u8 7), .l (.int .u8 8), .l (.int .u8 9)] (.op (.call 22) [.v 6, .l (.str [Int.ofNat 115, Int.ofNat 97, Int.ofNat 102, Int.ofNat 101]), .v 24, .v 20, .v 21, .v 22, .v 23] (.op (.icmp .neq) [.v 25, .l (.int .i64 0)] (.ite (.v 30) (.op (.call 15) [] (.ret [.v 31])) (.op (.call 23) [.v 6, .l (.str [Int.ofNat 115, Int.ofNat 97, Int.ofNat 102, Int.ofNat 101]), .v 26, .v 27, .v 28, .v 29] (.op (.call 24) [.v 6, .l (.str [Int.ofNat 115, Int.ofNat 97, Int.ofNat 102, Int.ofNat 101]), .l (.int .i64 0), .v 31, .v 33, .v 34, .v 35, .v 36] (.op (.call 25) [.v 6, .l (.str [Int.ofNat 115, Int.ofNat 97, Int.ofNat 102, Int.ofNat 101]), .v 39, .v 40, .v 41, .v 42] (.op (.icmp .neq) [.v 43, .l (.int .i64 0)] (.ite (.v 48) (.ret [.l (.bool false)]) (.op (.call 26) [.v 6, .v 44, .v 45, .v 46, .v 47] (.op (.icmp .neq) [.v 49, .l (.int .i64 0)] (.ite (.v 54) (.ret [.l (.bool false)]) (.op (.icmp .lss) [.v 31, .l (.int .i64 3)] (.ite (.v 55) (.ret [.l (.bool false)]) (.loop [.l (.int .i64 0), .v 53, .v 52, .v 51, .v 50] [Ty.int .i64, ((Ty.int .i64).pair (Ty.ref 2)).sl.sl, FlT.sl, (Ty.str.pair (Ty.int .i64)).sl.sl, DkT.sl] (.op .len [.v 1] (.op (.icmp .lss) [.v 56, .v 61] (.ite (.v 62) (.op .inb [.v 1, .v 56] (.op (.idx ((Ty.int .i64).pair (Ty.str.pair (Ty.str.pair ((Ty.int .u8).sl.pair ((Ty.int .i64).pair ((Ty.int .i64).pair (Ty.int .i64).sl))))))) [.v 1, .v 56] (.op (.icmp .eql) [.v 63, .l (.int .i64 1)] (.ite (.v 70) (.op (.scmp .eql) [.v 64, .l (.str [Int.ofNat 115, Int.ofNat 97, Int.ofNat 102, Int.ofNat 101])] (.ite (.v 71) (.op (.call 15) [] (.ret [.v 72])) (.op (.scmp .eql) [.v 65, .l (.str [Int.ofNat 115, Int.ofNat 97, Int.ofNat 102, Int.ofNat 101])] (.ite (.v 72) (.op (.call 15) [] (.ret [.v 73])) (.op (.call 17) [.v 6, .v 63, .v 64, .v 65, .v 66, .v 67, .v 68, .v 69, .v 60, .v 59, .v 58, .v 57] (.op (.ibin .add .i64) [.v 56, .l (.int .i64 1)] (.jump 0 [.v 78, .v 77, .v 76, .v 75, .v 74]))))))) (.op (.icmp .eql) [.v 63, .l (.int .i64 4)] (.ite (.v 71) (.op (.scmp .eql) [.v 64, .l (.str [Int.ofNat 115, Int.ofNat 97, Int.ofNat 102, Int.ofNat 101])] (.ite (.v 72) (.op (.call 15) [] (.ret [.v 73])) (.op (.scmp .eql) [.v 65, .l (.str [Int.ofNat 115, Int.ofNat 97, Int.ofNat 102, Int.ofNat 101])] (.ite (.v 73) (.op (.call 15) [] (.ret [.v 74])) (.op (.call 17) [.v 6, .v 63, .v 64, .v 65, .v 66, .v 67, .v 68, .v 69, .v 60, .v 59, .v 58, .v 57] (.op (.ibin .add .i64) [.v 56, .l (.int .i64 1)] (.jump 0 [.v 79, .v 78, .v 77, .v 76, .v 75]))))))) (.op (.icmp .eql) [.v 63, .l (.int .i64 5)] (.ite (.v 72) (.op (.scmp .eql) [.v 64, .l (.str [Int.ofNat 115, Int.ofNat 97, Int.ofNat 102, Int.ofNat 101])] (.ite (.v 73) (.op (.call 15) [] (.ret [.v 74])) (.op (.scmp .eql) [.v 65, .l (.str [Int.ofNat 115, Int.ofNat 97, Int.ofNat 102, Int.ofNat 101])] (.ite (.v 74) (.op (.call 15) [] (.ret [.v 75])) (.op (.call 17) [.v 6, .v 63, .v 64, .v 65, .v 66, .v 67, .v 68, .v 69, .v 60, .v 59, .v 58, .v 57] (.op (.ibin .add .i64) [.v 56, .l (.int .i64 1)] (.jump 0 [.v 80, .v 79, .v 78, .v 77, .v 76]))))))) (.op (.call 17) [.v 6, .v 63, .v 64, .v 65, .v 66, .v 67, .v 68, .v 69, .v 60, .v 59, .v 58, .v 57] (.op (.ibin .add .i64) [.v 56, .l (.int .i64 1)] (.jump 0 [.v 78, .v 77, .v 76, .v 75, .v 74]))))))))))) (.op (.call 21) [.v 6, .l (.int .i64 0), .l (.nil (Ty.int .i64)), .v 60, .v 59, .v 58, .v 57] (.op (.call 24) [.v 6, .l (.str [Int.ofNat 115, Int.ofNat 97, Int.ofNat 102, Int.ofNat 101]), .l (.int .i64 0), .v 31, .v 63, .v 64, .v 65, .v 66] (.op (.icmp .eql) [.v 68, .l (.int .i64 0)] (.ite (.v 73) (.op (.call 27) [.v 67, .v 37] (.ite (.v 74) (.op (.call 15) [] (.ret [.v 75])) (.ret [.l (.bool false)]))) (.ret [.l (.bool false)]))))))))))))))))))))))))))))))))
noncomputable def F110 : List D → Option (List D) := Fof [] ir110
noncomputable def c110 : Ct := ⟨sig110, F110⟩
noncomputable def F59 : List D → Option (List D) := Fof [] ir59
noncomputable def c59 : Ct := ⟨sig59, F59⟩
noncomputable def F27 : List D → Option (List D) := Fof [c59] ir27
noncomputable def c27 : Ct := ⟨sig27, F27⟩
noncomputable def F48 : List D → Option (List D) := Fof [] ir48
noncomputable def c48 : Ct := ⟨sig48, F48⟩
noncomputable def F131 : List D → Option (List D) := Fof [] ir131
noncomputable def c131 : Ct := ⟨sig131, F131⟩
noncomputable def F132 : List D → Option (List D) := Fof [c131] ir132
noncomputable def c132 : Ct := ⟨sig132, F132⟩
noncomputable def F111 : List D → Option (List D) := Fof [c131, c132] ir111
noncomputable def c111 : Ct := ⟨sig111, F111⟩
noncomputable def F106 : List D → Option (List D) := Fof [c111] ir106
noncomputable def c106 : Ct := ⟨sig106, F106⟩
noncomputable def F105 : List D → Option (List D) := Fof [c106] ir105
noncomputable def c105 : Ct := ⟨sig105, F105⟩
noncomputable def F130 : List D → Option (List D) := Fof [c111] ir130
noncomputable def c130 : Ct := ⟨sig130, F130⟩
noncomputable def F108 : List D → Option (List D) := Fof [] ir108
noncomputable def c108 : Ct := ⟨sig108, F108⟩
noncomputable def F109 : List D → Option (List D) := Fof [] ir109
noncomputable def c109 : Ct := ⟨sig109, F109⟩
noncomputable def F107 : List D → Option (List D) := Fof [c130] ir107
noncomputable def c107 : Ct := ⟨sig107, F107⟩
noncomputable def F80 : List D → Option (List D) := Fof [c105, c106, c107, c108, c109, c110] ir80
noncomputable def c80 : Ct := ⟨sig80, F80⟩
noncomputable def F81 : List D → Option (List D) := Fof [c105, c108, c110] ir81
noncomputable def c81 : Ct := ⟨sig81, F81⟩
noncomputable def F82 : List D → Option (List D) := Fof [c105, c108, c110] ir82
noncomputable def c82 : Ct := ⟨sig82, F82⟩
noncomputable def F83 : List D → Option (List D) := Fof [c108, c106] ir83
noncomputable def c83 : Ct := ⟨sig83, F83⟩
noncomputable def F84 : List D → Option (List D) := Fof [c105, c108, c109] ir84
noncomputable def c84 : Ct := ⟨sig84, F84⟩
noncomputable def F85 : List D → Option (List D) := Fof [c105, c108, c109] ir85
noncomputable def c85 : Ct := ⟨sig85, F85⟩
noncomputable def F86 : List D → Option (List D) := Fof [c111, c110] ir86
noncomputable def c86 : Ct := ⟨sig86, F86⟩
noncomputable def F49 : List D → Option (List D) := Fof [c80, c81, c82, c83, c84, c85, c86] ir49
noncomputable def c49 : Ct := ⟨sig49, F49⟩
noncomputable def F24 : List D → Option (List D) := Fof [c55, c56] ir24
noncomputable def c24 : Ct := ⟨sig24, F24⟩
noncomputable def F20 : List D → Option (List D) := Fof [c48, c16, c49, c17] ir20
noncomputable def c20 : Ct := ⟨sig20, F20⟩
noncomputable def F5 : List D → Option (List D) := Fof [c14, c15, c20, c21, c22, c23, c24, c25, c26, c17, c27] ir5
noncomputable def c5 : Ct := ⟨sig5, F5⟩
end Go.Proofs.Ytmglkddddpipgaa

namespace Go.Proofs.Ytmglkddddpipgaa
open Sx Go.RowKit
theorem mkD_name (a : List Int) (c : Int) : mkD MpT 1 [⟨.str, a⟩, ⟨.int .i64, c⟩] = some ⟨.sl MpT, [(a, c)]⟩ := rfl
attribute [local simp] mkD_name

theorem f59 (a b : List Int) (hl : a.length ≤ 1000000000) : F59 [⟨.sl (.int .u8), a⟩, ⟨.sl (.int .u8), b⟩] = some [⟨.bool, decide (a = b)⟩] := by
  simp only [F59, Fof, ir59]; by_cases hne : (a.length : Int) = b.length
  · simp -implicitDefEqProofs [hne]
    refine (iter_meas (fun i : Int => (a.length - i).toNat) (fun i : Int => ([⟨.bool, decide (a.drop i.toNat = b.drop i.toNat)⟩] : List D)) (fun i => 0 ≤ i ∧ i ≤ a.length) (by exact ⟨by omega, by omega⟩) ?_).trans (by simp)
    rintro i ⟨h1, h2⟩
    by_cases hi : i < a.length
    · have hib : i < b.length := by omega
      obtain ⟨x, hx⟩ : ∃ x, a[i.toNat]? = some x := ⟨_, List.getElem?_eq_getElem (by omega)⟩
      obtain ⟨y, hy⟩ : ∃ y, b[i.toNat]? = some y := ⟨_, List.getElem?_eq_getElem (by omega)⟩
      obtain ⟨_, hx2⟩ := List.getElem?_eq_some_iff.1 hx
      obtain ⟨_, hy2⟩ := List.getElem?_eq_some_iff.1 hy
      have wi : IntKind.i64.wrap (i + 1) = i + 1 := wi64 _ (by omega) (by omega)
      rw [dropI' h1 hx, dropI' h1 hy]; by_cases he : x = y
      · refine .inl ⟨i + 1, ?_, ⟨by omega, by omega⟩, by omega, by simp [he]⟩
        simp -implicitDefEqProofs [hi, hib, h1, hx, hy, hx2, hy2, he, wi]
      · refine .inr ?_
        simp -implicitDefEqProofs [hi, hib, h1, hx, hy, hx2, hy2, he]
    · have hib : ¬ i < b.length := by omega
      rw [List.drop_eq_nil_of_le (by omega), List.drop_eq_nil_of_le (by omega)]; refine .inr ?_
      simp -implicitDefEqProofs [hi, hib]
  · have hab : ¬ a = b := fun e => hne (by rw [e])
    simp -implicitDefEqProofs [hne, hab]
theorem s59 {lc : List Ct} (hl0 : Sx.look (lc.map fun c => (c.sig.id, c)) 59 = some c59) : ∀ (a b : List Int) (hl : a.length ≤ 1000000000), Does1 (Phi lc) 59 [⟨.sl (.int .u8), a⟩, ⟨.sl (.int .u8), b⟩] [⟨.bool, decide (a = b)⟩] :=
  fun a b hl => by
    have eFc : c59.F = F59 := rfl
    have eFh := f59 a b hl
    rw [← eFc] at eFh; exact Does1.of hl0 eFh rfl

theorem f27 (a b : List Int) (hl : a.length ≤ 1000000000) : F27 [⟨.sl (.int .u8), a⟩, ⟨.sl (.int .u8), b⟩] = some [⟨.bool, decide (a = b)⟩] := by
  have h59 := s59 (lc := [c59]) rfl
  simp only [F27, Fof, ir27]; generalize Phi [c59] = Φ at *
  have g := h59 a b hl
  simp -implicitDefEqProofs [g]
theorem s27 {lc : List Ct} (hl0 : Sx.look (lc.map fun c => (c.sig.id, c)) 27 = some c27) : ∀ (a b : List Int) (hl : a.length ≤ 1000000000), Does1 (Phi lc) 27 [⟨.sl (.int .u8), a⟩, ⟨.sl (.int .u8), b⟩] [⟨.bool, decide (a = b)⟩] :=
  fun a b hl => by
    have eFc : c27.F = F27 := rfl
    have eFh := f27 a b hl
    rw [← eFc] at eFh; exact Does1.of hl0 eFh rfl

theorem f48 (q : Int) : F48 [⟨.int .i64, q⟩] = some [⟨.int .i64, q⟩, ⟨.sl FlT, []⟩, ⟨.sl MpT, []⟩, ⟨.sl TnT, []⟩, ⟨.int .i64, (-1 : Int)⟩, ⟨.int .i64, (0 : Int)⟩, ⟨.bool, false⟩] := by
  simp only [F48, Fof, ir48]; simp -implicitDefEqProofs
theorem s48 {lc : List Ct} (hl0 : Sx.look (lc.map fun c => (c.sig.id, c)) 48 = some c48) : ∀ (q : Int), Does1 (Phi lc) 48 [⟨.int .i64, q⟩] [⟨.int .i64, q⟩, ⟨.sl FlT, []⟩, ⟨.sl MpT, []⟩, ⟨.sl TnT, []⟩, ⟨.int .i64, (-1 : Int)⟩, ⟨.int .i64, (0 : Int)⟩, ⟨.bool, false⟩] :=
  fun q => by
    have eFc : c48.F = F48 := rfl
    have eFh := f48 q
    rw [← eFc] at eFh; exact Does1.of hl0 eFh rfl

theorem f131 (l : List NmD) (a : List Int) (hl : l.length ≤ 2000000) : F131 [⟨.sl MpT, l⟩, ⟨.str, a⟩] = some [⟨.sl MpT, woN l a⟩] := by
  simp only [F131, Fof, ir131]; simp -implicitDefEqProofs
  refine (iter_meas (fun s : List NmD × Int => (l.length - s.2).toNat) (fun s : List NmD × Int => ([⟨.sl MpT, s.1 ++ woN (l.drop s.2.toNat) a⟩] : List D)) (fun s => 0 ≤ s.2 ∧ s.2 ≤ l.length ∧ s.1.length ≤ s.2.toNat) (by exact ⟨by simp, by simp, by simp⟩) ?_).trans (by simp)
  rintro ⟨o, i⟩ ⟨h1, h2, h3⟩
  simp only at h1 h2 h3
  by_cases hi : i < l.length
  · obtain ⟨x, hx⟩ : ∃ x, l[i.toNat]? = some x := ⟨_, List.getElem?_eq_getElem (by omega)⟩
    obtain ⟨_, hx2⟩ := List.getElem?_eq_some_iff.1 hx
    have wi : IntKind.i64.wrap (i + 1) = i + 1 := wi64 _ (by omega) (by omega)
    have hB : o.length + 1 ≤ BIG := by unfold BIG; omega
    simp only [dropI' h1 hx, woN, List.filter_cons]; by_cases he : x.1 = a
    · refine .inl ⟨(o, i + 1), ?_, ⟨by simp only; omega, by simp only; omega, by simp only; omega⟩, by simp only; omega, by simp [he]⟩
      simp -implicitDefEqProofs [hi, h1, hx, hx2, he, wi]
    · refine .inl ⟨(o ++ [x], i + 1), ?_, ⟨by simp only; omega, by simp only; omega, by simp only [List.length_append, List.length_singleton]; omega⟩, by simp only; omega, by simp [he]⟩
      simp -implicitDefEqProofs [hi, h1, hx, hx2, he, wi, hB]
  · simp only [List.drop_eq_nil_of_le (show l.length ≤ i.toNat by omega)]; refine .inr ?_
    simp -implicitDefEqProofs [hi, woN]
theorem s131 {lc : List Ct} (hl0 : Sx.look (lc.map fun c => (c.sig.id, c)) 131 = some c131) : ∀ (l : List NmD) (a : List Int) (hl : l.length ≤ 2000000), Does1 (Phi lc) 131 [⟨.sl MpT, l⟩, ⟨.str, a⟩] [⟨.sl MpT, woN l a⟩] :=
  fun l a hl => by
    have eFc : c131.F = F131 := rfl
    have eFh := f131 l a hl
    rw [← eFc] at eFh; exact Does1.of hl0 eFh rfl

def insN (l : List NmD) (x : NmD) : List NmD := (l.takeWhile fun y => ltL y.1 x.1) ++ x :: (l.dropWhile fun y => ltL y.1 x.1)
theorem insN_lt {y x : NmD} {l : List NmD} (h : ltL y.1 x.1 = true) : insN (y :: l) x = y :: insN l x := by
  unfold insN; rw [List.takeWhile_cons_of_pos (p := fun y : NmD => ltL y.1 x.1) h, List.dropWhile_cons_of_pos (p := fun y : NmD => ltL y.1 x.1) h]; rfl
theorem insN_ge {y x : NmD} {l : List NmD} (h : ltL y.1 x.1 = false) : insN (y :: l) x = x :: y :: l := by
  unfold insN; have h' : ¬ ltL y.1 x.1 = true := by rw [h]; simp
  rw [List.takeWhile_cons_of_neg (p := fun y : NmD => ltL y.1 x.1) h', List.dropWhile_cons_of_neg (p := fun y : NmD => ltL y.1 x.1) h']; rfl

theorem f132 (l : List NmD) (a : List Int) (j : Int) (hl : l.length ≤ 2000000) : F132 [⟨.sl MpT, l⟩, ⟨.str, a⟩, ⟨.int .i64, j⟩] = some [⟨.sl MpT, wiN l (a, j)⟩] := by
  have h131 := s131 (lc := [c131]) rfl
  simp only [F132, Fof, ir132]; generalize Phi [c131] = Φ at *
  have g := h131 l a hl
  have hlw : (woN l a).length ≤ l.length := List.length_filter_le _ _
  simp -implicitDefEqProofs [g]
  rw [show wiN l (a, j) = insN (woN l a) (a, j) from rfl]; generalize woN l a = m at *
  refine (iter_meas (fun i : Int => (m.length - i).toNat) (fun i : Int => ([⟨.sl MpT, m.take i.toNat ++ insN (m.drop i.toNat) (a, j)⟩] : List D)) (fun i => 0 ≤ i ∧ i ≤ m.length) (by exact ⟨by omega, by omega⟩) ?_).trans (by simp)
  rintro i ⟨h1, h2⟩
  have hB1 : i.toNat + 1 ≤ BIG := by unfold BIG; omega
  have hB2 : m.length + 1 ≤ BIG := by unfold BIG; omega
  have hB3 : i.toNat ≤ BIG := by unfold BIG; omega
  have hmin : min i.toNat m.length = i.toNat := by omega
  have hB4 : i.toNat + 1 + (m.length - i.toNat) ≤ BIG := by unfold BIG; omega
  by_cases hi : i < m.length
  · obtain ⟨x, hx⟩ : ∃ x, m[i.toNat]? = some x := ⟨_, List.getElem?_eq_getElem (by omega)⟩
    obtain ⟨_, hx2⟩ := List.getElem?_eq_some_iff.1 hx
    have wi : IntKind.i64.wrap (i + 1) = i + 1 := wi64 _ (by omega) (by omega)
    cases he : ltL x.1 a with
    | true =>
      refine .inl ⟨i + 1, ?_, ⟨by omega, by omega⟩, by omega, ?_⟩
      · simp -implicitDefEqProofs [hi, h1, hx, hx2, he, wi]
      · rw [dropI' h1 hx, insN_lt he, show (i + 1).toNat = i.toNat + 1 by omega, List.take_add_one, hx]; simp
    | false =>
      refine .inr ?_
      have e := dropI' h1 hx
      rw [show m.drop i.toNat = x :: m.drop (i + 1).toNat from e, insN_ge he, ← e]; simp -implicitDefEqProofs [hi, h1, hx, hx2, he, h2, hB1, hB2, hB3, hmin, hB4]
  · have hii : i = m.length := by omega
    refine .inr ?_
    rw [List.drop_eq_nil_of_le (show m.length ≤ i.toNat by omega)]; have hB5 : m.length ≤ BIG := by unfold BIG; omega
    subst hii; simp -implicitDefEqProofs [hB2, hB5, insN]
theorem s132 {lc : List Ct} (hl0 : Sx.look (lc.map fun c => (c.sig.id, c)) 132 = some c132) : ∀ (l : List NmD) (a : List Int) (j : Int) (hl : l.length ≤ 2000000), Does1 (Phi lc) 132 [⟨.sl MpT, l⟩, ⟨.str, a⟩, ⟨.int .i64, j⟩] [⟨.sl MpT, wiN l (a, j)⟩] :=
  fun l a j hl => by
    have eFc : c132.F = F132 := rfl
    have eFh := f132 l a j hl
    rw [← eFc] at eFh; exact Does1.of hl0 eFh rfl
end Go.Proofs.Ytmglkddddpipgaa

namespace Go.Proofs.Ytmglkddddpipgaa
open Sx Go.RowKit
attribute [local simp] mkD_name

theorem wo_len (l : List NmD) (a : List Int) : (woN l a).length ≤ l.length := List.length_filter_le _ _
theorem wi_len (l : List NmD) (x : NmD) : (wiN l x).length ≤ l.length + 1 := by
  rw [(wi_perm l x).length_eq, List.length_cons]; have := wo_len l x.1
  omega
theorem st_len (l : List NmD) (t : TurnD) : (stN l t).length ≤ l.length + 1 := by
  have h1 := wo_len l t.1
  have h2 := wi_len l (t.2.1, t.2.2)
  have h3 := wi_len (woN l t.1) (t.2.1, t.2.2)
  simp only [stN]; split <;> split <;> omega
theorem sts_len : ∀ (ts : List TurnD) (l : List NmD), (ts.foldl stN l).length ≤ l.length + ts.length
  | [], l => by simp
  | t :: ts, l => by
    have h1 := sts_len ts (stN l t)
    have h2 := st_len l t
    simp only [List.foldl_cons, List.length_cons]; omega

structure Rok (d : Rd) : Prop where
  f : d.fs.length ≤ 1000000
  t : d.ts.length ≤ 1000000
  s : d.sf.length ≤ 1000000
  b : ∀ f ∈ d.fs, f.1.length ≤ 4194304 ∧ 0 ≤ f.2 ∧ f.2 ≤ f.1.length
  st1 : -1 ≤ d.st
  st2 : d.st < 9223372036854775808
  fa1 : 0 ≤ d.fa
  fa2 : d.fa < 9223372036854775808
  q1 : 0 ≤ d.q
  q2 : d.q ≤ 4194304
  nm : ∀ n, ∀ x ∈ (d.ts.take n).foldl stN d.sf, 0 ≤ x.2 ∧ x.2 < d.fs.length

theorem take_drop {α : Type} {l : List α} {n i : Int} {x : α} (h1 : 0 ≤ i) (h2 : i < n) (hx : l[i.toNat]? = some x) : (l.take n.toNat).drop i.toNat = x :: (l.take n.toNat).drop (i + 1).toNat := by
  refine dropI' h1 ?_
  rw [List.getElem?_take, if_pos (by omega)]; exact hx

theorem f111 (d : Rd) (n : Int) (h : Rok d) : F111 [⟨.int .i64, d.q⟩, ⟨.sl FlT, d.fs⟩, ⟨.sl MpT, d.sf⟩, ⟨.sl TnT, d.ts⟩, ⟨.int .i64, d.st⟩, ⟨.int .i64, d.fa⟩, ⟨.bool, d.de⟩, ⟨.int .i64, n⟩] = some [⟨.sl MpT, d.names n⟩] := by
  have h131 := s131 (lc := [c131, c132]) rfl
  have h132 := s132 (lc := [c131, c132]) rfl
  simp only [F111, Fof, ir111]; generalize Phi [c131, c132] = Φ at *
  have hs := h.s
  have ht := h.t
  have hB0 : d.sf.length ≤ BIG := by unfold BIG; omega
  simp -implicitDefEqProofs [hB0]
  refine (iter_meas (fun s : List NmD × Int => (d.ts.length - s.2).toNat) (fun s : List NmD × Int => ([⟨.sl MpT, ((d.ts.take n.toNat).drop s.2.toNat).foldl stN s.1⟩] : List D)) (fun s => 0 ≤ s.2 ∧ s.2 ≤ d.ts.length ∧ s.1.length ≤ d.sf.length + s.2.toNat) (by exact ⟨by simp, by simp, by simp⟩) ?_).trans (by simp [Rd.names])
  rintro ⟨l, i⟩ ⟨h1, h2, h3⟩
  simp only at h1 h2 h3
  by_cases hn : i < n
  · by_cases hi : i < d.ts.length
    · obtain ⟨x, hx⟩ : ∃ x, d.ts[i.toNat]? = some x := ⟨_, List.getElem?_eq_getElem (by omega)⟩
      obtain ⟨_, hx2⟩ := List.getElem?_eq_some_iff.1 hx
      have wi : IntKind.i64.wrap (i + 1) = i + 1 := wi64 _ (by omega) (by omega)
      have hle := st_len l x
      have hlw := wo_len l x.1
      have g1 := h131 l x.1 (by omega)
      have g2 := h132 l x.2.1 x.2.2 (by omega)
      have g3 := h132 (woN l x.1) x.2.1 x.2.2 (by omega)
      refine .inl ⟨(stN l x, i + 1), ?_, ⟨by simp only; omega, by simp only; omega, by simp only; omega⟩, by simp only; omega, ?_⟩
      · by_cases e1 : x.1 = []
        · by_cases e2 : x.2.1 = []
          · simp -implicitDefEqProofs [hn, hi, h1, hx, hx2, wi, e1, e2, stN]
          · simp -implicitDefEqProofs [hn, hi, h1, hx, hx2, wi, e1, e2, stN, g2]
        · by_cases e2 : x.2.1 = []
          · simp -implicitDefEqProofs [hn, hi, h1, hx, hx2, wi, e1, e2, stN, g1]
          · simp -implicitDefEqProofs [hn, hi, h1, hx, hx2, wi, e1, e2, stN, g1, g3]
      · rw [take_drop h1 hn hx]; rfl
    · rw [List.drop_eq_nil_of_le (by rw [List.length_take]; omega)]
      refine .inr ?_
      simp -implicitDefEqProofs [hn, hi]
  · rw [List.drop_eq_nil_of_le (by rw [List.length_take]; omega)]
    refine .inr ?_
    simp -implicitDefEqProofs [hn]
theorem s111 {lc : List Ct} (hl0 : Sx.look (lc.map fun c => (c.sig.id, c)) 111 = some c111) : ∀ (d : Rd) (n : Int) (h : Rok d), Does1 (Phi lc) 111 [⟨.int .i64, d.q⟩, ⟨.sl FlT, d.fs⟩, ⟨.sl MpT, d.sf⟩, ⟨.sl TnT, d.ts⟩, ⟨.int .i64, d.st⟩, ⟨.int .i64, d.fa⟩, ⟨.bool, d.de⟩, ⟨.int .i64, n⟩] [⟨.sl MpT, d.names n⟩] :=
  fun d n h => by
    have eFc : c111.F = F111 := rfl
    have eFh := f111 d n h
    rw [← eFc] at eFh; exact Does1.of hl0 eFh rfl

theorem names_all (d : Rd) : d.names (d.ts.length : Int) = d.now := by
  unfold Rd.names Rd.now; rw [Int.toNat_natCast, List.take_length]

theorem f106 (d : Rd) (h : Rok d) : F106 [⟨.int .i64, d.q⟩, ⟨.sl FlT, d.fs⟩, ⟨.sl MpT, d.sf⟩, ⟨.sl TnT, d.ts⟩, ⟨.int .i64, d.st⟩, ⟨.int .i64, d.fa⟩, ⟨.bool, d.de⟩] = some [⟨.sl MpT, d.now⟩] := by
  have h111 := s111 (lc := [c111]) rfl
  simp only [F106, Fof, ir106]; generalize Phi [c111] = Φ at *
  have g := h111 d (d.ts.length : Int) h
  rw [names_all] at g; simp -implicitDefEqProofs [g]
theorem s106 {lc : List Ct} (hl0 : Sx.look (lc.map fun c => (c.sig.id, c)) 106 = some c106) : ∀ (d : Rd) (h : Rok d), Does1 (Phi lc) 106 [⟨.int .i64, d.q⟩, ⟨.sl FlT, d.fs⟩, ⟨.sl MpT, d.sf⟩, ⟨.sl TnT, d.ts⟩, ⟨.int .i64, d.st⟩, ⟨.int .i64, d.fa⟩, ⟨.bool, d.de⟩] [⟨.sl MpT, d.now⟩] :=
  fun d h => by
    have eFc : c106.F = F106 := rfl
    have eFh := f106 d h
    rw [← eFc] at eFh; exact Does1.of hl0 eFh rfl

theorem Rok.now {d : Rd} (h : Rok d) : d.now.length ≤ 2000000 := by
  have := sts_len d.ts d.sf
  have h1 := h.s
  have h2 := h.t
  show (d.ts.foldl stN d.sf).length ≤ _
  omega
theorem Rok.names {d : Rd} (h : Rok d) (n : Int) : (d.names n).length ≤ 2000000 := by
  have := sts_len (d.ts.take n.toNat) d.sf
  have h1 := h.s
  have h2 := h.t
  have h3 : (d.ts.take n.toNat).length ≤ d.ts.length := by rw [List.length_take]; omega
  show ((d.ts.take n.toNat).foldl stN d.sf).length ≤ _
  omega

theorem f105 (d : Rd) (a : List Int) (h : Rok d) : F105 [⟨.int .i64, d.q⟩, ⟨.sl FlT, d.fs⟩, ⟨.sl MpT, d.sf⟩, ⟨.sl TnT, d.ts⟩, ⟨.int .i64, d.st⟩, ⟨.int .i64, d.fa⟩, ⟨.bool, d.de⟩, ⟨.str, a⟩] = some [⟨.int .i64, d.at a⟩] := by
  have h106 := s106 (lc := [c106]) rfl
  simp only [F105, Fof, ir105]; generalize Phi [c106] = Φ at *
  have g := h106 d h
  have hl := h.now
  simp -implicitDefEqProofs [g, Rd.at]
  generalize d.now = l at *
  refine (iter_meas (fun i : Int => (l.length - i).toNat) (fun i : Int => ([⟨.int .i64, atL (l.drop i.toNat) a⟩] : List D)) (fun i => 0 ≤ i ∧ i ≤ l.length) (by exact ⟨by omega, by omega⟩) ?_).trans (by simp)
  rintro i ⟨h1, h2⟩
  by_cases hi : i < l.length
  · obtain ⟨x, hx⟩ : ∃ x, l[i.toNat]? = some x := ⟨_, List.getElem?_eq_getElem (by omega)⟩
    obtain ⟨_, hx2⟩ := List.getElem?_eq_some_iff.1 hx
    have wi : IntKind.i64.wrap (i + 1) = i + 1 := wi64 _ (by omega) (by omega)
    simp only [dropI' h1 hx, atL, List.find?_cons]; by_cases he : x.1 = a
    · refine .inr ?_
      simp -implicitDefEqProofs [hi, h1, hx, hx2, he]
    · refine .inl ⟨i + 1, ?_, ⟨by omega, by omega⟩, by omega, by simp [he]⟩
      simp -implicitDefEqProofs [hi, h1, hx, hx2, he, wi]
  · rw [List.drop_eq_nil_of_le (by omega)]; refine .inr ?_
    simp -implicitDefEqProofs [hi, atL]
theorem s105 {lc : List Ct} (hl0 : Sx.look (lc.map fun c => (c.sig.id, c)) 105 = some c105) : ∀ (d : Rd) (a : List Int) (h : Rok d), Does1 (Phi lc) 105 [⟨.int .i64, d.q⟩, ⟨.sl FlT, d.fs⟩, ⟨.sl MpT, d.sf⟩, ⟨.sl TnT, d.ts⟩, ⟨.int .i64, d.st⟩, ⟨.int .i64, d.fa⟩, ⟨.bool, d.de⟩, ⟨.str, a⟩] [⟨.int .i64, d.at a⟩] :=
  fun d a h => by
    have eFc : c105.F = F105 := rfl
    have eFh := f105 d a h
    rw [← eFc] at eFh; exact Does1.of hl0 eFh rfl

theorem f130 (d : Rd) (j : Int) (h : Rok d) : F130 [⟨.int .i64, d.q⟩, ⟨.sl FlT, d.fs⟩, ⟨.sl MpT, d.sf⟩, ⟨.sl TnT, d.ts⟩, ⟨.int .i64, d.st⟩, ⟨.int .i64, d.fa⟩, ⟨.bool, d.de⟩, ⟨.int .i64, j⟩] = some [⟨.bool, d.th j⟩] := by
  have h111 := s111 (lc := [c111]) rfl
  simp only [F130, Fof, ir130]; generalize Phi [c111] = Φ at *
  have ht := h.t
  simp -implicitDefEqProofs
  refine (iter_meas (fun n : Int => (d.ts.length + 1 - n).toNat) (fun n : Int => ([⟨.bool, ((List.range (d.ts.length + 1)).drop n.toNat).any fun k => (d.names (k : Int)).any fun x => decide (x.2 = j)⟩] : List D)) (fun n => 0 ≤ n ∧ n ≤ d.ts.length + 1) (by exact ⟨by omega, by omega⟩) ?_).trans (by simp [Rd.th, Rd.names])
  rintro n ⟨h1, h2⟩
  by_cases hn : n ≤ d.ts.length
  · have g := h111 d n h
    have hl := h.names n
    have wn : IntKind.i64.wrap (n + 1) = n + 1 := wi64 _ (by omega) (by omega)
    have hx : (List.range (d.ts.length + 1))[n.toNat]? = some n.toNat := List.getElem?_range (by omega)
    have hnn : ((n.toNat : Nat) : Int) = n := by omega
    rw [dropI' h1 hx, List.any_cons, hnn]; cases hb : (d.names n).any fun x => decide (x.2 = j) with
    | true =>
      refine .inr ?_
      simp -implicitDefEqProofs [hn, g]
      generalize d.names n = l at *
      refine (iter_meas (fun i : Int => (l.length - i).toNat) (fun i : Int => (if ((l.drop i.toNat).any fun x => decide (x.2 = j)) = true then LS.out [⟨.bool, true⟩] else LS.again (n + 1) : LS Int (List D))) (fun i => 0 ≤ i ∧ i ≤ l.length) (by exact ⟨by omega, by omega⟩) ?_).trans (by rw [show (0 : Int).toNat = 0 from rfl, List.drop_zero, hb]; rfl)
      rintro i ⟨h1, h2⟩
      by_cases hi : i < l.length
      · obtain ⟨x, hx⟩ : ∃ x, l[i.toNat]? = some x := ⟨_, List.getElem?_eq_getElem (by omega)⟩
        obtain ⟨_, hx2⟩ := List.getElem?_eq_some_iff.1 hx
        have wi : IntKind.i64.wrap (i + 1) = i + 1 := wi64 _ (by omega) (by omega)
        rw [dropI' h1 hx, List.any_cons]; by_cases he : x.2 = j
        · refine .inr ?_
          simp -implicitDefEqProofs [hi, h1, hx, hx2, he]
        · refine .inl ⟨i + 1, ?_, ⟨by omega, by omega⟩, by omega, by rw [decide_eq_false he, Bool.false_or]⟩
          simp -implicitDefEqProofs [hi, h1, hx, hx2, he, wi]
      · rw [List.drop_eq_nil_of_le (by omega)]; refine .inr ?_
        simp -implicitDefEqProofs [hi, wn]
    | false =>
      refine .inl ⟨n + 1, ?_, ⟨by omega, by omega⟩, by omega, by simp⟩
      simp -implicitDefEqProofs [hn, g]
      generalize d.names n = l at *
      refine (iter_meas (fun i : Int => (l.length - i).toNat) (fun i : Int => (if ((l.drop i.toNat).any fun x => decide (x.2 = j)) = true then LS.out [⟨.bool, true⟩] else LS.again (n + 1) : LS Int (List D))) (fun i => 0 ≤ i ∧ i ≤ l.length) (by exact ⟨by omega, by omega⟩) ?_).trans (by rw [show (0 : Int).toNat = 0 from rfl, List.drop_zero, hb]; rfl)
      rintro i ⟨h1, h2⟩
      by_cases hi : i < l.length
      · obtain ⟨x, hx⟩ : ∃ x, l[i.toNat]? = some x := ⟨_, List.getElem?_eq_getElem (by omega)⟩
        obtain ⟨_, hx2⟩ := List.getElem?_eq_some_iff.1 hx
        have wi : IntKind.i64.wrap (i + 1) = i + 1 := wi64 _ (by omega) (by omega)
        rw [dropI' h1 hx, List.any_cons]; by_cases he : x.2 = j
        · refine .inr ?_
          simp -implicitDefEqProofs [hi, h1, hx, hx2, he]
        · refine .inl ⟨i + 1, ?_, ⟨by omega, by omega⟩, by omega, by rw [decide_eq_false he, Bool.false_or]⟩
          simp -implicitDefEqProofs [hi, h1, hx, hx2, he, wi]
      · rw [List.drop_eq_nil_of_le (by omega)]; refine .inr ?_
        simp -implicitDefEqProofs [hi, wn]
  · rw [List.drop_eq_nil_of_le (by rw [List.length_range]; omega)]
    refine .inr ?_
    simp -implicitDefEqProofs [hn]
theorem s130 {lc : List Ct} (hl0 : Sx.look (lc.map fun c => (c.sig.id, c)) 130 = some c130) : ∀ (d : Rd) (j : Int) (h : Rok d), Does1 (Phi lc) 130 [⟨.int .i64, d.q⟩, ⟨.sl FlT, d.fs⟩, ⟨.sl MpT, d.sf⟩, ⟨.sl TnT, d.ts⟩, ⟨.int .i64, d.st⟩, ⟨.int .i64, d.fa⟩, ⟨.bool, d.de⟩, ⟨.int .i64, j⟩] [⟨.bool, d.th j⟩] :=
  fun d j h => by
    have eFc : c130.F = F130 := rfl
    have eFh := f130 d j h
    rw [← eFc] at eFh; exact Does1.of hl0 eFh rfl

theorem f107 (d : Rd) (h : Rok d) : F107 [⟨.int .i64, d.q⟩, ⟨.sl FlT, d.fs⟩, ⟨.sl MpT, d.sf⟩, ⟨.sl TnT, d.ts⟩, ⟨.int .i64, d.st⟩, ⟨.int .i64, d.fa⟩, ⟨.bool, d.de⟩] = some [⟨.int .i64, (d.used : Int)⟩] := by
  have h130 := s130 (lc := [c130]) rfl
  simp only [F107, Fof, ir107]; generalize Phi [c130] = Φ at *
  have hf := h.f
  simp -implicitDefEqProofs
  refine (iter_meas (fun s : Int × Int => (d.fs.length - s.2).toNat) (fun s : Int × Int => ([⟨.int .i64, s.1 + ((((List.range d.fs.length).drop s.2.toNat).map fun (j : Nat) => if d.th (j : Int) = true then (d.fs.getD j ([], 0)).1.length else 0).sum : Nat)⟩] : List D)) (fun s => 0 ≤ s.2 ∧ s.2 ≤ d.fs.length ∧ 0 ≤ s.1 ∧ s.1 ≤ 4194304 * s.2) (by exact ⟨by simp, by simp, by simp, by simp⟩) ?_).trans (by simp [Rd.used])
  rintro ⟨c, i⟩ ⟨h1, h2, h3, h4⟩
  simp only at h1 h2 h3 h4
  by_cases hi : i < d.fs.length
  · obtain ⟨x, hx⟩ : ∃ x, d.fs[i.toNat]? = some x := ⟨_, List.getElem?_eq_getElem (by omega)⟩
    obtain ⟨_, hx2⟩ := List.getElem?_eq_some_iff.1 hx
    have hb := (h.b x (List.mem_of_getElem? hx)).1
    have wi : IntKind.i64.wrap (i + 1) = i + 1 := wi64 _ (by omega) (by omega)
    have wc : IntKind.i64.wrap (c + x.1.length) = c + x.1.length := wi64 _ (by omega) (by omega)
    have g := h130 d i h
    have hr : (List.range d.fs.length)[i.toNat]? = some i.toNat := List.getElem?_range (by omega)
    have hnn : ((i.toNat : Nat) : Int) = i := by omega
    have hgd : d.fs.getD i.toNat ([], 0) = x := by rw [List.getD_eq_getElem?_getD, hx]; rfl
    simp only [dropI' h1 hr, List.map_cons, List.sum_cons, hnn, hgd]; cases hb : d.th i with
    | true =>
      rw [hb] at g; refine .inl ⟨(c + x.1.length, i + 1), ?_, ⟨by simp only; omega, by simp only; omega, by simp only; omega, by simp only; omega⟩, by simp only; omega, ?_⟩
      · simp -implicitDefEqProofs [hi, h1, hx, hx2, wi, wc, g]
      · simp only [if_true]; rw [Int.natCast_add, Int.add_assoc]
    | false =>
      rw [hb] at g; refine .inl ⟨(c, i + 1), ?_, ⟨by simp only; omega, by simp only; omega, by simp only; omega, by simp only; omega⟩, by simp only; omega, ?_⟩
      · simp -implicitDefEqProofs [hi, h1, hx, hx2, wi, g]
      · simp
  · simp only [List.drop_eq_nil_of_le (show (List.range d.fs.length).length ≤ i.toNat by rw [List.length_range]; omega)]
    refine .inr ?_
    simp -implicitDefEqProofs [hi]
theorem s107 {lc : List Ct} (hl0 : Sx.look (lc.map fun c => (c.sig.id, c)) 107 = some c107) : ∀ (d : Rd) (h : Rok d), Does1 (Phi lc) 107 [⟨.int .i64, d.q⟩, ⟨.sl FlT, d.fs⟩, ⟨.sl MpT, d.sf⟩, ⟨.sl TnT, d.ts⟩, ⟨.int .i64, d.st⟩, ⟨.int .i64, d.fa⟩, ⟨.bool, d.de⟩] [⟨.int .i64, (d.used : Int)⟩] :=
  fun d h => by
    have eFc : c107.F = F107 := rfl
    have eFh := f107 d h
    rw [← eFc] at eFh; exact Does1.of hl0 eFh rfl

theorem f108 (d : Rd) (h : Rok d) : F108 [⟨.int .i64, d.q⟩, ⟨.sl FlT, d.fs⟩, ⟨.sl MpT, d.sf⟩, ⟨.sl TnT, d.ts⟩, ⟨.int .i64, d.st⟩, ⟨.int .i64, d.fa⟩, ⟨.bool, d.de⟩] = some [⟨.int .i64, d.act.1.q⟩, ⟨.sl FlT, d.act.1.fs⟩, ⟨.sl MpT, d.act.1.sf⟩, ⟨.sl TnT, d.act.1.ts⟩, ⟨.int .i64, d.act.1.st⟩, ⟨.int .i64, d.act.1.fa⟩, ⟨.bool, d.act.1.de⟩, ⟨.int .i64, d.act.2⟩] := by
  simp only [F108, Fof, ir108]; have a1 := h.st1
  have a2 := h.st2
  have a3 := h.fa1
  have a4 := h.fa2
  by_cases s0 : d.st = 0
  · simp -implicitDefEqProofs [s0, Rd.act, actM]
  · by_cases s1 : d.st > 0
    · have w1 := wi64 (d.st - 1) (by omega) (by omega)
      by_cases g1 : d.fa = 1
      · simp -implicitDefEqProofs [s0, s1, g1, w1, Rd.act, actM]
      · by_cases g2 : d.fa > 1
        · have w2 := wi64 (d.fa - 1) (by omega) (by omega)
          have g3 : d.fa > 0 := by omega
          have g4 : ¬ d.fa - 1 = 0 := by omega
          simp -implicitDefEqProofs [s0, s1, g1, g2, g3, g4, w1, w2, Rd.act, actM]
        · have g3 : ¬ d.fa > 0 := by omega
          simp -implicitDefEqProofs [s0, s1, g1, g2, g3, w1, Rd.act, actM]
    · by_cases g1 : d.fa = 1
      · simp -implicitDefEqProofs [s0, s1, g1, Rd.act, actM]
      · by_cases g2 : d.fa > 1
        · have w2 := wi64 (d.fa - 1) (by omega) (by omega)
          have g3 : d.fa > 0 := by omega
          have g4 : ¬ d.fa - 1 = 0 := by omega
          simp -implicitDefEqProofs [s0, s1, g1, g2, g3, g4, w2, Rd.act, actM]
        · have g3 : ¬ d.fa > 0 := by omega
          simp -implicitDefEqProofs [s0, s1, g1, g2, g3, Rd.act, actM]
theorem s108 {lc : List Ct} (hl0 : Sx.look (lc.map fun c => (c.sig.id, c)) 108 = some c108) : ∀ (d : Rd) (h : Rok d), Does1 (Phi lc) 108 [⟨.int .i64, d.q⟩, ⟨.sl FlT, d.fs⟩, ⟨.sl MpT, d.sf⟩, ⟨.sl TnT, d.ts⟩, ⟨.int .i64, d.st⟩, ⟨.int .i64, d.fa⟩, ⟨.bool, d.de⟩] [⟨.int .i64, d.act.1.q⟩, ⟨.sl FlT, d.act.1.fs⟩, ⟨.sl MpT, d.act.1.sf⟩, ⟨.sl TnT, d.act.1.ts⟩, ⟨.int .i64, d.act.1.st⟩, ⟨.int .i64, d.act.1.fa⟩, ⟨.bool, d.act.1.de⟩, ⟨.int .i64, d.act.2⟩] :=
  fun d h => by
    have eFc : c108.F = F108 := rfl
    have eFh := f108 d h
    rw [← eFc] at eFh; exact Does1.of hl0 eFh rfl

theorem f109 (d : Rd) (a b : List Int) (j : Int) (h : d.ts.length ≤ 1000000) : F109 [⟨.int .i64, d.q⟩, ⟨.sl FlT, d.fs⟩, ⟨.sl MpT, d.sf⟩, ⟨.sl TnT, d.ts⟩, ⟨.int .i64, d.st⟩, ⟨.int .i64, d.fa⟩, ⟨.bool, d.de⟩, ⟨.str, a⟩, ⟨.str, b⟩, ⟨.int .i64, j⟩] = some [⟨.int .i64, ({ d with ts := d.ts ++ [(a, b, j)] }).q⟩, ⟨.sl FlT, ({ d with ts := d.ts ++ [(a, b, j)] }).fs⟩, ⟨.sl MpT, ({ d with ts := d.ts ++ [(a, b, j)] }).sf⟩, ⟨.sl TnT, ({ d with ts := d.ts ++ [(a, b, j)] }).ts⟩, ⟨.int .i64, ({ d with ts := d.ts ++ [(a, b, j)] }).st⟩, ⟨.int .i64, ({ d with ts := d.ts ++ [(a, b, j)] }).fa⟩, ⟨.bool, ({ d with ts := d.ts ++ [(a, b, j)] }).de⟩] := by
  simp only [F109, Fof, ir109]; have hB : d.ts.length ≤ BIG := by unfold BIG; omega
  have hB2 : d.ts.length + 1 ≤ BIG := by unfold BIG; omega
  simp -implicitDefEqProofs [hB, hB2]
theorem s109 {lc : List Ct} (hl0 : Sx.look (lc.map fun c => (c.sig.id, c)) 109 = some c109) : ∀ (d : Rd) (a b : List Int) (j : Int) (h : d.ts.length ≤ 1000000), Does1 (Phi lc) 109 [⟨.int .i64, d.q⟩, ⟨.sl FlT, d.fs⟩, ⟨.sl MpT, d.sf⟩, ⟨.sl TnT, d.ts⟩, ⟨.int .i64, d.st⟩, ⟨.int .i64, d.fa⟩, ⟨.bool, d.de⟩, ⟨.str, a⟩, ⟨.str, b⟩, ⟨.int .i64, j⟩] [⟨.int .i64, ({ d with ts := d.ts ++ [(a, b, j)] }).q⟩, ⟨.sl FlT, ({ d with ts := d.ts ++ [(a, b, j)] }).fs⟩, ⟨.sl MpT, ({ d with ts := d.ts ++ [(a, b, j)] }).sf⟩, ⟨.sl TnT, ({ d with ts := d.ts ++ [(a, b, j)] }).ts⟩, ⟨.int .i64, ({ d with ts := d.ts ++ [(a, b, j)] }).st⟩, ⟨.int .i64, ({ d with ts := d.ts ++ [(a, b, j)] }).fa⟩, ⟨.bool, ({ d with ts := d.ts ++ [(a, b, j)] }).de⟩] :=
  fun d a b j h => by
    have eFc : c109.F = F109 := rfl
    have eFh := f109 d a b j h
    rw [← eFc] at eFh; exact Does1.of hl0 eFh rfl

theorem o_updF {Φ : Nat → Cont} {k : IR} {R : Type} {lv n : Nat} {ρ : List (Nat × D)} {kr : List D → Option R} {kj : Nat → List D → Option R} (xs : List FileD) (ki : IntKind) (i : Int) (b : List Int) (z : Int) :
    opD Φ (.upd FlT 0) [⟨.sl FlT, xs⟩, ⟨.int ki, i⟩, ⟨.sl (.int .u8), b⟩, ⟨.int .i64, z⟩] k R lv n ρ kr kj =
      if 0 ≤ i ∧ i < (xs.length : Int) then deb Φ k R lv (n + 1) ((n, ⟨.sl FlT, xs.set i.toNat (b, z)⟩) :: ρ) kr kj else none := by
  simp only [opD, evalPr, true_and]; rfl

theorem f110 (d : Rd) (j : Int) (b : List Int) (z : Int) (h : d.fs.length ≤ 2000000) (h1 : 0 ≤ j) (h2 : j < d.fs.length) : F110 [⟨.int .i64, d.q⟩, ⟨.sl FlT, d.fs⟩, ⟨.sl MpT, d.sf⟩, ⟨.sl TnT, d.ts⟩, ⟨.int .i64, d.st⟩, ⟨.int .i64, d.fa⟩, ⟨.bool, d.de⟩, ⟨.int .i64, j⟩, ⟨.sl (.int .u8), b⟩, ⟨.int .i64, z⟩] = some [⟨.int .i64, ({ d with fs := d.fs.set j.toNat (b, z) }).q⟩, ⟨.sl FlT, ({ d with fs := d.fs.set j.toNat (b, z) }).fs⟩, ⟨.sl MpT, ({ d with fs := d.fs.set j.toNat (b, z) }).sf⟩, ⟨.sl TnT, ({ d with fs := d.fs.set j.toNat (b, z) }).ts⟩, ⟨.int .i64, ({ d with fs := d.fs.set j.toNat (b, z) }).st⟩, ⟨.int .i64, ({ d with fs := d.fs.set j.toNat (b, z) }).fa⟩, ⟨.bool, ({ d with fs := d.fs.set j.toNat (b, z) }).de⟩] := by
  simp only [F110, Fof, ir110]; have hB : d.fs.length ≤ BIG := by unfold BIG; omega
  simp -implicitDefEqProofs [hB, h1, h2, o_updF]
theorem s110 {lc : List Ct} (hl0 : Sx.look (lc.map fun c => (c.sig.id, c)) 110 = some c110) : ∀ (d : Rd) (j : Int) (b : List Int) (z : Int) (h : d.fs.length ≤ 2000000) (h1 : 0 ≤ j) (h2 : j < d.fs.length), Does1 (Phi lc) 110 [⟨.int .i64, d.q⟩, ⟨.sl FlT, d.fs⟩, ⟨.sl MpT, d.sf⟩, ⟨.sl TnT, d.ts⟩, ⟨.int .i64, d.st⟩, ⟨.int .i64, d.fa⟩, ⟨.bool, d.de⟩, ⟨.int .i64, j⟩, ⟨.sl (.int .u8), b⟩, ⟨.int .i64, z⟩] [⟨.int .i64, ({ d with fs := d.fs.set j.toNat (b, z) }).q⟩, ⟨.sl FlT, ({ d with fs := d.fs.set j.toNat (b, z) }).fs⟩, ⟨.sl MpT, ({ d with fs := d.fs.set j.toNat (b, z) }).sf⟩, ⟨.sl TnT, ({ d with fs := d.fs.set j.toNat (b, z) }).ts⟩, ⟨.int .i64, ({ d with fs := d.fs.set j.toNat (b, z) }).st⟩, ⟨.int .i64, ({ d with fs := d.fs.set j.toNat (b, z) }).fa⟩, ⟨.bool, ({ d with fs := d.fs.set j.toNat (b, z) }).de⟩] :=
  fun d j b z h h1 h2 => by
    have eFc : c110.F = F110 := rfl
    have eFh := f110 d j b z h h1 h2
    rw [← eFc] at eFh; exact Does1.of hl0 eFh rfl
end Go.Proofs.Ytmglkddddpipgaa

namespace Go.Proofs.Ytmglkddddpipgaa
open Sx Go.RowKit
theorem mkD_file (a : List Int) (c : Int) : mkD FlT 1 [⟨.sl (.int .u8), a⟩, ⟨.int .i64, c⟩] = some ⟨.sl FlT, [(a, c)]⟩ := rfl
theorem ract_q (d : Rd) : d.act.1.q = d.q := rfl
theorem ract_fs (d : Rd) : d.act.1.fs = d.fs := rfl
theorem ract_sf (d : Rd) : d.act.1.sf = d.sf := rfl
theorem ract_ts (d : Rd) : d.act.1.ts = d.ts := rfl
attribute [local simp] mkD_name mkD_file ract_q ract_fs ract_sf ract_ts

theorem set_last {α : Type} (l : List α) (x y : α) : (l ++ [x]).set l.length y = l ++ [y] := by
  rw [List.set_append_right _ _ (Nat.le_refl _)]; simp

def appendR (d : Rd) (a b : List Int) : Rd × Int :=
  if d.de = true then (d, 9) else if mayB a = false then (d, 1) else if d.at a < 0 ∧ (5000 : Int) ≤ d.now.length then (d, 7) else if d.q < (d.used : Int) + b.length then (d, 7)
  else if d.act.2 = 0 then (if d.at a < 0 then (⟨d.q, d.fs ++ [(b, 0)], d.sf, d.ts ++ [(([] : List Int), a, (d.fs.length : Int))], d.act.1.st, d.act.1.fa, d.act.1.de⟩, 0)
    else (⟨d.q, d.fs.set (d.at a).toNat ((d.fl (d.at a)).1 ++ b, (d.fl (d.at a)).2), d.sf, d.ts, d.act.1.st, d.act.1.fa, d.act.1.de⟩, 0)) else d.act
def cutR (d : Rd) (a : List Int) (n : Int) : Rd × Int :=
  if d.de = true then (d, 9) else if d.at a < 0 then (d, 3) else if n < 0 ∨ n > (d.fl (d.at a)).1.length then (d, 1)
  else if d.act.2 = 0 then (⟨d.q, d.fs.set (d.at a).toNat ((d.fl (d.at a)).1.take n.toNat, min (d.fl (d.at a)).2 n), d.sf, d.ts, d.act.1.st, d.act.1.fa, d.act.1.de⟩, 0) else d.act
def syncR (d : Rd) (a : List Int) : Rd × Int :=
  if d.de = true then (d, 9) else if d.at a < 0 then (d, 3)
  else if d.act.2 = 0 then (⟨d.q, d.fs.set (d.at a).toNat ((d.fl (d.at a)).1, (d.fl (d.at a)).1.length), d.sf, d.ts, d.act.1.st, d.act.1.fa, d.act.1.de⟩, 0) else d.act
def syncNamesR (d : Rd) : Rd × Int :=
  if d.de = true then (d, 9) else if d.act.2 = 0 then (⟨d.q, d.fs, d.now, [], d.act.1.st, d.act.1.fa, d.act.1.de⟩, 0) else d.act
def renameR (d : Rd) (a b : List Int) : Rd × Int :=
  if d.de = true then (d, 9) else if mayB b = false then (d, 1) else if d.at a < 0 then (d, 3)
  else if d.act.2 = 0 then (if a = b then (d.act.1, 0) else (⟨d.q, d.fs, d.sf, d.ts ++ [(a, b, d.at a)], d.act.1.st, d.act.1.fa, d.act.1.de⟩, 0)) else d.act
def removeR (d : Rd) (a : List Int) : Rd × Int :=
  if d.de = true then (d, 9) else if d.at a < 0 then (d, 3)
  else if d.act.2 = 0 then (⟨d.q, d.fs, d.sf, d.ts ++ [(a, [], 0)], d.act.1.st, d.act.1.fa, d.act.1.de⟩, 0) else d.act

theorem Rok.at {d : Rd} (h : Rok d) (a : List Int) : d.at a = -1 ∨ (0 ≤ d.at a ∧ d.at a < d.fs.length) := by
  unfold Rd.at atL; cases hf : d.now.find? fun x => decide (x.1 = a) with
  | none => exact .inl rfl
  | some x =>
    have hm := List.mem_of_find?_eq_some hf
    have := h.nm d.ts.length x (by rw [List.take_length]; exact hm)
    exact .inr this
theorem Rok.fl {d : Rd} (h : Rok d) {i : Int} (h1 : 0 ≤ i) (h2 : i < d.fs.length) : d.fs[i.toNat]? = some (d.fl i) ∧ (d.fl i).1.length ≤ 4194304 ∧ 0 ≤ (d.fl i).2 ∧ (d.fl i).2 ≤ (d.fl i).1.length := by
  have hx : d.fs[i.toNat]? = some d.fs[i.toNat] := List.getElem?_eq_getElem (by omega)
  have e : d.fl i = d.fs[i.toNat] := by unfold Rd.fl; rw [List.getD_eq_getElem?_getD, hx]; rfl
  rw [e]; exact ⟨hx, h.b _ (List.getElem_mem _)⟩
theorem Rok.count {d : Rd} (h : Rok d) {st fa : Int} {de : Bool} (h1 : -1 ≤ st) (h2 : st < 9223372036854775808) (h3 : 0 ≤ fa) (h4 : fa < 9223372036854775808) : Rok ⟨d.q, d.fs, d.sf, d.ts, st, fa, de⟩ :=
  ⟨h.f, h.t, h.s, h.b, h1, h2, h3, h4, h.q1, h.q2, h.nm⟩
theorem Rok.act {d : Rd} (h : Rok d) : Rok ⟨d.q, d.fs, d.sf, d.ts, d.act.1.st, d.act.1.fa, d.act.1.de⟩ := by
  have a1 := h.st1; have a2 := h.st2; have a3 := h.fa1; have a4 := h.fa2
  refine h.count ?_ ?_ ?_ ?_
  all_goals
    unfold Rd.act actM
    repeat' split
    all_goals (simp only; omega)

theorem f80 (d : Rd) (a b : List Int) (h : Rok d) (hb : b.length ≤ 4194304) : F80 [⟨.int .i64, d.q⟩, ⟨.sl FlT, d.fs⟩, ⟨.sl MpT, d.sf⟩, ⟨.sl TnT, d.ts⟩, ⟨.int .i64, d.st⟩, ⟨.int .i64, d.fa⟩, ⟨.bool, d.de⟩, ⟨.str, a⟩, ⟨.sl (.int .u8), b⟩] = some [⟨.int .i64, ((appendR d a b).1).q⟩, ⟨.sl FlT, ((appendR d a b).1).fs⟩, ⟨.sl MpT, ((appendR d a b).1).sf⟩, ⟨.sl TnT, ((appendR d a b).1).ts⟩, ⟨.int .i64, ((appendR d a b).1).st⟩, ⟨.int .i64, ((appendR d a b).1).fa⟩, ⟨.bool, ((appendR d a b).1).de⟩, ⟨.int .i64, (appendR d a b).2⟩] := by
  have h105 := s105 (lc := [c105, c106, c107, c108, c109, c110]) rfl
  have h106 := s106 (lc := [c105, c106, c107, c108, c109, c110]) rfl
  have h107 := s107 (lc := [c105, c106, c107, c108, c109, c110]) rfl
  have h108 := s108 (lc := [c105, c106, c107, c108, c109, c110]) rfl
  have h109 := s109 (lc := [c105, c106, c107, c108, c109, c110]) rfl
  have h110 := s110 (lc := [c105, c106, c107, c108, c109, c110]) rfl
  simp only [F80, Fof, ir80]; generalize Phi [c105, c106, c107, c108, c109, c110] = Φ at *
  have g105 := h105 d a h
  have g106 := h106 d h
  have g107 := h107 d h
  have g108 : Does1 Φ 108 [⟨.int .i64, d.q⟩, ⟨.sl FlT, d.fs⟩, ⟨.sl MpT, d.sf⟩, ⟨.sl TnT, d.ts⟩, ⟨.int .i64, d.st⟩, ⟨.int .i64, d.fa⟩, ⟨.bool, d.de⟩] [⟨.int .i64, d.q⟩, ⟨.sl FlT, d.fs⟩, ⟨.sl MpT, d.sf⟩, ⟨.sl TnT, d.ts⟩, ⟨.int .i64, d.act.1.st⟩, ⟨.int .i64, d.act.1.fa⟩, ⟨.bool, d.act.1.de⟩, ⟨.int .i64, d.act.2⟩] := h108 d h
  have hf := h.f
  have ht := h.t
  have hB1 : d.fs.length ≤ BIG := by unfold BIG; omega
  have hB2 : d.fs.length + 1 ≤ BIG := by unfold BIG; omega
  have hB3 : b.length ≤ BIG := by unfold BIG; omega
  have hlt : (d.fs.length : Int) < (d.fs.length : Int) + 1 := by omega
  have hsum : (d.used : Int) ≤ 1000000 * 4194304 := by
    have : ∀ (l : List Nat), (∀ j ∈ l, j < d.fs.length) → (l.map fun (j : Nat) => if d.th (j : Int) = true then (d.fs.getD j ([], 0)).1.length else 0).sum ≤ l.length * 4194304 := by
      intro l hl; induction l with
      | nil => simp
      | cons j l ih =>
        have h1 := ih fun k hk => hl k (by simp [hk])
        have h2 := hl j (by simp)
        have h3 : (d.fs.getD j ([], 0)).1.length ≤ 4194304 := by
          rw [List.getD_eq_getElem?_getD, List.getElem?_eq_getElem h2]; exact (h.b _ (List.getElem_mem _)).1
        rw [List.map_cons, List.sum_cons, List.length_cons]; split <;> omega
    have h1 := this (List.range d.fs.length) fun j hj => List.mem_range.1 hj
    rw [List.length_range] at h1; have h2 : d.fs.length * 4194304 ≤ 1000000 * 4194304 := Nat.mul_le_mul_right _ hf
    have h3 : d.used ≤ d.fs.length * 4194304 := h1
    omega
  have wu : IntKind.i64.wrap ((d.used : Int) + b.length) = (d.used : Int) + b.length := wi64 _ (by omega) (by omega)
  cases hd : d.de with
  | true =>
    rw [hd] at g105; simp -implicitDefEqProofs [g105, hd, appendR]
  | false =>
  rw [hd] at g105 g106 g107 g108; by_cases ha : a = []
  · subst ha; simp -implicitDefEqProofs [g105, hd, appendR, mayB]
  by_cases ha2 : (a.length : Int) > 16
  · have hm : mayB a = false := by unfold mayB; rw [if_neg ha]; simp; omega
    simp -implicitDefEqProofs [g105, hd, appendR, hm, ha, ha2]
  have hm : mayB a = true := by unfold mayB; rw [if_neg ha]; simp; omega
  rcases h.at a with hat | ⟨hat1, hat2⟩
  · rw [hat] at g105; by_cases h5 : (d.now.length : Int) ≥ 5000
    · have h5' : (5000 : Int) ≤ d.now.length := h5
      simp -implicitDefEqProofs [g105, hd, appendR, hm, ha, ha2, hat, g106, h5, h5']
    · have h5' : ¬ (5000 : Int) ≤ d.now.length := h5
      by_cases hq : (d.used : Int) + b.length > d.q
      · have hq' : d.q < (d.used : Int) + b.length := hq
        simp -implicitDefEqProofs [g105, hd, appendR, hm, ha, ha2, hat, g106, g107, h5, h5', hq, hq', wu]
      · have hq' : ¬ d.q < (d.used : Int) + b.length := hq
        by_cases he : d.act.2 = 0
        · have g109 : Does1 Φ 109 [⟨.int .i64, d.q⟩, ⟨.sl FlT, d.fs ++ [([], 0)]⟩, ⟨.sl MpT, d.sf⟩, ⟨.sl TnT, d.ts⟩, ⟨.int .i64, d.act.1.st⟩, ⟨.int .i64, d.act.1.fa⟩, ⟨.bool, d.act.1.de⟩, ⟨.str, []⟩, ⟨.str, a⟩, ⟨.int .i64, (d.fs.length : Int)⟩]
            [⟨.int .i64, d.q⟩, ⟨.sl FlT, d.fs ++ [([], 0)]⟩, ⟨.sl MpT, d.sf⟩, ⟨.sl TnT, d.ts ++ [([], a, (d.fs.length : Int))]⟩, ⟨.int .i64, d.act.1.st⟩, ⟨.int .i64, d.act.1.fa⟩, ⟨.bool, d.act.1.de⟩] := h109 ⟨d.q, d.fs ++ [([], 0)], d.sf, d.ts, d.act.1.st, d.act.1.fa, d.act.1.de⟩ [] a d.fs.length ht
          have g110 : Does1 Φ 110 [⟨.int .i64, d.q⟩, ⟨.sl FlT, d.fs ++ [([], 0)]⟩, ⟨.sl MpT, d.sf⟩, ⟨.sl TnT, d.ts ++ [([], a, (d.fs.length : Int))]⟩, ⟨.int .i64, d.act.1.st⟩, ⟨.int .i64, d.act.1.fa⟩, ⟨.bool, d.act.1.de⟩, ⟨.int .i64, (d.fs.length : Int)⟩, ⟨.sl (.int .u8), b⟩, ⟨.int .i64, (0 : Int)⟩]
            [⟨.int .i64, d.q⟩, ⟨.sl FlT, d.fs ++ [(b, 0)]⟩, ⟨.sl MpT, d.sf⟩, ⟨.sl TnT, d.ts ++ [([], a, (d.fs.length : Int))]⟩, ⟨.int .i64, d.act.1.st⟩, ⟨.int .i64, d.act.1.fa⟩, ⟨.bool, d.act.1.de⟩] := by
            have := h110 ⟨d.q, d.fs ++ [([], 0)], d.sf, d.ts ++ [([], a, (d.fs.length : Int))], d.act.1.st, d.act.1.fa, d.act.1.de⟩ d.fs.length b 0 (by show (d.fs ++ [_]).length ≤ _; rw [List.length_append, List.length_singleton]; omega) (by omega) (by show (d.fs.length : Int) < ((d.fs ++ [_]).length : Nat); rw [List.length_append, List.length_singleton]; omega)
            simp only [Int.toNat_natCast, set_last] at this; exact this
          simp -implicitDefEqProofs [g105, hd, appendR, hm, ha, ha2, hat, g106, g107, g108, g109, g110, h5, h5', hq, hq', wu, he, hB1, hB2, hB3, hlt]
        · simp -implicitDefEqProofs [g105, hd, appendR, hm, ha, ha2, hat, g106, g107, g108, h5, h5', hq, hq', wu, he]
  · obtain ⟨k1, k2, k3, k4⟩ := h.fl hat1 hat2; obtain ⟨_, k1'⟩ := List.getElem?_eq_some_iff.1 k1
    have hneg : ¬ d.at a < 0 := by omega
    have hB4 : (d.fl (d.at a)).1.length ≤ BIG := by unfold BIG; omega
    have hB5 : (d.fl (d.at a)).1.length + b.length ≤ BIG := by unfold BIG; omega
    by_cases hq : (d.used : Int) + b.length > d.q
    · have hq' : d.q < (d.used : Int) + b.length := hq
      simp -implicitDefEqProofs [g105, hd, appendR, hm, ha, ha2, hneg, g107, hq, hq', wu]
    · have hq' : ¬ d.q < (d.used : Int) + b.length := hq
      by_cases he : d.act.2 = 0
      · have g110 : Does1 Φ 110 [⟨.int .i64, d.q⟩, ⟨.sl FlT, d.fs⟩, ⟨.sl MpT, d.sf⟩, ⟨.sl TnT, d.ts⟩, ⟨.int .i64, d.act.1.st⟩, ⟨.int .i64, d.act.1.fa⟩, ⟨.bool, d.act.1.de⟩, ⟨.int .i64, d.at a⟩, ⟨.sl (.int .u8), (d.fl (d.at a)).1 ++ b⟩, ⟨.int .i64, (d.fl (d.at a)).2⟩]
            [⟨.int .i64, d.q⟩, ⟨.sl FlT, d.fs.set (d.at a).toNat ((d.fl (d.at a)).1 ++ b, (d.fl (d.at a)).2)⟩, ⟨.sl MpT, d.sf⟩, ⟨.sl TnT, d.ts⟩, ⟨.int .i64, d.act.1.st⟩, ⟨.int .i64, d.act.1.fa⟩, ⟨.bool, d.act.1.de⟩] := h110 ⟨d.q, d.fs, d.sf, d.ts, d.act.1.st, d.act.1.fa, d.act.1.de⟩ (d.at a) _ _ (by show d.fs.length ≤ _; omega) hat1 hat2
        simp -implicitDefEqProofs [g105, hd, appendR, hm, ha, ha2, hneg, hat1, hat2, k1, k1', g107, g108, g110, hq, hq', wu, he, hB4, hB5]
      · simp -implicitDefEqProofs [g105, hd, appendR, hm, ha, ha2, hneg, g107, g108, hq, hq', wu, he]
theorem s80 {lc : List Ct} (hl0 : Sx.look (lc.map fun c => (c.sig.id, c)) 80 = some c80) : ∀ (d : Rd) (a b : List Int) (h : Rok d) (hb : b.length ≤ 4194304), Does1 (Phi lc) 80 [⟨.int .i64, d.q⟩, ⟨.sl FlT, d.fs⟩, ⟨.sl MpT, d.sf⟩, ⟨.sl TnT, d.ts⟩, ⟨.int .i64, d.st⟩, ⟨.int .i64, d.fa⟩, ⟨.bool, d.de⟩, ⟨.str, a⟩, ⟨.sl (.int .u8), b⟩] [⟨.int .i64, ((appendR d a b).1).q⟩, ⟨.sl FlT, ((appendR d a b).1).fs⟩, ⟨.sl MpT, ((appendR d a b).1).sf⟩, ⟨.sl TnT, ((appendR d a b).1).ts⟩, ⟨.int .i64, ((appendR d a b).1).st⟩, ⟨.int .i64, ((appendR d a b).1).fa⟩, ⟨.bool, ((appendR d a b).1).de⟩, ⟨.int .i64, (appendR d a b).2⟩] :=
  fun d a b h hb => by
    have eFc : c80.F = F80 := rfl
    have eFh := f80 d a b h hb
    rw [← eFc] at eFh; exact Does1.of hl0 eFh rfl
end Go.Proofs.Ytmglkddddpipgaa

namespace Go.Proofs.Ytmglkddddpipgaa
open Sx Go.RowKit
attribute [local simp] mkD_name mkD_file ract_q ract_fs ract_sf ract_ts

theorem f81 (d : Rd) (a : List Int) (n : Int) (h : Rok d) : F81 [⟨.int .i64, d.q⟩, ⟨.sl FlT, d.fs⟩, ⟨.sl MpT, d.sf⟩, ⟨.sl TnT, d.ts⟩, ⟨.int .i64, d.st⟩, ⟨.int .i64, d.fa⟩, ⟨.bool, d.de⟩, ⟨.str, a⟩, ⟨.int .i64, n⟩] = some [⟨.int .i64, ((cutR d a n).1).q⟩, ⟨.sl FlT, ((cutR d a n).1).fs⟩, ⟨.sl MpT, ((cutR d a n).1).sf⟩, ⟨.sl TnT, ((cutR d a n).1).ts⟩, ⟨.int .i64, ((cutR d a n).1).st⟩, ⟨.int .i64, ((cutR d a n).1).fa⟩, ⟨.bool, ((cutR d a n).1).de⟩, ⟨.int .i64, (cutR d a n).2⟩] := by
  have h105 := s105 (lc := [c105, c108, c110]) rfl
  have h108 := s108 (lc := [c105, c108, c110]) rfl
  have h110 := s110 (lc := [c105, c108, c110]) rfl
  simp only [F81, Fof, ir81]; generalize Phi [c105, c108, c110] = Φ at *
  have g105 := h105 d a h
  have g108 : Does1 Φ 108 [⟨.int .i64, d.q⟩, ⟨.sl FlT, d.fs⟩, ⟨.sl MpT, d.sf⟩, ⟨.sl TnT, d.ts⟩, ⟨.int .i64, d.st⟩, ⟨.int .i64, d.fa⟩, ⟨.bool, d.de⟩] [⟨.int .i64, d.q⟩, ⟨.sl FlT, d.fs⟩, ⟨.sl MpT, d.sf⟩, ⟨.sl TnT, d.ts⟩, ⟨.int .i64, d.act.1.st⟩, ⟨.int .i64, d.act.1.fa⟩, ⟨.bool, d.act.1.de⟩, ⟨.int .i64, d.act.2⟩] := h108 d h
  have hf := h.f
  cases hd : d.de with
  | true =>
    rw [hd] at g105; simp -implicitDefEqProofs [g105, hd, cutR]
  | false =>
  rw [hd] at g105 g108; rcases h.at a with hat | ⟨hat1, hat2⟩
  · rw [hat] at g105; simp -implicitDefEqProofs [g105, hd, cutR, hat]
  · obtain ⟨k1, k2, k3, k4⟩ := h.fl hat1 hat2; obtain ⟨_, k1'⟩ := List.getElem?_eq_some_iff.1 k1
    have hneg : ¬ d.at a < 0 := by omega
    by_cases n1 : n < 0
    · simp -implicitDefEqProofs [g105, hd, cutR, hneg, hat1, hat2, k1, k1', n1]
    by_cases n2 : n > (d.fl (d.at a)).1.length
    · simp -implicitDefEqProofs [g105, hd, cutR, hneg, hat1, hat2, k1, k1', n1, n2]
    by_cases he : d.act.2 = 0
    · have n3 : 0 ≤ n := by omega
      have n4 : n ≤ (d.fl (d.at a)).1.length := by omega
      have hB : n.toNat ≤ BIG := by unfold BIG; omega
      have hmin : min n.toNat (d.fl (d.at a)).1.length = n.toNat := by omega
      by_cases n5 : (d.fl (d.at a)).2 > n
      · have e : min (d.fl (d.at a)).2 n = n := by omega
        have g110 : Does1 Φ 110 [⟨.int .i64, d.q⟩, ⟨.sl FlT, d.fs⟩, ⟨.sl MpT, d.sf⟩, ⟨.sl TnT, d.ts⟩, ⟨.int .i64, d.act.1.st⟩, ⟨.int .i64, d.act.1.fa⟩, ⟨.bool, d.act.1.de⟩, ⟨.int .i64, d.at a⟩, ⟨.sl (.int .u8), (d.fl (d.at a)).1.take n.toNat⟩, ⟨.int .i64, n⟩]
            [⟨.int .i64, d.q⟩, ⟨.sl FlT, d.fs.set (d.at a).toNat ((d.fl (d.at a)).1.take n.toNat, n)⟩, ⟨.sl MpT, d.sf⟩, ⟨.sl TnT, d.ts⟩, ⟨.int .i64, d.act.1.st⟩, ⟨.int .i64, d.act.1.fa⟩, ⟨.bool, d.act.1.de⟩] := h110 ⟨d.q, d.fs, d.sf, d.ts, d.act.1.st, d.act.1.fa, d.act.1.de⟩ (d.at a) _ _ (by show d.fs.length ≤ _; omega) hat1 hat2
        simp -implicitDefEqProofs [g105, hd, cutR, hneg, hat1, hat2, k1, k1', n1, n2, n3, n4, n5, g108, g110, he, hB, hmin, e]
      · have e : min (d.fl (d.at a)).2 n = (d.fl (d.at a)).2 := by omega
        have g110 : Does1 Φ 110 [⟨.int .i64, d.q⟩, ⟨.sl FlT, d.fs⟩, ⟨.sl MpT, d.sf⟩, ⟨.sl TnT, d.ts⟩, ⟨.int .i64, d.act.1.st⟩, ⟨.int .i64, d.act.1.fa⟩, ⟨.bool, d.act.1.de⟩, ⟨.int .i64, d.at a⟩, ⟨.sl (.int .u8), (d.fl (d.at a)).1.take n.toNat⟩, ⟨.int .i64, (d.fl (d.at a)).2⟩]
            [⟨.int .i64, d.q⟩, ⟨.sl FlT, d.fs.set (d.at a).toNat ((d.fl (d.at a)).1.take n.toNat, (d.fl (d.at a)).2)⟩, ⟨.sl MpT, d.sf⟩, ⟨.sl TnT, d.ts⟩, ⟨.int .i64, d.act.1.st⟩, ⟨.int .i64, d.act.1.fa⟩, ⟨.bool, d.act.1.de⟩] := h110 ⟨d.q, d.fs, d.sf, d.ts, d.act.1.st, d.act.1.fa, d.act.1.de⟩ (d.at a) _ _ (by show d.fs.length ≤ _; omega) hat1 hat2
        simp -implicitDefEqProofs [g105, hd, cutR, hneg, hat1, hat2, k1, k1', n1, n2, n3, n4, n5, g108, g110, he, hB, hmin, e]
    · simp -implicitDefEqProofs [g105, hd, cutR, hneg, hat1, hat2, k1, k1', n1, n2, g108, he]
theorem s81 {lc : List Ct} (hl0 : Sx.look (lc.map fun c => (c.sig.id, c)) 81 = some c81) : ∀ (d : Rd) (a : List Int) (n : Int) (h : Rok d), Does1 (Phi lc) 81 [⟨.int .i64, d.q⟩, ⟨.sl FlT, d.fs⟩, ⟨.sl MpT, d.sf⟩, ⟨.sl TnT, d.ts⟩, ⟨.int .i64, d.st⟩, ⟨.int .i64, d.fa⟩, ⟨.bool, d.de⟩, ⟨.str, a⟩, ⟨.int .i64, n⟩] [⟨.int .i64, ((cutR d a n).1).q⟩, ⟨.sl FlT, ((cutR d a n).1).fs⟩, ⟨.sl MpT, ((cutR d a n).1).sf⟩, ⟨.sl TnT, ((cutR d a n).1).ts⟩, ⟨.int .i64, ((cutR d a n).1).st⟩, ⟨.int .i64, ((cutR d a n).1).fa⟩, ⟨.bool, ((cutR d a n).1).de⟩, ⟨.int .i64, (cutR d a n).2⟩] :=
  fun d a n h => by
    have eFc : c81.F = F81 := rfl
    have eFh := f81 d a n h
    rw [← eFc] at eFh; exact Does1.of hl0 eFh rfl

theorem f82 (d : Rd) (a : List Int) (h : Rok d) : F82 [⟨.int .i64, d.q⟩, ⟨.sl FlT, d.fs⟩, ⟨.sl MpT, d.sf⟩, ⟨.sl TnT, d.ts⟩, ⟨.int .i64, d.st⟩, ⟨.int .i64, d.fa⟩, ⟨.bool, d.de⟩, ⟨.str, a⟩] = some [⟨.int .i64, ((syncR d a).1).q⟩, ⟨.sl FlT, ((syncR d a).1).fs⟩, ⟨.sl MpT, ((syncR d a).1).sf⟩, ⟨.sl TnT, ((syncR d a).1).ts⟩, ⟨.int .i64, ((syncR d a).1).st⟩, ⟨.int .i64, ((syncR d a).1).fa⟩, ⟨.bool, ((syncR d a).1).de⟩, ⟨.int .i64, (syncR d a).2⟩] := by
  have h105 := s105 (lc := [c105, c108, c110]) rfl
  have h108 := s108 (lc := [c105, c108, c110]) rfl
  have h110 := s110 (lc := [c105, c108, c110]) rfl
  simp only [F82, Fof, ir82]; generalize Phi [c105, c108, c110] = Φ at *
  have g105 := h105 d a h
  have g108 : Does1 Φ 108 [⟨.int .i64, d.q⟩, ⟨.sl FlT, d.fs⟩, ⟨.sl MpT, d.sf⟩, ⟨.sl TnT, d.ts⟩, ⟨.int .i64, d.st⟩, ⟨.int .i64, d.fa⟩, ⟨.bool, d.de⟩] [⟨.int .i64, d.q⟩, ⟨.sl FlT, d.fs⟩, ⟨.sl MpT, d.sf⟩, ⟨.sl TnT, d.ts⟩, ⟨.int .i64, d.act.1.st⟩, ⟨.int .i64, d.act.1.fa⟩, ⟨.bool, d.act.1.de⟩, ⟨.int .i64, d.act.2⟩] := h108 d h
  have hf := h.f
  cases hd : d.de with
  | true =>
    rw [hd] at g105; simp -implicitDefEqProofs [g105, hd, syncR]
  | false =>
  rw [hd] at g105 g108; rcases h.at a with hat | ⟨hat1, hat2⟩
  · rw [hat] at g105; simp -implicitDefEqProofs [g105, hd, syncR, hat]
  · obtain ⟨k1, k2, k3, k4⟩ := h.fl hat1 hat2; obtain ⟨_, k1'⟩ := List.getElem?_eq_some_iff.1 k1
    have hneg : ¬ d.at a < 0 := by omega
    by_cases he : d.act.2 = 0
    · have g110 : Does1 Φ 110 [⟨.int .i64, d.q⟩, ⟨.sl FlT, d.fs⟩, ⟨.sl MpT, d.sf⟩, ⟨.sl TnT, d.ts⟩, ⟨.int .i64, d.act.1.st⟩, ⟨.int .i64, d.act.1.fa⟩, ⟨.bool, d.act.1.de⟩, ⟨.int .i64, d.at a⟩, ⟨.sl (.int .u8), (d.fl (d.at a)).1⟩, ⟨.int .i64, ((d.fl (d.at a)).1.length : Int)⟩]
            [⟨.int .i64, d.q⟩, ⟨.sl FlT, d.fs.set (d.at a).toNat ((d.fl (d.at a)).1, ((d.fl (d.at a)).1.length : Int))⟩, ⟨.sl MpT, d.sf⟩, ⟨.sl TnT, d.ts⟩, ⟨.int .i64, d.act.1.st⟩, ⟨.int .i64, d.act.1.fa⟩, ⟨.bool, d.act.1.de⟩] := h110 ⟨d.q, d.fs, d.sf, d.ts, d.act.1.st, d.act.1.fa, d.act.1.de⟩ (d.at a) _ _ (by show d.fs.length ≤ _; omega) hat1 hat2
      simp -implicitDefEqProofs [g105, hd, syncR, hneg, hat1, hat2, k1, k1', g108, g110, he]
    · simp -implicitDefEqProofs [g105, hd, syncR, hneg, g108, he]
theorem s82 {lc : List Ct} (hl0 : Sx.look (lc.map fun c => (c.sig.id, c)) 82 = some c82) : ∀ (d : Rd) (a : List Int) (h : Rok d), Does1 (Phi lc) 82 [⟨.int .i64, d.q⟩, ⟨.sl FlT, d.fs⟩, ⟨.sl MpT, d.sf⟩, ⟨.sl TnT, d.ts⟩, ⟨.int .i64, d.st⟩, ⟨.int .i64, d.fa⟩, ⟨.bool, d.de⟩, ⟨.str, a⟩] [⟨.int .i64, ((syncR d a).1).q⟩, ⟨.sl FlT, ((syncR d a).1).fs⟩, ⟨.sl MpT, ((syncR d a).1).sf⟩, ⟨.sl TnT, ((syncR d a).1).ts⟩, ⟨.int .i64, ((syncR d a).1).st⟩, ⟨.int .i64, ((syncR d a).1).fa⟩, ⟨.bool, ((syncR d a).1).de⟩, ⟨.int .i64, (syncR d a).2⟩] :=
  fun d a h => by
    have eFc : c82.F = F82 := rfl
    have eFh := f82 d a h
    rw [← eFc] at eFh; exact Does1.of hl0 eFh rfl

theorem f83 (d : Rd) (h : Rok d) : F83 [⟨.int .i64, d.q⟩, ⟨.sl FlT, d.fs⟩, ⟨.sl MpT, d.sf⟩, ⟨.sl TnT, d.ts⟩, ⟨.int .i64, d.st⟩, ⟨.int .i64, d.fa⟩, ⟨.bool, d.de⟩] = some [⟨.int .i64, ((syncNamesR d).1).q⟩, ⟨.sl FlT, ((syncNamesR d).1).fs⟩, ⟨.sl MpT, ((syncNamesR d).1).sf⟩, ⟨.sl TnT, ((syncNamesR d).1).ts⟩, ⟨.int .i64, ((syncNamesR d).1).st⟩, ⟨.int .i64, ((syncNamesR d).1).fa⟩, ⟨.bool, ((syncNamesR d).1).de⟩, ⟨.int .i64, (syncNamesR d).2⟩] := by
  have h108 := s108 (lc := [c108, c106]) rfl
  have h106 := s106 (lc := [c108, c106]) rfl
  simp only [F83, Fof, ir83]; generalize Phi [c108, c106] = Φ at *
  have g106 : Does1 Φ 106 [⟨.int .i64, d.q⟩, ⟨.sl FlT, d.fs⟩, ⟨.sl MpT, d.sf⟩, ⟨.sl TnT, d.ts⟩, ⟨.int .i64, d.act.1.st⟩, ⟨.int .i64, d.act.1.fa⟩, ⟨.bool, d.act.1.de⟩] [⟨.sl MpT, d.now⟩] := h106 ⟨d.q, d.fs, d.sf, d.ts, d.act.1.st, d.act.1.fa, d.act.1.de⟩ h.act
  have g108 : Does1 Φ 108 [⟨.int .i64, d.q⟩, ⟨.sl FlT, d.fs⟩, ⟨.sl MpT, d.sf⟩, ⟨.sl TnT, d.ts⟩, ⟨.int .i64, d.st⟩, ⟨.int .i64, d.fa⟩, ⟨.bool, d.de⟩] [⟨.int .i64, d.q⟩, ⟨.sl FlT, d.fs⟩, ⟨.sl MpT, d.sf⟩, ⟨.sl TnT, d.ts⟩, ⟨.int .i64, d.act.1.st⟩, ⟨.int .i64, d.act.1.fa⟩, ⟨.bool, d.act.1.de⟩, ⟨.int .i64, d.act.2⟩] := h108 d h
  cases hd : d.de with
  | true => simp -implicitDefEqProofs [hd, syncNamesR]
  | false =>
  rw [hd] at g108; by_cases he : d.act.2 = 0
  · simp -implicitDefEqProofs [hd, syncNamesR, g106, g108, he]
  · simp -implicitDefEqProofs [hd, syncNamesR, g108, he]
theorem s83 {lc : List Ct} (hl0 : Sx.look (lc.map fun c => (c.sig.id, c)) 83 = some c83) : ∀ (d : Rd) (h : Rok d), Does1 (Phi lc) 83 [⟨.int .i64, d.q⟩, ⟨.sl FlT, d.fs⟩, ⟨.sl MpT, d.sf⟩, ⟨.sl TnT, d.ts⟩, ⟨.int .i64, d.st⟩, ⟨.int .i64, d.fa⟩, ⟨.bool, d.de⟩] [⟨.int .i64, ((syncNamesR d).1).q⟩, ⟨.sl FlT, ((syncNamesR d).1).fs⟩, ⟨.sl MpT, ((syncNamesR d).1).sf⟩, ⟨.sl TnT, ((syncNamesR d).1).ts⟩, ⟨.int .i64, ((syncNamesR d).1).st⟩, ⟨.int .i64, ((syncNamesR d).1).fa⟩, ⟨.bool, ((syncNamesR d).1).de⟩, ⟨.int .i64, (syncNamesR d).2⟩] :=
  fun d h => by
    have eFc : c83.F = F83 := rfl
    have eFh := f83 d h
    rw [← eFc] at eFh; exact Does1.of hl0 eFh rfl

theorem f84 (d : Rd) (a b : List Int) (h : Rok d) : F84 [⟨.int .i64, d.q⟩, ⟨.sl FlT, d.fs⟩, ⟨.sl MpT, d.sf⟩, ⟨.sl TnT, d.ts⟩, ⟨.int .i64, d.st⟩, ⟨.int .i64, d.fa⟩, ⟨.bool, d.de⟩, ⟨.str, a⟩, ⟨.str, b⟩] = some [⟨.int .i64, ((renameR d a b).1).q⟩, ⟨.sl FlT, ((renameR d a b).1).fs⟩, ⟨.sl MpT, ((renameR d a b).1).sf⟩, ⟨.sl TnT, ((renameR d a b).1).ts⟩, ⟨.int .i64, ((renameR d a b).1).st⟩, ⟨.int .i64, ((renameR d a b).1).fa⟩, ⟨.bool, ((renameR d a b).1).de⟩, ⟨.int .i64, (renameR d a b).2⟩] := by
  have h105 := s105 (lc := [c105, c108, c109]) rfl
  have h108 := s108 (lc := [c105, c108, c109]) rfl
  have h109 := s109 (lc := [c105, c108, c109]) rfl
  simp only [F84, Fof, ir84]; generalize Phi [c105, c108, c109] = Φ at *
  have g105 := h105 d a h
  have g108 : Does1 Φ 108 [⟨.int .i64, d.q⟩, ⟨.sl FlT, d.fs⟩, ⟨.sl MpT, d.sf⟩, ⟨.sl TnT, d.ts⟩, ⟨.int .i64, d.st⟩, ⟨.int .i64, d.fa⟩, ⟨.bool, d.de⟩] [⟨.int .i64, d.q⟩, ⟨.sl FlT, d.fs⟩, ⟨.sl MpT, d.sf⟩, ⟨.sl TnT, d.ts⟩, ⟨.int .i64, d.act.1.st⟩, ⟨.int .i64, d.act.1.fa⟩, ⟨.bool, d.act.1.de⟩, ⟨.int .i64, d.act.2⟩] := h108 d h
  have ht := h.t
  cases hd : d.de with
  | true =>
    rw [hd] at g105; simp -implicitDefEqProofs [g105, hd, renameR]
  | false =>
  rw [hd] at g105 g108; by_cases ha : b = []
  · subst ha; simp -implicitDefEqProofs [g105, hd, renameR, mayB]
  by_cases ha2 : (b.length : Int) > 16
  · have hm : mayB b = false := by unfold mayB; rw [if_neg ha]; simp; omega
    simp -implicitDefEqProofs [g105, hd, renameR, hm, ha, ha2]
  have hm : mayB b = true := by unfold mayB; rw [if_neg ha]; simp; omega
  rcases h.at a with hat | ⟨hat1, hat2⟩
  · rw [hat] at g105; simp -implicitDefEqProofs [g105, hd, renameR, hat, hm, ha, ha2]
  · have hneg : ¬ d.at a < 0 := by omega
    have g109 : Does1 Φ 109 [⟨.int .i64, d.q⟩, ⟨.sl FlT, d.fs⟩, ⟨.sl MpT, d.sf⟩, ⟨.sl TnT, d.ts⟩, ⟨.int .i64, d.act.1.st⟩, ⟨.int .i64, d.act.1.fa⟩, ⟨.bool, d.act.1.de⟩, ⟨.str, a⟩, ⟨.str, b⟩, ⟨.int .i64, d.at a⟩]
            [⟨.int .i64, d.q⟩, ⟨.sl FlT, d.fs⟩, ⟨.sl MpT, d.sf⟩, ⟨.sl TnT, d.ts ++ [(a, b, d.at a)]⟩, ⟨.int .i64, d.act.1.st⟩, ⟨.int .i64, d.act.1.fa⟩, ⟨.bool, d.act.1.de⟩] := h109 ⟨d.q, d.fs, d.sf, d.ts, d.act.1.st, d.act.1.fa, d.act.1.de⟩ a b (d.at a) ht
    by_cases he : d.act.2 = 0
    · by_cases hab : a = b
      · subst hab; simp -implicitDefEqProofs [g105, hd, renameR, hneg, hm, ha, ha2, g108, he]
      · simp -implicitDefEqProofs [g105, hd, renameR, hneg, hm, ha, ha2, g108, g109, he, hab]
    · simp -implicitDefEqProofs [g105, hd, renameR, hneg, hm, ha, ha2, g108, he]
theorem s84 {lc : List Ct} (hl0 : Sx.look (lc.map fun c => (c.sig.id, c)) 84 = some c84) : ∀ (d : Rd) (a b : List Int) (h : Rok d), Does1 (Phi lc) 84 [⟨.int .i64, d.q⟩, ⟨.sl FlT, d.fs⟩, ⟨.sl MpT, d.sf⟩, ⟨.sl TnT, d.ts⟩, ⟨.int .i64, d.st⟩, ⟨.int .i64, d.fa⟩, ⟨.bool, d.de⟩, ⟨.str, a⟩, ⟨.str, b⟩] [⟨.int .i64, ((renameR d a b).1).q⟩, ⟨.sl FlT, ((renameR d a b).1).fs⟩, ⟨.sl MpT, ((renameR d a b).1).sf⟩, ⟨.sl TnT, ((renameR d a b).1).ts⟩, ⟨.int .i64, ((renameR d a b).1).st⟩, ⟨.int .i64, ((renameR d a b).1).fa⟩, ⟨.bool, ((renameR d a b).1).de⟩, ⟨.int .i64, (renameR d a b).2⟩] :=
  fun d a b h => by
    have eFc : c84.F = F84 := rfl
    have eFh := f84 d a b h
    rw [← eFc] at eFh; exact Does1.of hl0 eFh rfl

theorem f85 (d : Rd) (a : List Int) (h : Rok d) : F85 [⟨.int .i64, d.q⟩, ⟨.sl FlT, d.fs⟩, ⟨.sl MpT, d.sf⟩, ⟨.sl TnT, d.ts⟩, ⟨.int .i64, d.st⟩, ⟨.int .i64, d.fa⟩, ⟨.bool, d.de⟩, ⟨.str, a⟩] = some [⟨.int .i64, ((removeR d a).1).q⟩, ⟨.sl FlT, ((removeR d a).1).fs⟩, ⟨.sl MpT, ((removeR d a).1).sf⟩, ⟨.sl TnT, ((removeR d a).1).ts⟩, ⟨.int .i64, ((removeR d a).1).st⟩, ⟨.int .i64, ((removeR d a).1).fa⟩, ⟨.bool, ((removeR d a).1).de⟩, ⟨.int .i64, (removeR d a).2⟩] := by
  have h105 := s105 (lc := [c105, c108, c109]) rfl
  have h108 := s108 (lc := [c105, c108, c109]) rfl
  have h109 := s109 (lc := [c105, c108, c109]) rfl
  simp only [F85, Fof, ir85]; generalize Phi [c105, c108, c109] = Φ at *
  have g105 := h105 d a h
  have g108 : Does1 Φ 108 [⟨.int .i64, d.q⟩, ⟨.sl FlT, d.fs⟩, ⟨.sl MpT, d.sf⟩, ⟨.sl TnT, d.ts⟩, ⟨.int .i64, d.st⟩, ⟨.int .i64, d.fa⟩, ⟨.bool, d.de⟩] [⟨.int .i64, d.q⟩, ⟨.sl FlT, d.fs⟩, ⟨.sl MpT, d.sf⟩, ⟨.sl TnT, d.ts⟩, ⟨.int .i64, d.act.1.st⟩, ⟨.int .i64, d.act.1.fa⟩, ⟨.bool, d.act.1.de⟩, ⟨.int .i64, d.act.2⟩] := h108 d h
  have ht := h.t
  cases hd : d.de with
  | true =>
    rw [hd] at g105; simp -implicitDefEqProofs [g105, hd, removeR]
  | false =>
  rw [hd] at g105 g108; rcases h.at a with hat | ⟨hat1, hat2⟩
  · rw [hat] at g105; simp -implicitDefEqProofs [g105, hd, removeR, hat]
  · have hneg : ¬ d.at a < 0 := by omega
    have g109 : Does1 Φ 109 [⟨.int .i64, d.q⟩, ⟨.sl FlT, d.fs⟩, ⟨.sl MpT, d.sf⟩, ⟨.sl TnT, d.ts⟩, ⟨.int .i64, d.act.1.st⟩, ⟨.int .i64, d.act.1.fa⟩, ⟨.bool, d.act.1.de⟩, ⟨.str, a⟩, ⟨.str, []⟩, ⟨.int .i64, (0 : Int)⟩]
            [⟨.int .i64, d.q⟩, ⟨.sl FlT, d.fs⟩, ⟨.sl MpT, d.sf⟩, ⟨.sl TnT, d.ts ++ [(a, [], (0 : Int))]⟩, ⟨.int .i64, d.act.1.st⟩, ⟨.int .i64, d.act.1.fa⟩, ⟨.bool, d.act.1.de⟩] := h109 ⟨d.q, d.fs, d.sf, d.ts, d.act.1.st, d.act.1.fa, d.act.1.de⟩ a [] 0 ht
    by_cases he : d.act.2 = 0
    · simp -implicitDefEqProofs [g105, hd, removeR, hneg, g108, g109, he]
    · simp -implicitDefEqProofs [g105, hd, removeR, hneg, g108, he]
theorem s85 {lc : List Ct} (hl0 : Sx.look (lc.map fun c => (c.sig.id, c)) 85 = some c85) : ∀ (d : Rd) (a : List Int) (h : Rok d), Does1 (Phi lc) 85 [⟨.int .i64, d.q⟩, ⟨.sl FlT, d.fs⟩, ⟨.sl MpT, d.sf⟩, ⟨.sl TnT, d.ts⟩, ⟨.int .i64, d.st⟩, ⟨.int .i64, d.fa⟩, ⟨.bool, d.de⟩, ⟨.str, a⟩] [⟨.int .i64, ((removeR d a).1).q⟩, ⟨.sl FlT, ((removeR d a).1).fs⟩, ⟨.sl MpT, ((removeR d a).1).sf⟩, ⟨.sl TnT, ((removeR d a).1).ts⟩, ⟨.int .i64, ((removeR d a).1).st⟩, ⟨.int .i64, ((removeR d a).1).fa⟩, ⟨.bool, ((removeR d a).1).de⟩, ⟨.int .i64, (removeR d a).2⟩] :=
  fun d a h => by
    have eFc : c85.F = F85 := rfl
    have eFh := f85 d a h
    rw [← eFc] at eFh; exact Does1.of hl0 eFh rfl

def rStep (tails : List Int) (x : Int × List FileD) (n : NmD) : Int × List FileD :=
  if ((x.2.getD n.2.toNat ([], 0)).1.length : Int) = (x.2.getD n.2.toNat ([], 0)).2 then x else
    (x.1 + 1, x.2.set n.2.toNat ((x.2.getD n.2.toNat ([], 0)).1.take ((x.2.getD n.2.toNat ([], 0)).2 + (if x.1 < tails.length then min (max (tails.getD x.1.toNat 0) 0) ((x.2.getD n.2.toNat ([], 0)).1.length - (x.2.getD n.2.toNat ([], 0)).2) else 0)).toNat, (x.2.getD n.2.toNat ([], 0)).2 + (if x.1 < tails.length then min (max (tails.getD x.1.toNat 0) 0) ((x.2.getD n.2.toNat ([], 0)).1.length - (x.2.getD n.2.toNat ([], 0)).2) else 0)))
def crashR (d : Rd) (kn : Int) (tails : List Int) : Rd := ⟨d.q, ((d.names kn).foldl (rStep tails) (0, d.fs)).2, d.names kn, [], -1, 0, false⟩

theorem f86 (d : Rd) (kn : Int) (tails : List Int) (h : Rok d) (hq : tails.length ≤ 1000000) : F86 [⟨.int .i64, d.q⟩, ⟨.sl FlT, d.fs⟩, ⟨.sl MpT, d.sf⟩, ⟨.sl TnT, d.ts⟩, ⟨.int .i64, d.st⟩, ⟨.int .i64, d.fa⟩, ⟨.bool, d.de⟩, ⟨.int .i64, kn⟩, ⟨.sl (.int .i64), tails⟩] = some [⟨.int .i64, ((crashR d kn tails)).q⟩, ⟨.sl FlT, ((crashR d kn tails)).fs⟩, ⟨.sl MpT, ((crashR d kn tails)).sf⟩, ⟨.sl TnT, ((crashR d kn tails)).ts⟩, ⟨.int .i64, ((crashR d kn tails)).st⟩, ⟨.int .i64, ((crashR d kn tails)).fa⟩, ⟨.bool, ((crashR d kn tails)).de⟩] := by
  have h111 := s111 (lc := [c111, c110]) rfl
  have h110 := s110 (lc := [c111, c110]) rfl
  simp only [F86, Fof, ir86]; generalize Phi [c111, c110] = Φ at *
  have g111 := h111 d kn h
  have hl := h.names kn
  have hn : ∀ x ∈ d.names kn, 0 ≤ x.2 ∧ x.2 < d.fs.length := h.nm kn.toNat
  have hf := h.f
  have hb := h.b
  simp -implicitDefEqProofs [g111, crashR]
  generalize d.names kn = l at *
  refine (iter_meas (fun s : Int × Int × Int × List FileD × List NmD × List TurnD × Int × Int × Bool => (l.length - s.2.1).toNat)
    (fun s : Int × Int × Int × List FileD × List NmD × List TurnD × Int × Int × Bool => ([⟨.int .i64, d.q⟩, ⟨.sl FlT, ((l.drop s.2.1.toNat).foldl (rStep tails) (s.1, s.2.2.2.1)).2⟩, ⟨.sl MpT, l⟩, ⟨.sl TnT, []⟩, ⟨.int .i64, (-1 : Int)⟩, ⟨.int .i64, (0 : Int)⟩, ⟨.bool, false⟩] : List D))
    (fun s => 0 ≤ s.2.1 ∧ s.2.1 ≤ l.length ∧ 0 ≤ s.1 ∧ s.1 ≤ s.2.1 ∧ s.2.2.1 = d.q ∧ s.2.2.2.1.length = d.fs.length ∧ (∀ f ∈ s.2.2.2.1, f.1.length ≤ 4194304 ∧ 0 ≤ f.2 ∧ f.2 ≤ f.1.length) ∧ s.2.2.2.2.1 = l ∧ s.2.2.2.2.2.1 = [])
    (by exact ⟨by simp, by simp, by simp, by simp, rfl, rfl, hb, rfl, rfl⟩) ?_).trans (by simp)
  rintro ⟨c, i, q, fs, sf, ts, st, fa, de⟩ ⟨h1, h2, h3, h4, e1, h5, h6, e2, e3⟩
  simp only at h1 h2 h3 h4 e1 h5 h6 e2 e3
  subst e1; subst e2; subst e3; by_cases hi : i < sf.length
  · obtain ⟨x, hx⟩ : ∃ x, sf[i.toNat]? = some x := ⟨_, List.getElem?_eq_getElem (by omega)⟩
    obtain ⟨_, hx2⟩ := List.getElem?_eq_some_iff.1 hx
    obtain ⟨m1, m2⟩ := hn x (List.mem_of_getElem? hx)
    have m3 : x.2 < fs.length := by omega
    obtain ⟨f, hfx⟩ : ∃ f, fs[x.2.toNat]? = some f := ⟨_, List.getElem?_eq_getElem (by omega)⟩
    obtain ⟨_, hfx2⟩ := List.getElem?_eq_some_iff.1 hfx
    obtain ⟨b1, b2, b3⟩ := h6 f (List.mem_of_getElem? hfx)
    have hgd : fs.getD x.2.toNat ([], 0) = f := by rw [List.getD_eq_getElem?_getD, hfx]; rfl
    have wi : IntKind.i64.wrap (i + 1) = i + 1 := wi64 _ (by omega) (by omega)
    have wc : IntKind.i64.wrap (c + 1) = c + 1 := wi64 _ (by omega) (by omega)
    have wl : IntKind.i64.wrap ((f.1.length : Int) - f.2) = (f.1.length : Int) - f.2 := wi64 _ (by omega) (by omega)
    rw [dropI' h1 hx]; by_cases he : (f.1.length : Int) = f.2
    · refine .inl ⟨(c, i + 1, d.q, fs, sf, [], st, fa, de), ?_, ⟨by simp only; omega, by simp only; omega, by simp only; omega, by simp only; omega, rfl, h5, h6, rfl, rfl⟩, by simp only; omega, ?_⟩
      · simp -implicitDefEqProofs [hi, h1, hx, hx2, m1, m3, hfx, hfx2, he, wi]
      · simp only [List.foldl_cons]; rw [show rStep tails (c, fs) x = (c, fs) by unfold rStep; simp only [hgd, he, if_true]]
    · have fin : ∀ m : Int, 0 ≤ m → f.2 + m ≤ f.1.length → (if c < tails.length then min (max (tails.getD c.toNat 0) 0) (f.1.length - f.2) else 0) = m →
          (Does1 Φ 110 [⟨.int .i64, d.q⟩, ⟨.sl FlT, fs⟩, ⟨.sl MpT, sf⟩, ⟨.sl TnT, []⟩, ⟨.int .i64, st⟩, ⟨.int .i64, fa⟩, ⟨.bool, de⟩, ⟨.int .i64, x.2⟩, ⟨.sl (.int .u8), f.1.take (f.2 + m).toNat⟩, ⟨.int .i64, f.2 + m⟩] [⟨.int .i64, d.q⟩, ⟨.sl FlT, fs.set x.2.toNat (f.1.take (f.2 + m).toNat, f.2 + m)⟩, ⟨.sl MpT, sf⟩, ⟨.sl TnT, []⟩, ⟨.int .i64, st⟩, ⟨.int .i64, fa⟩, ⟨.bool, de⟩]) ∧
          IntKind.i64.wrap (f.2 + m) = f.2 + m ∧ 0 ≤ f.2 + m ∧ min (f.2 + m).toNat f.1.length = (f.2 + m).toNat ∧ (f.2 + m).toNat ≤ BIG ∧
          (fun s : Int × Int × Int × List FileD × List NmD × List TurnD × Int × Int × Bool => 0 ≤ s.2.1 ∧ s.2.1 ≤ sf.length ∧ 0 ≤ s.1 ∧ s.1 ≤ s.2.1 ∧ s.2.2.1 = d.q ∧ s.2.2.2.1.length = d.fs.length ∧ (∀ f ∈ s.2.2.2.1, f.1.length ≤ 4194304 ∧ 0 ≤ f.2 ∧ f.2 ≤ f.1.length) ∧ s.2.2.2.2.1 = sf ∧ s.2.2.2.2.2.1 = []) (c + 1, i + 1, d.q, fs.set x.2.toNat (f.1.take (f.2 + m).toNat, f.2 + m), sf, [], st, fa, de) ∧
          rStep tails (c, fs) x = (c + 1, fs.set x.2.toNat (f.1.take (f.2 + m).toNat, f.2 + m)) := by
        intro m q1 q2 q3; refine ⟨h110 ⟨d.q, fs, sf, [], st, fa, de⟩ x.2 _ _ (by show fs.length ≤ _; omega) m1 m3, wi64 _ (by omega) (by omega), by omega, by omega, by unfold BIG; omega, ⟨by simp only; omega, by simp only; omega, by simp only; omega, by simp only; omega, rfl, by simp only [List.length_set]; exact h5, ?_, rfl, rfl⟩, ?_⟩
        · intro g hg; rcases List.mem_or_eq_of_mem_set hg with hg | rfl
          · exact h6 g hg
          · simp only [List.length_take]; omega
        · unfold rStep; simp only [hgd, if_neg he, q3]
      by_cases hc : c < tails.length
      · obtain ⟨t, ht⟩ : ∃ t, tails[c.toNat]? = some t := ⟨_, List.getElem?_eq_getElem (by omega)⟩
        obtain ⟨_, ht2⟩ := List.getElem?_eq_some_iff.1 ht
        have htd : tails.getD c.toNat 0 = t := by rw [List.getD_eq_getElem?_getD, ht]; rfl
        by_cases t0 : t < 0
        · have c0 : ¬ (0 : Int) > (f.1.length : Int) - f.2 := by omega
          obtain ⟨g, w1, w2, w3, w4, w5, w6⟩ := fin 0 (by omega) (by omega) (by rw [if_pos hc, htd]; omega)
          rw [Int.add_zero] at g w1 w2 w3 w4 w5 w6; refine .inl ⟨_, ?_, w5, by simp only; omega, by simp only [List.foldl_cons, w6]⟩
          simp -implicitDefEqProofs [hi, h1, hx, hx2, m1, m3, hfx, hfx2, he, wi, wc, wl, hc, h3, ht, ht2, t0, c0, g, w1, w2, w3, w4, b3]
        · by_cases t1 : t > (f.1.length : Int) - f.2
          · obtain ⟨g, w1, w2, w3, w4, w5, w6⟩ := fin ((f.1.length : Int) - f.2) (by omega) (by omega) (by rw [if_pos hc, htd]; omega)
            have hle : f.2 + ((f.1.length : Int) - f.2) ≤ f.1.length := by omega
            refine .inl ⟨_, ?_, w5, by simp only; omega, by simp only [List.foldl_cons, w6]⟩
            simp -implicitDefEqProofs [hi, h1, hx, hx2, m1, m3, hfx, hfx2, he, wi, wc, wl, hc, h3, ht, ht2, t0, t1, g, w1, w2, w3, w4, hle]
          · obtain ⟨g, w1, w2, w3, w4, w5, w6⟩ := fin t (by omega) (by omega) (by rw [if_pos hc, htd]; omega)
            have hle : f.2 + t ≤ f.1.length := by omega
            refine .inl ⟨_, ?_, w5, by simp only; omega, by simp only [List.foldl_cons, w6]⟩
            simp -implicitDefEqProofs [hi, h1, hx, hx2, m1, m3, hfx, hfx2, he, wi, wc, wl, hc, h3, ht, ht2, t0, t1, g, w1, w2, w3, w4, hle]
      · have c0 : ¬ (0 : Int) > (f.1.length : Int) - f.2 := by omega
        obtain ⟨g, w1, w2, w3, w4, w5, w6⟩ := fin 0 (by omega) (by omega) (by rw [if_neg hc])
        rw [Int.add_zero] at g w1 w2 w3 w4 w5 w6; refine .inl ⟨_, ?_, w5, by simp only; omega, by simp only [List.foldl_cons, w6]⟩
        simp -implicitDefEqProofs [hi, h1, hx, hx2, m1, m3, hfx, hfx2, he, wi, wc, wl, hc, c0, g, w1, w2, w3, w4, b3]
  · simp only [List.drop_eq_nil_of_le (show sf.length ≤ i.toNat by omega)]; refine .inr ?_
    simp -implicitDefEqProofs [hi]
theorem s86 {lc : List Ct} (hl0 : Sx.look (lc.map fun c => (c.sig.id, c)) 86 = some c86) : ∀ (d : Rd) (kn : Int) (tails : List Int) (h : Rok d) (hq : tails.length ≤ 1000000), Does1 (Phi lc) 86 [⟨.int .i64, d.q⟩, ⟨.sl FlT, d.fs⟩, ⟨.sl MpT, d.sf⟩, ⟨.sl TnT, d.ts⟩, ⟨.int .i64, d.st⟩, ⟨.int .i64, d.fa⟩, ⟨.bool, d.de⟩, ⟨.int .i64, kn⟩, ⟨.sl (.int .i64), tails⟩] [⟨.int .i64, ((crashR d kn tails)).q⟩, ⟨.sl FlT, ((crashR d kn tails)).fs⟩, ⟨.sl MpT, ((crashR d kn tails)).sf⟩, ⟨.sl TnT, ((crashR d kn tails)).ts⟩, ⟨.int .i64, ((crashR d kn tails)).st⟩, ⟨.int .i64, ((crashR d kn tails)).fa⟩, ⟨.bool, ((crashR d kn tails)).de⟩] :=
  fun d kn tails h hq => by
    have eFc : c86.F = F86 := rfl
    have eFh := f86 d kn tails h hq
    rw [← eFc] at eFh; exact Does1.of hl0 eFh rfl

def doR (d : Rd) (x : ActD) : Rd × Int :=
  if x.1 = 0 then appendR d x.2.1 x.2.2.2.1 else if x.1 = 1 then cutR d x.2.1 x.2.2.2.2.1 else if x.1 = 2 then syncR d x.2.1 else if x.1 = 3 then syncNamesR d else if x.1 = 4 then renameR d x.2.1 x.2.2.1 else if x.1 = 5 then removeR d x.2.1
  else if x.1 = 6 then (⟨d.q, d.fs, d.sf, d.ts, max x.2.2.2.2.1 (-1), d.fa, d.de⟩, 0) else if x.1 = 7 then (⟨d.q, d.fs, d.sf, d.ts, d.st, max x.2.2.2.2.1 0, d.de⟩, 0) else if x.1 = 8 then (crashR d x.2.2.2.2.2.1 x.2.2.2.2.2.2, 0) else (d, 0)

theorem f49 (d : Rd) (k : Int) (a b c : List Int) (n kn : Int) (tl : List Int) (h : Rok d) (hc : c.length ≤ 300) (ht : tl.length ≤ 1000) : F49 [⟨.int .i64, d.q⟩, ⟨.sl FlT, d.fs⟩, ⟨.sl MpT, d.sf⟩, ⟨.sl TnT, d.ts⟩, ⟨.int .i64, d.st⟩, ⟨.int .i64, d.fa⟩, ⟨.bool, d.de⟩, ⟨.int .i64, k⟩, ⟨.str, a⟩, ⟨.str, b⟩, ⟨.sl (.int .u8), c⟩, ⟨.int .i64, n⟩, ⟨.int .i64, kn⟩, ⟨.sl (.int .i64), tl⟩] = some [⟨.int .i64, ((doR d (k, a, b, c, n, kn, tl)).1).q⟩, ⟨.sl FlT, ((doR d (k, a, b, c, n, kn, tl)).1).fs⟩, ⟨.sl MpT, ((doR d (k, a, b, c, n, kn, tl)).1).sf⟩, ⟨.sl TnT, ((doR d (k, a, b, c, n, kn, tl)).1).ts⟩, ⟨.int .i64, ((doR d (k, a, b, c, n, kn, tl)).1).st⟩, ⟨.int .i64, ((doR d (k, a, b, c, n, kn, tl)).1).fa⟩, ⟨.bool, ((doR d (k, a, b, c, n, kn, tl)).1).de⟩, ⟨.int .i64, (doR d (k, a, b, c, n, kn, tl)).2⟩] := by
  have h80 := s80 (lc := [c80, c81, c82, c83, c84, c85, c86]) rfl
  have h81 := s81 (lc := [c80, c81, c82, c83, c84, c85, c86]) rfl
  have h82 := s82 (lc := [c80, c81, c82, c83, c84, c85, c86]) rfl
  have h83 := s83 (lc := [c80, c81, c82, c83, c84, c85, c86]) rfl
  have h84 := s84 (lc := [c80, c81, c82, c83, c84, c85, c86]) rfl
  have h85 := s85 (lc := [c80, c81, c82, c83, c84, c85, c86]) rfl
  have h86 := s86 (lc := [c80, c81, c82, c83, c84, c85, c86]) rfl
  simp only [F49, Fof, ir49]; generalize Phi [c80, c81, c82, c83, c84, c85, c86] = Φ at *
  have g80 := h80 d a c h (by omega)
  have g81 := h81 d a n h
  have g82 := h82 d a h
  have g83 := h83 d h
  have g84 := h84 d a b h
  have g85 := h85 d a h
  have g86 := h86 d kn tl h (by omega)
  by_cases k0 : k = 0
  · simp -implicitDefEqProofs [k0, g80, doR]
  by_cases k1 : k = 1
  · simp -implicitDefEqProofs [k1, g81, doR]
  by_cases k2 : k = 2
  · simp -implicitDefEqProofs [k2, g82, doR]
  by_cases k3 : k = 3
  · simp -implicitDefEqProofs [k3, g83, doR]
  by_cases k4 : k = 4
  · simp -implicitDefEqProofs [k4, g84, doR]
  by_cases k5 : k = 5
  · simp -implicitDefEqProofs [k5, g85, doR]
  by_cases k6 : k = 6
  · by_cases hn : n < 0
    · have e : max n (-1) = -1 := by omega
      simp -implicitDefEqProofs [k6, doR, hn, e]
    · have e : max n (-1) = n := by omega
      simp -implicitDefEqProofs [k6, doR, hn, e]
  by_cases k7 : k = 7
  · by_cases hn : n < 0
    · have e : max n 0 = 0 := by omega
      simp -implicitDefEqProofs [k7, doR, hn, e]
    · have e : max n 0 = n := by omega
      simp -implicitDefEqProofs [k7, doR, hn, e]
  by_cases k8 : k = 8
  · simp -implicitDefEqProofs [k8, g86, doR]
  simp -implicitDefEqProofs [k0, k1, k2, k3, k4, k5, k6, k7, k8, doR]
theorem s49 {lc : List Ct} (hl0 : Sx.look (lc.map fun c => (c.sig.id, c)) 49 = some c49) : ∀ (d : Rd) (k : Int) (a b c : List Int) (n kn : Int) (tl : List Int) (h : Rok d) (hc : c.length ≤ 300) (ht : tl.length ≤ 1000), Does1 (Phi lc) 49 [⟨.int .i64, d.q⟩, ⟨.sl FlT, d.fs⟩, ⟨.sl MpT, d.sf⟩, ⟨.sl TnT, d.ts⟩, ⟨.int .i64, d.st⟩, ⟨.int .i64, d.fa⟩, ⟨.bool, d.de⟩, ⟨.int .i64, k⟩, ⟨.str, a⟩, ⟨.str, b⟩, ⟨.sl (.int .u8), c⟩, ⟨.int .i64, n⟩, ⟨.int .i64, kn⟩, ⟨.sl (.int .i64), tl⟩] [⟨.int .i64, ((doR d (k, a, b, c, n, kn, tl)).1).q⟩, ⟨.sl FlT, ((doR d (k, a, b, c, n, kn, tl)).1).fs⟩, ⟨.sl MpT, ((doR d (k, a, b, c, n, kn, tl)).1).sf⟩, ⟨.sl TnT, ((doR d (k, a, b, c, n, kn, tl)).1).ts⟩, ⟨.int .i64, ((doR d (k, a, b, c, n, kn, tl)).1).st⟩, ⟨.int .i64, ((doR d (k, a, b, c, n, kn, tl)).1).fa⟩, ⟨.bool, ((doR d (k, a, b, c, n, kn, tl)).1).de⟩, ⟨.int .i64, (doR d (k, a, b, c, n, kn, tl)).2⟩] :=
  fun d k a b c n kn tl h hc ht => by
    have eFc : c49.F = F49 := rfl
    have eFh := f49 d k a b c n kn tl h hc ht
    rw [← eFc] at eFh; exact Does1.of hl0 eFh rfl
end Go.Proofs.Ytmglkddddpipgaa
