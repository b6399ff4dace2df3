/-
  What is kept by whatever is done with a disk.
-/
import Derived.Test.YtmglkddddpipgaaP1
set_option linter.unusedVariables false
set_option linter.unusedSimpArgs false
namespace Go.Proofs.Ytmglkddddpipgaa
open Sx Go.RowKit

def cStep (nm : Mp) (fm : Fm) (tails : List Int) (x : Int × List FileD) (a : List Int) : Int × List FileD :=
  match findS a nm with
  | some i => match findF i fm with
    | some (some k) => match x.2[k]? with
      | some f => if (f.1.length : Int) = f.2 then x else
          (x.1 + 1, x.2.set k (f.1.take (f.2 + (if x.1 < tails.length then min (max (tails.getD x.1.toNat 0) 0) (f.1.length - f.2) else 0)).toNat, f.2 + (if x.1 < tails.length then min (max (tails.getD x.1.toNat 0) 0) (f.1.length - f.2) else 0)))
      | none => x
    | _ => x
  | none => x
def crashN (s : St) (kn : Int) : Nat := (min (max kn 0) s.ts.length).toNat
def crashNm (s : St) (kn : Int) : Mp := (s.ts.take (crashN s kn)).foldl (fun nm t => turnM t nm) s.sm
def St.turned (s : St) (nm : Mp) : St := { s with jn := s.A1.length, js := s.A1.length + 1, A1 := s.A1 ++ [nm, nm], ts := [] }
def crashM (s : St) (kn : Int) (tails : List Int) : St :=
  { (s.turned (crashNm s kn)).forget with A2 := ((namesOf (crashNm s kn)).foldl (cStep (crashNm s kn) (s.turned (crashNm s kn)).forget.fm tails) (0, s.A2)).2, st := -1, fa := 0, de := false }

theorem findS_some {a : List Int} {i : Int} : ∀ {m : Mp}, (a, i) ∈ m → ∃ j, findS a m = some j
  | (b, j) :: m, h => by
    by_cases hq : a = b
    · subst hq; exact ⟨j, by simp [findS, findM, keyEq]⟩
    · rcases List.mem_cons.1 h with h | h
      · simp only [Prod.mk.injEq] at h; exact absurd h.1 hq
      · obtain ⟨x, hx⟩ := findS_some h; refine ⟨x, ?_⟩
        have hx' : findM .str a m = some x := hx
        simp [findS, findM, keyEq, hq, hx']
theorem findF_filter {q : Int → Bool} {i : Int} (hq : q i = true) : ∀ (m : Fm), findF i (m.filter fun x => q x.1) = findF i m
  | [] => rfl
  | (b, j) :: m => by
    have ih := findF_filter hq m
    by_cases hb : i = b
    · subst hb; rw [List.filter_cons, if_pos hq]; simp [findF, findM, keyEq]
    · rw [List.filter_cons]; have ih' : findM (.int .i64) i (m.filter fun x => q x.1) = findM (.int .i64) i m := ih
      split
      · simp only [findF, findM, keyEq, hb, decide_false, Bool.false_eq_true, if_false]; exact ih'
      · simp only [findF, findM, keyEq, hb, decide_false, Bool.false_eq_true, if_false]; exact ih'
theorem delS_sub {a : List Int} : ∀ {m : Mp} {x : List Int × Int}, x ∈ delS a m → x ∈ m
  | (b, j) :: m, x, h => by
    by_cases hq : a = b
    · have : delS a ((b, j) :: m) = m := by simp [delS, delM, keyEq, hq]
      rw [this] at h; exact List.mem_cons_of_mem _ h
    · have : delS a ((b, j) :: m) = (b, j) :: delS a m := by simp [delS, delM, keyEq, hq]
      rw [this] at h; rcases List.mem_cons.1 h with h | h
      · rw [h]; simp
      · exact List.mem_cons_of_mem _ (delS_sub h)
theorem setS_sub {a : List Int} {i : Int} : ∀ {m : Mp} {x : List Int × Int}, x ∈ setS a i m → x ∈ m ∨ x = (a, i)
  | [], x, h => by
    have : setS a i [] = [(a, i)] := rfl
    rw [this] at h; exact .inr (List.mem_singleton.1 h)
  | (b, j) :: m, x, h => by
    by_cases hq : a = b
    · have : setS a i ((b, j) :: m) = (a, i) :: m := by simp [setS, setM, keyEq, hq]
      rw [this] at h; rcases List.mem_cons.1 h with h | h
      · exact .inr h
      · exact .inl (List.mem_cons_of_mem _ h)
    · have : setS a i ((b, j) :: m) = (b, j) :: setS a i m := by simp [setS, setM, keyEq, hq]
      rw [this] at h; rcases List.mem_cons.1 h with h | h
      · rw [h]; exact .inl (by simp)
      · rcases setS_sub h with h | h
        · exact .inl (List.mem_cons_of_mem _ h)
        · exact .inr h
theorem delS_len {a : List Int} : ∀ (m : Mp), (delS a m).length ≤ m.length
  | [] => Nat.le_refl _
  | (b, j) :: m => by
    by_cases hq : a = b
    · have : delS a ((b, j) :: m) = m := by simp [delS, delM, keyEq, hq]
      rw [this]; simp
    · have : delS a ((b, j) :: m) = (b, j) :: delS a m := by simp [delS, delM, keyEq, hq]
      rw [this]; have := delS_len (a := a) m
      simp; omega
theorem setS_len {a : List Int} {i : Int} : ∀ (m : Mp), (setS a i m).length ≤ m.length + 1
  | [] => Nat.le_refl _
  | (b, j) :: m => by
    by_cases hq : a = b
    · have : setS a i ((b, j) :: m) = (a, i) :: m := by simp [setS, setM, keyEq, hq]
      rw [this]; simp
    · have : setS a i ((b, j) :: m) = (b, j) :: setS a i m := by simp [setS, setM, keyEq, hq]
      rw [this]; have := setS_len (a := a) (i := i) m
      simp; omega
theorem turnM_sub {t : TurnD} {m : Mp} {x : List Int × Int} (h : x ∈ turnM t m) : x ∈ m ∨ (t.2.1 ≠ [] ∧ x = (t.2.1, t.2.2)) := by
  unfold turnM at h; by_cases h1 : t.1 = []
  · by_cases h2 : t.2.1 = []
    · simp only [if_pos h1, if_pos h2] at h; exact .inl h
    · simp only [if_pos h1, if_neg h2] at h; exact (setS_sub h).imp id fun h => ⟨h2, h⟩
  · by_cases h2 : t.2.1 = []
    · simp only [if_neg h1, if_pos h2] at h; exact .inl (delS_sub h)
    · simp only [if_neg h1, if_neg h2] at h; exact (setS_sub h).imp delS_sub fun h => ⟨h2, h⟩
theorem turnM_len (t : TurnD) (m : Mp) : (turnM t m).length ≤ m.length + 1 := by
  have h1 := delS_len (a := t.1) m
  have h2 := setS_len (a := t.2.1) (i := t.2.2) (delS t.1 m)
  have h3 := setS_len (a := t.2.1) (i := t.2.2) m
  simp only [turnM]; split <;> split <;> omega
theorem turns_sub : ∀ (ts : List TurnD) (m : Mp) (x : List Int × Int), x ∈ ts.foldl (fun nm t => turnM t nm) m → x ∈ m ∨ ∃ t ∈ ts, t.2.1 ≠ [] ∧ x = (t.2.1, t.2.2)
  | [], m, x, h => .inl h
  | t :: ts, m, x, h => by
    rcases turns_sub ts (turnM t m) x h with h | ⟨t', ht, h⟩
    · rcases turnM_sub h with h | h
      · exact .inl h
      · exact .inr ⟨t, by simp, h⟩
    · exact .inr ⟨t', by simp [ht], h⟩
theorem turns_len : ∀ (ts : List TurnD) (m : Mp), (ts.foldl (fun nm t => turnM t nm) m).length ≤ m.length + ts.length
  | [], m => Nat.le_refl _
  | t :: ts, m => by
    have h1 := turns_len ts (turnM t m)
    have h2 := turnM_len t m
    simp only [List.foldl_cons, List.length_cons]; omega
theorem Ok.crash {s : St} (h : Ok s) (kn : Int) : (∀ x ∈ crashNm s kn, (∃ k, findF x.2 s.fm = some (some k)) ∧ IsB x.1) ∧ (crashNm s kn).length ≤ 2000000 := by
  refine ⟨fun x hx => ?_, ?_⟩
  · rcases turns_sub _ _ _ hx with hx | ⟨t, ht, h1, rfl⟩
    · exact ⟨h.snames x hx, h.sb x hx⟩
    · exact ⟨h.tnames t (List.mem_of_mem_take ht) h1, h.tb t (List.mem_of_mem_take ht)⟩
  · have h1 := turns_len (s.ts.take (crashN s kn)) s.sm
    have h2 := h.sl
    have h3 := h.ts
    have h4 : (s.ts.take (crashN s kn)).length ≤ s.ts.length := by rw [List.length_take]; omega
    unfold crashNm; omega
theorem isB_back {a : List Int} (h : IsB a) : (a.map u8).map (fun b => (b.toNat : Int)) = a := by
  rw [List.map_map]; refine (List.map_congr_left (g := id) fun c hc => ?_).trans (List.map_id _)
  obtain ⟨h1, h2⟩ := h c hc; show ((UInt8.ofNat c.toNat).toNat : Int) = c
  rw [UInt8.toNat_ofNat']; omega
theorem names_mem {m : Mp} (hb : ∀ x ∈ m, IsB x.1) {a : List Int} (h : a ∈ namesOf m) : ∃ i, (a, i) ∈ m := by
  unfold namesOf at h; obtain ⟨l, hl, rfl⟩ := List.mem_map.1 h; have := (List.mergeSort_perm _ _).mem_iff.1 hl
  obtain ⟨x, hx, rfl⟩ := List.mem_map.1 this; exact ⟨x.2, by rw [isB_back (hb x hx)]; exact hx⟩

theorem VF.set {fm : Fm} {A2 : List FileD} (h : VF fm A2) {k : Nat} {f : FileD} (h1 : f.1.length ≤ 4194304) (h2 : 0 ≤ f.2) (h3 : f.2 ≤ f.1.length) : VF fm (A2.set k f) := by
  intro x hx; obtain ⟨k', f', e1, e2, e3⟩ := h x hx; by_cases hk : k = k'
  · subst hk; exact ⟨k, f, e1, by rw [List.getElem?_set, if_pos rfl, if_pos (List.getElem?_eq_some_iff.1 e2).1], h1, h2, h3⟩
  · exact ⟨k', f', e1, by rw [List.getElem?_set, if_neg hk]; exact e2, e3⟩

theorem f21 (s : St) (kn : Int) (tails : List Int) (h : Ok s) : F21 [⟨.ref 0, some 0⟩, ⟨.int .i64, kn⟩, ⟨.sl (.int .i64), tails⟩, ⟨.sl DkT, [s.d]⟩, ⟨.sl (.sl MpT), s.A1⟩, ⟨.sl FlT, s.A2⟩, ⟨.sl (.sl FmT), [s.fm]⟩] = some [⟨.sl DkT, [(crashM s kn tails).d]⟩, ⟨.sl (.sl MpT), (crashM s kn tails).A1⟩, ⟨.sl FlT, (crashM s kn tails).A2⟩, ⟨.sl (.sl FmT), [(crashM s kn tails).fm]⟩] := by
  have h50 := s50 (lc := [c50, c51, c52, c53, c54]) rfl
  have h51 := s51 (lc := [c50, c51, c52, c53, c54]) rfl
  have h52S := s52S (lc := [c50, c51, c52, c53, c54]) rfl
  have h53S := s53S (lc := [c50, c51, c52, c53, c54]) rfl
  have h54 := s54 (lc := [c50, c51, c52, c53, c54]) rfl
  simp only [F21, Fof, ir21]; generalize Phi [c50, c51, c52, c53, c54] = Φ at *
  have g50 := h50 s.A1 s.js s.sm h.hs
  have htl := h.ts
  have hm : crashN s kn ≤ s.ts.length := by unfold crashN; omega
  have e : (if (s.ts.length : Int) < (if kn < 0 then 0 else kn) then (s.ts.length : Int) else if kn < 0 then 0 else kn) = ((crashN s kn : Nat) : Int) := by unfold crashN; split <;> split <;> omega
  have e2 : min (crashN s kn) s.ts.length = crashN s kn := by omega
  have hnm : crashNm s kn = (s.ts.take (crashN s kn)).foldl (fun nm t => turnM t nm) s.sm := rfl
  simp -implicitDefEqProofs [g50, e, e2]
  generalize crashN s kn = m at *
  refine ⟨by omega, ?_⟩
  refine iter_meas (fun s1 : Int × List Mp => ((m : Int) - s1.1).toNat) (fun _ => _) (fun s1 : Int × List Mp => 0 ≤ s1.1 ∧ s1.1 ≤ m ∧ s1.2 = s.A1 ++ [(s.ts.take s1.1.toNat).foldl (fun nm t => turnM t nm) s.sm]) ⟨by omega, by omega, rfl⟩ ?_
  rintro ⟨i, A⟩ ⟨i1, i2, i3⟩
  simp only at i1 i2 i3
  subst i3; by_cases hi : i < m
  · obtain ⟨t, ht⟩ : ∃ t, s.ts[i.toNat]? = some t := ⟨_, List.getElem?_eq_getElem (by omega)⟩
    have hi' : i.toNat < m := by omega
    have g1 : (List.take m s.ts)[i.toNat]? = some t := by rw [List.getElem?_take, if_pos hi', ht]
    have g51 := h51 (s.A1 ++ [(s.ts.take i.toNat).foldl (fun nm t => turnM t nm) s.sm]) s.A1.length ((s.ts.take i.toNat).foldl (fun nm t => turnM t nm) s.sm) t.1 t.2.1 t.2.2 (by simp)
    have wi : IntKind.i64.wrap (i + 1) = i + 1 := wi64 _ (by omega) (by omega)
    have etk : (s.ts.take (i + 1).toNat).foldl (fun nm t => turnM t nm) s.sm = turnM t ((s.ts.take i.toNat).foldl (fun nm t => turnM t nm) s.sm) := by
      rw [show (i + 1).toNat = i.toNat + 1 by omega, List.take_add_one, ht, List.foldl_append]; rfl
    refine .inl ⟨(i + 1, s.A1 ++ [turnM t ((s.ts.take i.toNat).foldl (fun nm t => turnM t nm) s.sm)]), ?_, ⟨by simp only; omega, by simp only; omega, by simp only [etk]⟩, by simp only; omega, rfl⟩
    generalize (s.ts.take i.toNat).foldl (fun nm t => turnM t nm) s.sm = cur at *
    simp only [g1]; simp -implicitDefEqProofs [g51, hi, i1, wi]
  · refine .inr ?_
    have : i = m := by omega
    subst this; rw [Int.toNat_natCast, ← hnm]; obtain ⟨hc1, hc2⟩ := h.crash kn; obtain ⟨n', hcn⟩ : ∃ n', n' = crashNm s kn := ⟨_, rfl⟩
    rw [← hcn] at hnm hc1 hc2 ⊢; have g50b := h50 (s.A1 ++ [n']) s.A1.length n' (by simp)
    have e52 : (s.turned n').nm = n' := by simp [St.turned, St.nm]
    have e53 : (s.turned n').sm = n' := by simp [St.turned, St.sm]
    have g52 : Does1 Φ 52 [⟨.ref 0, some 0⟩, ⟨.sl DkT, [(s.q, some 0, some s.A1.length, some (s.A1.length + 1), [], s.nx, s.st, s.fa, s.de)]⟩, ⟨.sl (.sl MpT), s.A1 ++ [n', n']⟩, ⟨.sl FlT, s.A2⟩, ⟨.sl (.sl FmT), [s.fm]⟩]
      [⟨.sl DkT, [(s.q, some 0, some s.A1.length, some (s.A1.length + 1), [], s.nx, s.st, s.fa, s.de)]⟩, ⟨.sl (.sl MpT), s.A1 ++ [n', n']⟩, ⟨.sl FlT, s.A2⟩, ⟨.sl (.sl FmT), [(s.turned n').forget.fm]⟩] :=
        h52S (s.turned n') (St.nm_of (by simp [St.turned])) (St.sm_of (by simp [St.turned])) (by simp [St.turned])
    have g53 : Does1 Φ 53 [⟨.ref 0, some 0⟩, ⟨.sl DkT, [(s.q, some 0, some s.A1.length, some (s.A1.length + 1), [], s.nx, s.st, s.fa, s.de)]⟩, ⟨.sl (.sl MpT), s.A1 ++ [n', n']⟩]
      [⟨.sl .str, namesOf n'⟩, ⟨.sl DkT, [(s.q, some 0, some s.A1.length, some (s.A1.length + 1), [], s.nx, s.st, s.fa, s.de)]⟩, ⟨.sl (.sl MpT), s.A1 ++ [n', n']⟩] := by
        have := h53S (s.turned n') (St.nm_of (by simp [St.turned])) (by rw [e52]; omega)
        rw [e52] at this; exact this
    have hfm : (s.turned n').forget.fm = keepF n' n' [] s.fm := by simp only [St.forget, e52, e53]; rfl
    have hget : ∀ a ∈ namesOf n', ∃ i k, findS a n' = some i ∧ findF i (keepF n' n' [] s.fm) = some (some k) := by
      intro a ha; obtain ⟨i, hi⟩ := names_mem (fun x hx => (hc1 x hx).2) ha
      obtain ⟨j, hj⟩ := findS_some hi; have hjm := findS_mem hj
      obtain ⟨⟨k, hk⟩, _⟩ := hc1 _ hjm; refine ⟨j, k, hj, ?_⟩
      unfold keepF; rw [findF_filter (q := keepB n' n' [])]
      · exact hk
      · unfold keepB; have : n'.any (fun x => x.2 == j) = true := List.any_eq_true.2 ⟨_, hjm, by simp⟩
        rw [this]; rfl
    have hVF : VF (keepF n' n' [] s.fm) s.A2 := fun x hx => h.fm x (List.mem_filter.1 hx).1
    have hlen : (namesOf n').length ≤ 2000000 := by
      unfold namesOf; rw [List.length_map, List.length_mergeSort, List.length_map]; exact hc2
    rw [hfm] at g52; simp -implicitDefEqProofs [g50b, g52, g53, hfm]
    have hcr : crashM s kn tails = { (s.turned n').forget with A2 := ((namesOf n').foldl (cStep n' (keepF n' n' [] s.fm) tails) (0, s.A2)).2, st := -1, fa := 0, de := false } := by unfold crashM; rw [← hcn, hfm]
    rw [hcr]; generalize namesOf n' = nl at *
    generalize keepF n' n' [] s.fm = fm' at *
    refine iter_meas (fun s1 : Int × Int × List FileD × List DiskD => ((nl.length : Int) - s1.2.1).toNat) (fun _ => _) (fun s1 => 0 ≤ s1.2.1 ∧ s1.2.1 ≤ nl.length ∧ 0 ≤ s1.1 ∧ s1.1 ≤ s1.2.1 ∧ (s1.1, s1.2.2.1) = (nl.take s1.2.1.toNat).foldl (cStep n' fm' tails) (0, s.A2) ∧ VF fm' s1.2.2.1 ∧
      s1.2.2.2 = [(s.q, some 0, some s.A1.length, some (s.A1.length + 1), [], s.nx, s.st, s.fa, s.de)]) ⟨by simp only; omega, by simp only; omega, by simp only; omega, by simp only; omega, rfl, hVF, rfl⟩ ?_
    rintro ⟨at', i, A, A0⟩ ⟨i1, i2, i3, i4, i5, i6, i7⟩
    simp only at i1 i2 i3 i4 i5 i6 i7
    subst i7; by_cases hi : i < nl.length
    · have hi' : i.toNat < nl.length := by omega
      obtain ⟨a, ha⟩ : ∃ a, nl[i.toNat]? = some a := ⟨_, List.getElem?_eq_getElem hi'⟩
      obtain ⟨j, k, hj, hk⟩ := hget a (List.mem_of_getElem? ha)
      obtain ⟨k', f, e1, hA, f1, f2, f3⟩ := i6 _ (findF_mem hk)
      simp only [oi] at e1; subst e1; obtain ⟨hkl, hv⟩ := List.getElem?_eq_some_iff.1 hA
      have wi : IntKind.i64.wrap (i + 1) = i + 1 := wi64 _ (by omega) (by omega)
      have wa : IntKind.i64.wrap (at' + 1) = at' + 1 := wi64 _ (by omega) (by omega)
      have wf : IntKind.i64.wrap (f.1.length - f.2) = f.1.length - f.2 := wi64 _ (by omega) (by omega)
      have etk : (nl.take (i + 1).toNat).foldl (cStep n' fm' tails) (0, s.A2) = cStep n' fm' tails (at', A) a := by
        rw [show (i + 1).toNat = i.toNat + 1 by omega, List.take_add_one, ha, List.foldl_append, ← i5]; rfl
      have hss : A.set k (f.1, f.2) = A := set_same hA
      have ecs : cStep n' fm' tails (at', A) a = if (f.1.length : Int) = f.2 then (at', A) else
          (at' + 1, A.set k (f.1.take (f.2 + (if at' < tails.length then min (max (tails.getD at'.toNat 0) 0) (f.1.length - f.2) else 0)).toNat, f.2 + (if at' < tails.length then min (max (tails.getD at'.toNat 0) 0) (f.1.length - f.2) else 0))) := by
        simp only [cStep, hj, hk, hA]
      by_cases hfl : (f.1.length : Int) = f.2
      · rw [if_pos hfl] at ecs; rw [ecs] at etk; refine .inl ⟨(at', i + 1, A, [(s.q, some 0, some s.A1.length, some (s.A1.length + 1), [], s.nx, s.st, s.fa, s.de)]), ?_, ⟨by simp only; omega, by simp only; omega, by simp only; omega, by simp only; omega, by simp only; exact etk.symm, i6, rfl⟩, by simp only; omega, rfl⟩
        simp only [ha]; simp -implicitDefEqProofs [hi, i1, hj, hk, hA, hkl, hv, hfl, wi, hss]
      · rw [if_neg hfl] at ecs; rw [ecs] at etk; by_cases hat : at' < tails.length
        · obtain ⟨tv, htv⟩ : ∃ tv, tails[at'.toNat]? = some tv := ⟨_, List.getElem?_eq_getElem (by omega)⟩
          obtain ⟨_, htv2⟩ := List.getElem?_eq_some_iff.1 htv
          have htg : tails.getD at'.toNat 0 = tv := by rw [List.getD_eq_getElem?_getD, htv]; rfl
          rw [if_pos hat, htg] at etk; have e3 : (if (f.1.length : Int) - f.2 < (if tv < 0 then 0 else tv) then (f.1.length : Int) - f.2 else if tv < 0 then 0 else tv) = min (max tv 0) (f.1.length - f.2) := by split <;> split <;> omega
          have hn0 : 0 ≤ min (max tv 0) (f.1.length - f.2) := by omega
          have hn1 : min (max tv 0) (f.1.length - f.2) ≤ f.1.length - f.2 := by omega
          generalize min (max tv 0) ((f.1.length : Int) - f.2) = n at *
          have wn : IntKind.i64.wrap (f.2 + n) = f.2 + n := wi64 _ (by omega) (by omega)
          have g54 := h54 (f.1.take (f.2 + n).toNat) (by rw [List.length_take]; unfold BIG; omega)
          have hlt : ((f.1.take (f.2 + n).toNat).length : Int) = f.2 + n := by rw [List.length_take]; omega
          refine .inl ⟨(at' + 1, i + 1, A.set k (f.1.take (f.2 + n).toNat, f.2 + n), [(s.q, some 0, some s.A1.length, some (s.A1.length + 1), [], s.nx, s.st, s.fa, s.de)]), ?_, ⟨by simp only; omega, by simp only; omega, by simp only; omega, by simp only; omega, by simp only; exact etk.symm, i6.set (by rw [List.length_take]; omega) (by simp only; omega) (by simp only; omega), rfl⟩, by simp only; omega, rfl⟩
          simp only [ha]; simp -implicitDefEqProofs [hi, i1, hj, hk, hA, hkl, hv, hfl, wi, wa, wf, hat, i3, htv, htv2, e3, wn, g54]
          refine ⟨⟨by omega, by omega⟩, ?_⟩
          rw [show ((min (f.2 + n).toNat f.1.length : Nat) : Int) = f.2 + n by omega]
        · rw [if_neg hat] at etk; have wn : IntKind.i64.wrap (f.2 + 0) = f.2 + 0 := wi64 _ (by omega) (by omega)
          have g54 := h54 (f.1.take (f.2 + 0).toNat) (by rw [List.length_take]; unfold BIG; omega)
          have hlt : ((f.1.take (f.2 + 0).toNat).length : Int) = f.2 + 0 := by rw [List.length_take]; omega
          refine .inl ⟨(at' + 1, i + 1, A.set k (f.1.take (f.2 + 0).toNat, f.2 + 0), [(s.q, some 0, some s.A1.length, some (s.A1.length + 1), [], s.nx, s.st, s.fa, s.de)]), ?_, ⟨by simp only; omega, by simp only; omega, by simp only; omega, by simp only; omega, by simp only; exact etk.symm, i6.set (by rw [List.length_take]; omega) (by simp only; omega) (by simp only; omega), rfl⟩, by simp only; omega, rfl⟩
          simp only [Int.add_zero] at wn g54 hlt ⊢; simp only [ha]; simp -implicitDefEqProofs [hi, i1, hj, hk, hA, hkl, hv, hfl, wi, wa, wf, hat, i3, wn, g54]
          refine ⟨⟨by omega, by omega⟩, ?_⟩
          rw [show ((min f.2.toNat f.1.length : Nat) : Int) = f.2 by omega]
    · have : i = nl.length := by omega
      subst this; refine .inr ?_
      rw [Int.toNat_natCast, List.take_length] at i5; rw [← i5]; simp -implicitDefEqProofs [hfm, St.turned, St.forget]
      rw [← hfm]; rfl
theorem s21 {lc : List Ct} (hl0 : Sx.look (lc.map fun c => (c.sig.id, c)) 21 = some c21) : ∀ (s : St) (kn : Int) (tails : List Int) (h : Ok s), Does1 (Phi lc) 21 [⟨.ref 0, some 0⟩, ⟨.int .i64, kn⟩, ⟨.sl (.int .i64), tails⟩, ⟨.sl DkT, [s.d]⟩, ⟨.sl (.sl MpT), s.A1⟩, ⟨.sl FlT, s.A2⟩, ⟨.sl (.sl FmT), [s.fm]⟩] [⟨.sl DkT, [(crashM s kn tails).d]⟩, ⟨.sl (.sl MpT), (crashM s kn tails).A1⟩, ⟨.sl FlT, (crashM s kn tails).A2⟩, ⟨.sl (.sl FmT), [(crashM s kn tails).fm]⟩] :=
  fun s kn tails h => by
    have eFc : c21.F = F21 := rfl
    have eFh := f21 s kn tails h
    rw [← eFc] at eFh; exact Does1.of hl0 eFh rfl
end Go.Proofs.Ytmglkddddpipgaa

namespace Go.Proofs.Ytmglkddddpipgaa
open Sx Go.RowKit

def lenF (A2 : List FileD) : Option Nat → Nat
  | some k => match A2[k]? with
    | some f => f.1.length
    | none => 0
  | none => 0
def usedN (A2 : List FileD) (fm : Fm) : Nat := (fm.map fun x => lenF A2 x.2).sum

theorem lens_used {A2 : List FileD} : ∀ {fm : Fm}, VF fm A2 → lens A2 fm = some (usedN A2 fm)
  | [], _ => rfl
  | (i, r) :: fm, h => by
    obtain ⟨k, f, e1, e2, _⟩ := h (i, r) (by simp)
    simp only at e1
    subst e1; have ih := lens_used (fm := fm) fun x hx => h x (by simp [hx])
    simp only [lens, e2, ih, usedN, List.map_cons, List.sum_cons, lenF]

theorem lenF_set {A2 : List FileD} {k : Nat} {f' : FileD} {r : Option Nat} (h : r ≠ some k) : lenF (A2.set k f') r = lenF A2 r := by
  cases r with
  | none => rfl
  | some j =>
    have : k ≠ j := fun e => h (by rw [e])
    simp only [lenF, List.getElem?_set, if_neg this]
theorem used_set_ne {A2 : List FileD} {k : Nat} {f' : FileD} : ∀ {fm : Fm}, (∀ x ∈ fm, x.2 ≠ some k) → usedN (A2.set k f') fm = usedN A2 fm
  | [], _ => rfl
  | x :: fm, h => by
    have ih := used_set_ne (A2 := A2) (f' := f') (fm := fm) fun y hy => h y (by simp [hy])
    unfold usedN at ih ⊢
    rw [List.map_cons, List.map_cons, List.sum_cons, List.sum_cons, ih, lenF_set (h x (by simp))]
theorem used_set {A2 : List FileD} {k : Nat} {f f' : FileD} (hk : A2[k]? = some f) : ∀ {fm : Fm} {i : Int}, (fm.map (·.2)).Nodup → (i, some k) ∈ fm → usedN (A2.set k f') fm + f.1.length = usedN A2 fm + f'.1.length
  | x :: fm, i, hn, h => by
    have hn' := List.nodup_cons.1 hn
    rcases List.mem_cons.1 h with rfl | h
    · have hne : ∀ y ∈ fm, y.2 ≠ some k := fun y hy e => hn'.1 (List.mem_map.2 ⟨y, hy, e⟩)
      have e1 := used_set_ne (A2 := A2) (f' := f') hne
      have e2 : lenF A2 (some k) = f.1.length := by simp only [lenF, hk]
      have e3 : lenF (A2.set k f') (some k) = f'.1.length := by simp only [lenF, List.getElem?_set, if_pos (List.getElem?_eq_some_iff.1 hk).1, if_true]
      unfold usedN at e1 ⊢
      rw [List.map_cons, List.map_cons, List.sum_cons, List.sum_cons, e1]; simp only [e2, e3]; omega
    · have hne : x.2 ≠ some k := fun e => hn'.1 (List.mem_map.2 ⟨_, h, e.symm⟩)
      have ih := used_set (f' := f') hk hn'.2 h
      unfold usedN at ih ⊢
      rw [List.map_cons, List.map_cons, List.sum_cons, List.sum_cons, lenF_set hne]; omega
theorem used_filter {A2 : List FileD} (q : Int × Option Nat → Bool) : ∀ (fm : Fm), usedN A2 (fm.filter q) ≤ usedN A2 fm
  | [] => Nat.le_refl _
  | x :: fm => by
    have ih := used_filter (A2 := A2) q fm
    unfold usedN at ih ⊢
    rw [List.filter_cons]; split
    · rw [List.map_cons, List.map_cons, List.sum_cons, List.sum_cons]; omega
    · rw [List.map_cons, List.sum_cons]; omega

theorem findF_set {i j : Int} {v : Option Nat} : ∀ (m : Fm), findF i (setF j v m) = if i = j then some v else findF i m
  | [] => by
    by_cases h : i = j
    · simp [findF, setF, findM, setM, keyEq, h]
    · simp [findF, setF, findM, setM, keyEq, h]
  | (b, w) :: m => by
    have ih : findM (.int .i64) i (setM (.int .i64) j v m) = if i = j then some v else findM (.int .i64) i m := findF_set m
    by_cases hjb : j = b
    · subst hjb; by_cases h : i = j
      · simp [findF, setF, findM, setM, keyEq, h]
      · simp [findF, setF, findM, setM, keyEq, h]
    · by_cases hib : i = b
      · subst hib; have : ¬ i = j := fun e => hjb e.symm
        simp [findF, setF, findM, setM, keyEq, hjb, this]
      · simp only [findF, setF, setM, keyEq, hjb, decide_false, Bool.false_eq_true, if_false, findM, hib]; exact ih
theorem setF_new {j : Int} {v : Option Nat} : ∀ {m : Fm}, (∀ x ∈ m, x.1 ≠ j) → setF j v m = m ++ [(j, v)]
  | [], _ => rfl
  | (b, w) :: m, h => by
    have hb : ¬ j = b := fun e => h (b, w) (by simp) e.symm
    have ih : setM (.int .i64) j v m = m ++ [(j, v)] := setF_new fun x hx => h x (by simp [hx])
    have : setF j v ((b, w) :: m) = (b, w) :: setM (.int .i64) j v m := by simp [setF, setM, keyEq, hb]
    rw [this, ih]; rfl

structure Inv (s : St) (N : Nat) : Prop where
  ok : Ok s
  N1 : N ≤ 1000000
  nxN : s.nx ≤ N
  nmN : s.nm.length ≤ N
  smN : s.sm.length + s.ts.length ≤ N
  kn : ∀ x ∈ s.fm, x.1 ≤ s.nx
  rN : (s.fm.map (·.2)).Nodup
  un : (usedN s.A2 s.fm : Int) ≤ s.q

theorem Inv.len {s : St} {N : Nat} (h : Inv s N) : lens s.A2 s.fm = some (usedN s.A2 s.fm) := lens_used h.ok.fm
theorem Inv.un2 {s : St} {N : Nat} (h : Inv s N) : usedN s.A2 s.fm ≤ 4194304 := by
  have h1 := h.un; have h2 := h.ok.q2; omega
theorem Inv.mono {s : St} {N M : Nat} (h : Inv s N) (hM : N ≤ M) (hM2 : M ≤ 1000000) : Inv s M :=
  { h with N1 := hM2, nxN := by have := h.nxN; omega, nmN := Nat.le_trans h.nmN hM, smN := Nat.le_trans h.smN hM }

theorem Inv.count {s : St} {N : Nat} (h : Inv s N) {st fa : Int} {de : Bool} (h1 : -1 ≤ st) (h2 : st < 9223372036854775808) (h3 : 0 ≤ fa) (h4 : fa < 9223372036854775808) : Inv { s with st := st, fa := fa, de := de } N :=
  { ok := { h.ok with st1 := h1, st2 := h2, fa1 := h3, fa2 := h4 }, N1 := h.N1, nxN := h.nxN, nmN := h.nmN, smN := h.smN, kn := h.kn, rN := h.rN, un := h.un }

theorem Inv.act {s : St} {N : Nat} (h : Inv s N) : Inv s.act.2 N := by
  have a1 := h.ok.st1; have a2 := h.ok.st2; have a3 := h.ok.fa1; have a4 := h.ok.fa2
  refine h.count ?_ ?_ ?_ ?_
  all_goals
    unfold actM
    repeat' split
    all_goals (simp only; omega)

theorem Inv.setFile {s : St} {N : Nat} (h : Inv s N) {k : Nat} {f f' : FileD} {i : Int} (hi : (i, some k) ∈ s.fm) (hk : s.A2[k]? = some f) (h1 : f'.1.length ≤ 4194304) (h2 : 0 ≤ f'.2) (h3 : f'.2 ≤ f'.1.length) (h4 : (usedN s.A2 s.fm : Int) + f'.1.length ≤ s.q + f.1.length) :
    Inv { s with A2 := s.A2.set k f' } N :=
  { ok := { h.ok with fm := h.ok.fm.set h1 h2 h3 }, N1 := h.N1, nxN := h.nxN, nmN := h.nmN, smN := h.smN, kn := h.kn, rN := h.rN, un := by
      have := used_set (f' := f') hk h.rN hi
      show (usedN (s.A2.set k f') s.fm : Int) ≤ s.q
      omega }

theorem findF_keep {s : St} {i : Int} (hk : keepB s.nm s.sm s.ts i = true) {k : Nat} (h : findF i s.fm = some (some k)) : ∃ k, findF i s.forget.fm = some (some k) := by
  refine ⟨k, ?_⟩
  show findF i (keepF s.nm s.sm s.ts s.fm) = _
  unfold keepF; rw [findF_filter (q := keepB s.nm s.sm s.ts) hk, h]

theorem Inv.forget {s : St} {N : Nat} (h : Inv s N) : Inv s.forget N :=
  { ok := { h.ok with
      names := fun x hx => by
        obtain ⟨k, hk⟩ := h.ok.names x hx; refine findF_keep ?_ hk
        unfold keepB; rw [show s.nm.any (fun y => y.2 == x.2) = true from List.any_eq_true.2 ⟨x, hx, by simp⟩]; rfl
      snames := fun x hx => by
        obtain ⟨k, hk⟩ := h.ok.snames x hx; refine findF_keep ?_ hk
        unfold keepB; rw [show s.sm.any (fun y => y.2 == x.2) = true from List.any_eq_true.2 ⟨x, hx, by simp⟩]; simp
      tnames := fun t ht hne => by
        obtain ⟨k, hk⟩ := h.ok.tnames t ht hne; refine findF_keep ?_ hk
        unfold keepB; rw [show s.ts.any (fun y => !y.2.1.isEmpty && y.2.2 == t.2.2) = true from List.any_eq_true.2 ⟨t, ht, by simp [hne]⟩]; simp
      fm := fun x hx => h.ok.fm x (List.mem_filter.1 hx).1 }
    N1 := h.N1, nxN := h.nxN, nmN := h.nmN, smN := h.smN
    kn := fun x hx => h.kn x (List.mem_filter.1 hx).1
    rN := (List.filter_sublist.map _).nodup h.rN
    un := by
      have h1 := h.un
      have h2 := used_filter (A2 := s.A2) (fun x => keepB s.nm s.sm s.ts x.1) s.fm
      show (usedN s.A2 (keepF s.nm s.sm s.ts s.fm) : Int) ≤ s.q
      unfold keepF; omega }

theorem Inv.names {s : St} {N M : Nat} (h : Inv s N) {jn js : Nat} {A1 : List Mp} {ts : List TurnD} {n' m' : Mp} (h1 : A1[jn]? = some n') (h2 : A1[js]? = some m') (h3 : jn ≠ js) (hM : N ≤ M) (hM2 : M ≤ 1000000) (hl1 : n'.length ≤ M) (hl2 : m'.length + ts.length ≤ M)
    (hn : ∀ x ∈ n', (∃ k, findF x.2 s.fm = some (some k)) ∧ IsB x.1) (hm : ∀ x ∈ m', (∃ k, findF x.2 s.fm = some (some k)) ∧ IsB x.1) (ht : ∀ t ∈ ts, (t.2.1 ≠ [] → ∃ k, findF t.2.2 s.fm = some (some k)) ∧ IsB t.2.1) : Inv { s with jn := jn, js := js, A1 := A1, ts := ts } M := by
  have e1 : St.nm { s with jn := jn, js := js, A1 := A1, ts := ts } = n' := by simp [St.nm, h1]
  have e2 : St.sm { s with jn := jn, js := js, A1 := A1, ts := ts } = m' := by simp [St.sm, h2]
  have hx := h.nxN
  refine { ok := { ln := (List.getElem?_eq_some_iff.1 h1).1, ls := (List.getElem?_eq_some_iff.1 h2).1, ns := h3, st1 := h.ok.st1, st2 := h.ok.st2, fa1 := h.ok.fa1, fa2 := h.ok.fa2, q1 := h.ok.q1, q2 := h.ok.q2, nx1 := h.ok.nx1, nx2 := h.ok.nx2, ts := (show ts.length ≤ 1000000 by omega), nl := ?_, sl := ?_, names := ?_, snames := ?_, tnames := fun t h => (ht t h).1, nb := ?_, sb := ?_, tb := fun t h => (ht t h).2, fm := h.ok.fm }, N1 := hM2, nxN := ?_, nmN := ?_, smN := ?_, kn := h.kn, rN := h.rN, un := h.un }
  · rw [e1]; exact Nat.le_trans hl1 hM2
  · rw [e2]; omega
  · rw [e1]; exact fun x hx => (hn x hx).1
  · rw [e2]; exact fun x hx => (hm x hx).1
  · rw [e1]; exact fun x hx => (hn x hx).2
  · rw [e2]; exact fun x hx => (hm x hx).2
  · exact Int.le_trans hx (by omega)
  · rw [e1]; exact hl1
  · rw [e2]; exact hl2

theorem Inv.sync {s : St} {N : Nat} (h : Inv s N) (a : List Int) : Inv (syncM s a).2 N := by
  unfold syncM; split
  · exact h
  · split
    · exact h
    · rename_i k f hf; split
      · unfold St.file at hf; split at hf
        · rename_i i hi; split at hf
          · rename_i k' hk; cases hA : s.A2[k']? with
            | none => rw [hA] at hf; cases hf
            | some f' =>
              rw [hA] at hf; simp only [Option.map_some, oi, Prod.mk.injEq] at hf; obtain ⟨rfl, rfl⟩ := hf; obtain ⟨k2, f2, e1, e2, e3, e4, e5⟩ := h.ok.fm _ (findF_mem hk)
              simp only [oi] at e1; subst e1; rw [hA] at e2; simp only [oi] at e2; subst e2; have hu := h.un
              exact h.act.setFile (f' := (f'.1, (f'.1.length : Int))) (findF_mem hk) hA e3 (by simp only; omega) (by simp only; omega) (by show (usedN s.A2 s.fm : Int) + _ ≤ s.q + _; simp only; omega)
          · cases hf
        · cases hf
      · exact h.act

theorem Inv.at {s : St} {N : Nat} (h : Inv s N) {a : List Int} {k : Nat} {f : FileD} (hf : s.file a = some (k, f)) : ∃ i, findS a s.nm = some i ∧ findF i s.fm = some (some k) ∧ (i, some k) ∈ s.fm ∧ s.A2[k]? = some f ∧ f.1.length ≤ 4194304 ∧ 0 ≤ f.2 ∧ f.2 ≤ f.1.length := by
  unfold St.file at hf; split at hf
  · rename_i i hi; split at hf
    · rename_i k' hk; cases hA : s.A2[k']? with
      | none => rw [hA] at hf; cases hf
      | some f' =>
        rw [hA] at hf; simp only [Option.map_some, oi, Prod.mk.injEq] at hf; obtain ⟨rfl, rfl⟩ := hf; obtain ⟨k2, f2, e1, e2, e3, e4, e5⟩ := h.ok.fm _ (findF_mem hk)
        simp only [oi] at e1; subst e1; rw [hA] at e2; simp only [oi] at e2; subst e2; exact ⟨i, hi, hk, findF_mem hk, hA, e3, e4, e5⟩
    · cases hf
  · cases hf

theorem Inv.cut {s : St} {N : Nat} (h : Inv s N) (a : List Int) (n : Int) : Inv (cutM s a n).2 N := by
  unfold cutM; split
  · exact h
  · split
    · exact h
    · rename_i k f hf; obtain ⟨i, _, _, hm, hA, e3, e4, e5⟩ := h.at hf; split
      · exact h
      · rename_i hn; split
        · have hu := h.un
          have hl : (f.1.take n.toNat).length = n.toNat := by rw [List.length_take]; omega
          exact h.act.setFile (f' := (f.1.take n.toNat, min f.2 n)) hm hA (by simp only [hl]; omega) (by simp only; omega) (by simp only [hl]; omega) (by show (usedN s.A2 s.fm : Int) + _ ≤ s.q + _; simp only [hl]; omega)
        · exact h.act

theorem Inv.syncNames {s : St} {N : Nat} (h : Inv s N) : Inv (syncNamesM s).2 N := by
  unfold syncNamesM; split
  · exact h
  · split
    · have h2 := h.act
      have hn1 := h.nmN
      refine Inv.forget (h2.names (M := N) (n' := s.nm) (m' := s.nm) ?_ ?_ ?_ (Nat.le_refl _) h.N1 hn1 (by simpa using hn1) (fun x hx => ⟨h.ok.names x hx, h.ok.nb x hx⟩) (fun x hx => ⟨h.ok.names x hx, h.ok.nb x hx⟩) (fun t ht => by simp at ht))
      · show (s.A1 ++ [s.nm])[s.jn]? = _
        rw [List.getElem?_append_left h.ok.ln]; exact h.ok.hn
      · show (s.A1 ++ [s.nm])[s.A1.length]? = _
        simp
      · have := h.ok.ln
        show s.jn ≠ s.A1.length
        omega
    · exact h.act

theorem Inv.newF {s : St} {N : Nat} (h : Inv s N) (hN : N < 1000000) {a b : List Int} (ha : IsB a) (hb : b.length ≤ 4194304) (hr : (usedN s.A2 s.fm : Int) + b.length ≤ s.q) : Inv (s.newF a b) (N + 1) := by
  have hn1 := h.nmN
  have hs1 := h.smN
  have hx1 := h.nxN
  have hx0 := h.ok.nx1
  have hfm : setF (s.nx + 1) (some s.A2.length) s.fm = s.fm ++ [(s.nx + 1, some s.A2.length)] := setF_new fun x hx => by
    have := h.kn x hx; omega
  have hfind : ∀ i, (∃ k, findF i s.fm = some (some k)) → ∃ k, findF i (setF (s.nx + 1) (some s.A2.length) s.fm) = some (some k) := by
    rintro i ⟨k, hk⟩
    rw [findF_set]; split
    · exact ⟨_, rfl⟩
    · exact ⟨k, hk⟩
  have hVF : VF (setF (s.nx + 1) (some s.A2.length) s.fm) (s.A2 ++ [(b, 0)]) := by
    rw [hfm]; intro x hx; rcases List.mem_append.1 hx with hx | hx
    · obtain ⟨k, f, e1, e2, e3⟩ := h.ok.fm x hx; exact ⟨k, f, e1, by rw [List.getElem?_append_left (List.getElem?_eq_some_iff.1 e2).1]; exact e2, e3⟩
    · rw [List.mem_singleton.1 hx]; exact ⟨s.A2.length, (b, 0), rfl, by simp, hb, Int.le_refl _, by simp only; omega⟩
  have hrN : ((setF (s.nx + 1) (some s.A2.length) s.fm).map (·.2)).Nodup := by
    rw [hfm, List.map_append]; refine List.nodup_append.2 ⟨h.rN, by simp, fun x hx y hy e => ?_⟩
    obtain ⟨z, hz, rfl⟩ := List.mem_map.1 hx; simp only [List.map_cons, List.map_nil, List.mem_singleton] at hy; obtain ⟨k, f, e1, e2, _⟩ := h.ok.fm z hz; rw [e1] at e; rw [hy] at e; simp only [oi] at e; have := (List.getElem?_eq_some_iff.1 e2).1
    omega
  have hun : usedN (s.A2 ++ [(b, 0)]) (setF (s.nx + 1) (some s.A2.length) s.fm) = usedN s.A2 s.fm + b.length := by
    rw [hfm]; unfold usedN; rw [List.map_append, List.sum_append]; have e1 : s.fm.map (fun x => lenF (s.A2 ++ [(b, 0)]) x.2) = s.fm.map (fun x => lenF s.A2 x.2) := by
      apply List.map_congr_left
      intro x hx; obtain ⟨k, f, e1, e2, _⟩ := h.ok.fm x hx; rw [e1]; simp only [lenF]; rw [List.getElem?_append_left (List.getElem?_eq_some_iff.1 e2).1]
    rw [e1]; simp [lenF]
  have h1 : Inv { s with nx := s.nx + 1, A2 := s.A2 ++ [(b, 0)], fm := setF (s.nx + 1) (some s.A2.length) s.fm } (N + 1) :=
    { ok := { h.ok with nx1 := by simp only; omega, nx2 := by simp only; omega, names := fun x hx => hfind _ (h.ok.names x hx), snames := fun x hx => hfind _ (h.ok.snames x hx), tnames := fun t ht hne => hfind _ (h.ok.tnames t ht hne), fm := hVF }
      N1 := by omega, nxN := by simp only; omega, nmN := Nat.le_trans hn1 (by omega), smN := Nat.le_trans hs1 (by omega)
      kn := fun x hx => by
        have hx' : x ∈ s.fm ++ [(s.nx + 1, some s.A2.length)] := by rw [← hfm]; exact hx
        rcases List.mem_append.1 hx' with hx' | hx'
        · have := h.kn x hx'; simp only; omega
        · rw [List.mem_singleton.1 hx']; exact Int.le_refl _
      rN := hrN
      un := by show (usedN (s.A2 ++ [(b, 0)]) (setF (s.nx + 1) (some s.A2.length) s.fm) : Int) ≤ s.q; rw [hun]; omega }
  have hnew : ∃ k, findF (s.nx + 1) (setF (s.nx + 1) (some s.A2.length) s.fm) = some (some k) := ⟨s.A2.length, by rw [findF_set, if_pos rfl]⟩
  refine h1.names (M := N + 1) (n' := setS a (s.nx + 1) s.nm) (m' := s.sm) ?_ ?_ h.ok.ns (Nat.le_refl _) (by omega) ?_ ?_ ?_ ?_ ?_
  · rw [List.getElem?_set, if_pos rfl, if_pos h.ok.ln]
  · rw [List.getElem?_set, if_neg h.ok.ns]; exact h.ok.hs
  · have := setS_len (a := a) (i := s.nx + 1) s.nm; omega
  · rw [List.length_append, List.length_singleton]; omega
  · intro x hx; rcases setS_sub hx with hx | rfl
    · exact ⟨hfind _ (h.ok.names x hx), h.ok.nb x hx⟩
    · exact ⟨hnew, ha⟩
  · exact fun x hx => ⟨hfind _ (h.ok.snames x hx), h.ok.sb x hx⟩
  · intro t ht; rcases List.mem_append.1 ht with ht | ht
    · exact ⟨fun hne => hfind _ (h.ok.tnames t ht hne), h.ok.tb t ht⟩
    · rw [List.mem_singleton.1 ht]; exact ⟨fun _ => hnew, ha⟩

theorem Inv.append {s : St} {N : Nat} (h : Inv s N) (hN : N < 1000000) {a b : List Int} (ha : IsB a) (hb : b.length ≤ 4194304) : Inv (appendM s a b (usedN s.A2 s.fm)).2 (N + 1) := by
  have h' := h.mono (M := N + 1) (by omega) (by omega)
  have hq2 := h.ok.q2
  unfold appendM; split
  · exact h'
  · split
    · exact h'
    · split
      · split
        · exact h'
        · split
          · exact h'
          · rename_i hr; split
            · exact h.act.newF hN ha hb (by show (usedN s.A2 s.fm : Int) + b.length ≤ s.q; omega)
            · exact h'.act
      · rename_i i hi; split
        · exact h'
        · rename_i hr; split
          · split
            · rename_i k hk; split
              · rename_i f hA; obtain ⟨k2, f2, e1, e2, e3, e4, e5⟩ := h.ok.fm _ (findF_mem hk)
                simp only [oi] at e1; subst e1; rw [hA] at e2; simp only [oi] at e2; subst e2; have hfl : f.1.length ≤ usedN s.A2 s.fm := by
                  have := used_set (f' := ([], 0)) hA h.rN (findF_mem hk)
                  simp only [List.length_nil] at this; omega
                exact h'.act.setFile (f' := (f.1 ++ b, f.2)) (findF_mem hk) hA (by simp only [List.length_append]; omega) e4 (by simp only [List.length_append]; omega) (by show (usedN s.A2 s.fm : Int) + _ ≤ s.q + _; simp only [List.length_append]; omega)
              · exact h'.act
            · exact h'.act
          · exact h'.act

theorem cStep_inv {s : St} {N : Nat} {nm : Mp} {tails : List Int} : ∀ (nl : List (List Int)) (x : Int × List FileD), Inv { s with A2 := x.2 } N → Inv { s with A2 := (nl.foldl (cStep nm s.fm tails) x).2 } N
  | [], x, h => h
  | a :: nl, x, h => by
    refine cStep_inv nl _ ?_
    unfold cStep; split
    · split
      · rename_i k hk; split
        · rename_i f hA; split
          · exact h
          · obtain ⟨k2, f2, e1, e2, e3, e4, e5⟩ := h.ok.fm _ (findF_mem hk)
            simp only [oi] at e1; subst e1; have e2' : x.2[k]? = some f2 := e2
            rw [hA] at e2'; simp only [oi] at e2'; subst e2'; have hn0 : 0 ≤ (if x.1 < tails.length then min (max (tails.getD x.1.toNat 0) 0) ((f.1.length : Int) - f.2) else 0) := by split <;> omega
            have hn1 : (if x.1 < tails.length then min (max (tails.getD x.1.toNat 0) 0) ((f.1.length : Int) - f.2) else 0) ≤ (f.1.length : Int) - f.2 := by split <;> omega
            generalize (if x.1 < tails.length then min (max (tails.getD x.1.toNat 0) 0) ((f.1.length : Int) - f.2) else 0) = n at hn0 hn1
            have hl : (f.1.take (f.2 + n).toNat).length = (f.2 + n).toNat := by rw [List.length_take]; omega
            have hu := h.un
            exact h.setFile (f' := (f.1.take (f.2 + n).toNat, f.2 + n)) (findF_mem hk) hA (by simp only [hl]; omega) (by simp only; omega) (by simp only [hl]; omega) (by simp only [hl]; simp only at hu; omega)
        · exact h
      · exact h
    · exact h

theorem Inv.crash {s : St} {N : Nat} (h : Inv s N) (kn : Int) (tails : List Int) : Inv (crashM s kn tails) N := by
  obtain ⟨hc, _⟩ := h.ok.crash kn; have hlen : (crashNm s kn).length ≤ N := by
    have h1 := turns_len (s.ts.take (crashN s kn)) s.sm
    have h2 := h.smN
    have h4 : (s.ts.take (crashN s kn)).length ≤ s.ts.length := by rw [List.length_take]; omega
    unfold crashNm; omega
  have ht : Inv (s.turned (crashNm s kn)) N := by
    refine h.names (M := N) (n' := crashNm s kn) (m' := crashNm s kn) ?_ ?_ ?_ (Nat.le_refl _) h.N1 hlen (by simpa using hlen) hc hc (fun t ht => by simp at ht)
    · simp
    · simp
    · simp
  have h3 := cStep_inv (s := (s.turned (crashNm s kn)).forget) (nm := crashNm s kn) (tails := tails) (namesOf (crashNm s kn)) (0, s.A2) ht.forget
  exact h3.count (by omega) (by omega) (by omega) (by omega)

theorem Inv.new {q : Int} {A1 : List Mp} {A2 : List FileD} (h1 : 0 ≤ q) (h2 : q ≤ 4194304) : Inv (newSt q A1 A2) 0 := by
  have e1 : (newSt q A1 A2).nm = [] := by simp [newSt, St.nm]
  have e2 : (newSt q A1 A2).sm = [] := by simp [newSt, St.sm]
  refine { ok := { ln := by simp [newSt], ls := by simp [newSt], ns := by simp [newSt], st1 := by simp [newSt], st2 := by simp [newSt], fa1 := by simp [newSt], fa2 := by simp [newSt], q1 := h1, q2 := h2, nx1 := by simp [newSt], nx2 := by simp [newSt], ts := by simp [newSt], nl := ?_, sl := ?_, names := ?_, snames := ?_, tnames := ?_, nb := ?_, sb := ?_, tb := ?_, fm := ?_ }, N1 := by omega, nxN := by simp [newSt], nmN := ?_, smN := ?_, kn := ?_, rN := by simp [newSt], un := ?_ }
  · rw [e1]; simp
  · rw [e2]; simp
  · rw [e1]; simp
  · rw [e2]; simp
  · intro t ht; simp [newSt] at ht
  · rw [e1]; simp
  · rw [e2]; simp
  · intro t ht; simp [newSt] at ht
  · intro x hx; simp [newSt] at hx
  · rw [e1]; simp
  · rw [e2]; simp [newSt]
  · intro x hx; simp [newSt] at hx
  · simp [newSt, usedN]; exact h1
end Go.Proofs.Ytmglkddddpipgaa

namespace Go.Proofs.Ytmglkddddpipgaa
open Sx Go.RowKit

abbrev AcT : Ty := .pair (.int .i64) (.pair .str (.pair .str (.pair (.sl (.int .u8)) (.pair (.int .i64) (.pair (.int .i64) (.sl (.int .i64)))))))
abbrev ActD : Type := Int × List Int × List Int × List Int × Int × Int × List Int

theorem dropI' {α : Type} {l : List α} {i : Int} {x : α} (h0 : 0 ≤ i) (hx : l[i.toNat]? = some x) : l.drop i.toNat = x :: l.drop (i + 1).toNat := by
  obtain ⟨h1, h2⟩ := List.getElem?_eq_some_iff.1 hx
  rw [List.drop_eq_getElem_cons h1, h2, show (i + 1).toNat = i.toNat + 1 by omega]

end Go.Proofs.Ytmglkddddpipgaa

namespace Go.Proofs.Ytmglkddddpipgaa
open Sx Go.RowKit

end Go.Proofs.Ytmglkddddpipgaa
