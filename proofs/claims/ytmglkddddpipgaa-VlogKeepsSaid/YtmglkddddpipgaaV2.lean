/-
  A log of values behind a crash; the law of the text.
-/
import Derived.Test.YtmglkddddpipgaaV1
set_option linter.unusedVariables false
set_option linter.unusedSimpArgs false
namespace Go.Proofs.Ytmglkddddpipgaa
open Sx Go.RowKit

abbrev Fv : List Int := vName 3
theorem fv_eq : Fv = [118, 48, 48, 48, 48, 48, 48, 48, 48, 48, 51] := by decide
theorem fv_may : mayB Fv = true := by decide
theorem fv_isB : IsB Fv := by rw [fv_eq]; unfold IsB; decide
theorem fv_one (i : Int) : findS Fv [(Fv, i)] = some i := by simp [findS, findM, keyEq]
theorem fv_ff (k : Option Nat) : findF 1 [(1, k)] = some k := by simp [findF, findM, keyEq]
theorem fv_names (i : Int) : namesOf [(Fv, i)] = [Fv] := by
  have := isB_back fv_isB
  simp only [namesOf, List.map_cons, List.map_nil, List.mergeSort_singleton, this]

def sA (c : List Int) (sf : Int) : St := ⟨4194304, 0, 1, [([], Fv, 1)], 1, -1, 0, false, [[(Fv, 1)], []], [(c, sf)], [(1, some 0)]⟩
def sZ (st : Int) (de : Bool) : St := ⟨4194304, 0, 2, [], 0, st, 0, de, [[], [], []], [], []⟩
def sT (c : List Int) (sf st : Int) (de : Bool) : St := ⟨4194304, 0, 2, [], 1, st, 0, de, [[(Fv, 1)], [], [(Fv, 1)]], [(c, sf)], [(1, some 0)]⟩
def sU (c : List Int) (st : Int) (de : Bool) : St := ⟨4194304, 0, 2, [([], Fv, 1)], 1, st, 0, de, [[(Fv, 1)], [], []], [(c, 0)], [(1, some 0)]⟩
abbrev s0 : St := newSt 4194304 [] []
theorem usedV (c : List Int) (sf : Int) : usedN [(c, sf)] [(1, some 0)] = c.length := by simp [usedN, lenF]
theorem usedV0 : usedN [] [] = 0 := rfl

def stN1 (st : Int) : Int := if st > 0 then st - 1 else st
theorem app_old {jn js : Nat} {ts : List TurnD} {nx st : Int} {A1 : List Mp} {b c : List Int} {sf : Int} (h4 : (A1[jn]?).getD [] = [(Fv, 1)]) (hl : c.length + b.length ≤ 4194304) :
    appendM ⟨4194304, jn, js, ts, nx, st, 0, false, A1, [(c, sf)], [(1, some 0)]⟩ Fv b (usedN [(c, sf)] [(1, some 0)]) = if st = 0 then (9, ⟨4194304, jn, js, ts, nx, st, 0, true, A1, [(c, sf)], [(1, some 0)]⟩) else (0, ⟨4194304, jn, js, ts, nx, stN1 st, 0, false, A1, [(c ++ b, sf)], [(1, some 0)]⟩) := by
  have e1 : ¬ ((b.length : Int) > 4194304 - (c.length : Int)) := by omega
  unfold appendM St.nm; simp only [h4, fv_may, fv_one, usedV, if_neg e1, fv_ff, List.getElem?_cons_zero, List.set_cons_zero, Bool.false_eq_true, if_false, reduceCtorEq]; by_cases c0 : st = 0
  · subst c0; rfl
  · have e : (⟨4194304, jn, js, ts, nx, st, 0, false, A1, [(c, sf)], [(1, some 0)]⟩ : St).act = (0, ⟨4194304, jn, js, ts, nx, stN1 st, 0, false, A1, [(c, sf)], [(1, some 0)]⟩) := by
      simp only [St.act, actM, if_neg c0, show ¬ ((0 : Int) > 0) by omega, if_false, stN1]
    simp only [e, if_true, if_neg c0]
theorem app_new {jn js : Nat} {ts : List TurnD} {nx st : Int} {A1 : List Mp} {b : List Int} (h4 : (A1[jn]?).getD [] = []) (hl : b.length ≤ 4194304) :
    appendM ⟨4194304, jn, js, ts, nx, st, 0, false, A1, [], []⟩ Fv b (usedN [] []) = if st = 0 then (9, ⟨4194304, jn, js, ts, nx, st, 0, true, A1, [], []⟩) else (0, ⟨4194304, jn, js, ts ++ [([], Fv, nx + 1)], nx + 1, stN1 st, 0, false, A1.set jn [(Fv, nx + 1)], [(b, 0)], [(nx + 1, some 0)]⟩) := by
  have e1 : ¬ ((b.length : Int) > 4194304 - (0 : Nat)) := by omega
  have e2 : findS Fv [] = none := rfl
  unfold appendM St.nm; simp only [h4, fv_may, e2, usedV0, Bool.false_eq_true, if_false, reduceCtorEq, List.length_nil, show ¬ (0 ≥ 5000) by omega]; refine (if_neg (show ¬ ((b.length : Int) > 4194304 - ((0 : Nat) : Int)) by omega)).trans ?_
  by_cases c0 : st = 0
  · subst c0; rfl
  · have e : (⟨4194304, jn, js, ts, nx, st, 0, false, A1, [], []⟩ : St).act = (0, ⟨4194304, jn, js, ts, nx, stN1 st, 0, false, A1, [], []⟩) := by
      simp only [St.act, actM, if_neg c0, show ¬ ((0 : Int) > 0) by omega, if_false, stN1]
    simp only [e, if_true, if_neg c0, St.newF, St.nm, h4]; rfl

theorem put_s0 {b : List Int} (hl : b.length ≤ 4194304) : appendM s0 Fv b (usedN s0.A2 s0.fm) = (0, sA b 0) :=
  (app_new (jn := 0) (js := 1) (ts := []) (nx := 0) (st := -1) (A1 := [[], []]) rfl hl).trans rfl
theorem put_sA {c b : List Int} (hl : c.length + b.length ≤ 4194304) : appendM (sA c 0) Fv b (usedN (sA c 0).A2 (sA c 0).fm) = (0, sA (c ++ b) 0) :=
  (app_old (jn := 0) (js := 1) (ts := [([], Fv, 1)]) (nx := 1) (st := -1) (A1 := [[(Fv, 1)], []]) rfl hl).trans rfl

def Two (A : List Int) (s : St) (c : List Int) (st : Int) (de : Bool) : Prop :=
  s = sT c A.length st de ∨ (A = [] ∧ c = [] ∧ s = sZ st de) ∨ (A = [] ∧ s = sU c st de)
theorem Two.put {A : List Int} {s : St} {c b : List Int} {st : Int} (h : Two A s c st false) (hl : c.length + b.length ≤ 4194304) :
    (appendM s Fv b (usedN s.A2 s.fm)).1 = 9 ∧ Two A (appendM s Fv b (usedN s.A2 s.fm)).2 c st true ∨
    (appendM s Fv b (usedN s.A2 s.fm)).1 = 0 ∧ Two A (appendM s Fv b (usedN s.A2 s.fm)).2 (c ++ b) (stN1 st) false := by
  rcases h with rfl | ⟨rfl, rfl, rfl⟩ | ⟨rfl, rfl⟩
  · have e : appendM (sT c A.length st false) Fv b (usedN (sT c A.length st false).A2 (sT c A.length st false).fm) = if st = 0 then (9, sT c A.length st true) else (0, sT (c ++ b) A.length (stN1 st) false) := app_old (A1 := [[(Fv, 1)], [], [(Fv, 1)]]) rfl hl
    rw [e]; by_cases h0 : st = 0
    · rw [if_pos h0]; exact .inl ⟨rfl, .inl rfl⟩
    · rw [if_neg h0]; exact .inr ⟨rfl, .inl rfl⟩
  · have e : appendM (sZ st false) Fv b (usedN (sZ st false).A2 (sZ st false).fm) = if st = 0 then (9, sZ st true) else (0, sU b (stN1 st) false) := (app_new (A1 := [[], [], []]) rfl (by simpa using hl)).trans rfl
    rw [e]; by_cases h0 : st = 0
    · rw [if_pos h0]; exact .inl ⟨rfl, .inr (.inl ⟨rfl, rfl, rfl⟩)⟩
    · rw [if_neg h0]; exact .inr ⟨rfl, .inr (.inr ⟨rfl, rfl⟩)⟩
  · have e : appendM (sU c st false) Fv b (usedN (sU c st false).A2 (sU c st false).fm) = if st = 0 then (9, sU c st true) else (0, sU (c ++ b) (stN1 st) false) := app_old (A1 := [[(Fv, 1)], [], []]) rfl hl
    rw [e]; by_cases h0 : st = 0
    · rw [if_pos h0]; exact .inl ⟨rfl, .inr (.inr ⟨rfl, rfl⟩)⟩
    · rw [if_neg h0]; exact .inr ⟨rfl, .inr (.inr ⟨rfl, rfl⟩)⟩

theorem file_one {s : St} {f : FileD} (h4 : s.nm = [(Fv, 1)]) (h5 : s.fm = [(1, some 0)]) (h6 : s.A2 = [f]) : s.file Fv = some (0, f) := by
  unfold St.file; simp only [h4, fv_one, h5, fv_ff, h6, List.getElem?_cons_zero, Option.map_some]
theorem file_none {s : St} (h4 : s.nm = []) : s.file Fv = none := by
  unfold St.file; rw [h4]; rfl

theorem sync_A (c : List Int) : syncV (sA c 0) 3 = (0, sA c c.length) := by
  have hf : (sA c 0).file Fv = some (0, (c, 0)) := file_one rfl rfl rfl
  unfold syncV syncM; show (if ((sA c 0).file Fv).isSome = true then _ else _) = _
  simp only [hf, Option.isSome_some, if_true]; rfl
theorem sync_0 : syncV s0 3 = (0, s0) := by
  have hf : s0.file Fv = none := file_none rfl
  unfold syncV; show (if (s0.file Fv).isSome = true then _ else _) = _
  simp only [hf, Option.isSome_none, Bool.false_eq_true, if_false]
theorem names_A (c : List Int) : syncNamesM (sA c c.length) = (0, sT c c.length (-1) false) := by
  unfold syncNamesM; rw [if_neg (show ¬ ((sA c c.length).de = true) from Bool.false_ne_true), if_pos (show (sA c c.length).act.1 = 0 from rfl)]; rfl
theorem names_0 : syncNamesM s0 = (0, sZ (-1) false) := rfl

theorem Two.crash {A : List Int} {s : St} {c : List Int} {st : Int} {de : Bool} (h : Two A s c st de) (hA : A.length ≤ c.length) (kn : Int) (tails : List Int) :
    (crashM s kn tails).de = false ∧ (crashM s kn tails).st = -1 ∧ (crashM s kn tails).fa = 0 ∧
    ((A = [] ∧ (crashM s kn tails).file Fv = none) ∨ ∃ (m : Nat) (sf : Int), A.length ≤ m ∧ (crashM s kn tails).file Fv = some (0, (c.take m, sf))) := by
  refine ⟨rfl, rfl, rfl, ?_⟩
  have one : ∀ {s : St} {sf : Int}, crashNm s kn = [(Fv, 1)] → s.fm = [(1, some 0)] → s.A2 = [(c, sf)] → (A.length : Int) ≤ sf → sf ≤ c.length → ∃ (m : Nat) (sf : Int), A.length ≤ m ∧ (crashM s kn tails).file Fv = some (0, (c.take m, sf)) := by
    intro s sf h1 h2 h3 h4 h5; have hnm : (crashM s kn tails).nm = [(Fv, 1)] := by
      show ((s.A1 ++ [crashNm s kn, crashNm s kn])[s.A1.length]?).getD [] = _
      rw [h1]; simp
    have hnm1 : (s.turned (crashNm s kn)).nm = [(Fv, 1)] := by
      show ((s.A1 ++ [crashNm s kn, crashNm s kn])[s.A1.length]?).getD [] = _
      rw [h1]; simp
    have hsm1 : (s.turned (crashNm s kn)).sm = [(Fv, 1)] := by
      show ((s.A1 ++ [crashNm s kn, crashNm s kn])[s.A1.length + 1]?).getD [] = _
      rw [h1]; simp
    have hfm : (s.turned (crashNm s kn)).forget.fm = [(1, some 0)] := by
      show keepF (s.turned (crashNm s kn)).nm (s.turned (crashNm s kn)).sm [] s.fm = _
      rw [hnm1, hsm1, h2]; rfl
    have hA2 : (crashM s kn tails).A2 = (cStep [(Fv, 1)] [(1, some 0)] tails (0, [(c, sf)]) Fv).2 := by
      show ((namesOf (crashNm s kn)).foldl (cStep (crashNm s kn) (s.turned (crashNm s kn)).forget.fm tails) (0, s.A2)).2 = _
      rw [hfm, h1, h3, fv_names]; rfl
    have hfm' : (crashM s kn tails).fm = [(1, some 0)] := hfm
    have hcs : ∃ (m : Nat) (sf' : Int), A.length ≤ m ∧ (cStep [(Fv, 1)] [(1, some 0)] tails (0, [(c, sf)]) Fv).2 = [(c.take m, sf')] := by
      unfold cStep; simp only [fv_one, fv_ff, List.getElem?_cons_zero]; split
      · rename_i hq; exact ⟨c.length, sf, hA, by rw [List.take_length]⟩
      · have hn : 0 ≤ (if (0 : Int) < tails.length then min (max (tails.getD (0 : Int).toNat 0) 0) ((c.length : Int) - sf) else 0) := by split <;> omega
        refine ⟨_, _, ?_, by simp only [List.set_cons_zero]; rfl⟩
        omega
    obtain ⟨m, sf', hm, e⟩ := hcs; rw [e] at hA2; exact ⟨m, sf', hm, file_one hnm hfm' hA2⟩
  have none' : ∀ {s : St}, crashNm s kn = [] → (crashM s kn tails).file Fv = none := by
    intro s h1; refine file_none ?_
    show ((s.A1 ++ [crashNm s kn, crashNm s kn])[s.A1.length]?).getD [] = _
    rw [h1]; simp
  rcases h with rfl | ⟨rfl, rfl, rfl⟩ | ⟨rfl, rfl⟩
  · refine .inr (one (sf := A.length) ?_ rfl rfl (by omega) (by omega))
    unfold crashNm; show (([] : List TurnD).take _).foldl _ _ = _
    rw [List.take_nil]; rfl
  · refine .inl ⟨rfl, none' ?_⟩
    unfold crashNm; show (([] : List TurnD).take _).foldl _ _ = _
    rw [List.take_nil]; rfl
  · have hc : crashN (sU c st de) kn = 0 ∨ crashN (sU c st de) kn = 1 := by
      have : crashN (sU c st de) kn ≤ 1 := by
        unfold crashN; have : (sU c st de).ts.length = 1 := rfl
        omega
      omega
    rcases hc with hc | hc
    · refine .inl ⟨rfl, none' ?_⟩
      unfold crashNm; rw [hc]; rfl
    · refine .inr (one (sf := 0) ?_ rfl rfl (by simp) (by omega))
      unfold crashNm; rw [hc]; rfl

end Go.Proofs.Ytmglkddddpipgaa

namespace Go.Proofs.Ytmglkddddpipgaa
open Sx Go.RowKit

def ptsL : Int → List (List Int) → List Pt
  | _, [] => []
  | z, v :: r => ptAt 3 z v :: ptsL (z + (putF (2, v)).length) r
theorem vfr_app (l m : List (List Int)) : putFs (vfr (l ++ m)) = putFs (vfr l) ++ putFs (vfr m) := by
  unfold vfr; rw [List.map_append, putFs_app]
theorem ptsL_app : ∀ (l m : List (List Int)) (z : Int), ptsL z (l ++ m) = ptsL z l ++ ptsL (z + (putFs (vfr l)).length) m
  | [], m, z => by simp [ptsL, vfr, putFs]
  | v :: l, m, z => by
    simp only [List.cons_append, ptsL, ptsL_app l m, vfr, List.map_cons, putFs, List.length_append]; rw [Int.add_assoc]; rfl
theorem ptsL_len : ∀ (l : List (List Int)) (z : Int), (ptsL z l).length = l.length
  | [], _ => rfl
  | v :: l, z => by simp only [ptsL, List.length_cons, ptsL_len l]
theorem ptsL_at {l : List (List Int)} {i : Nat} {v : List Int} (h : l[i]? = some v) :
    (ptsL 0 l)[i]? = some (ptAt 3 (putFs (vfr (l.take i))).length v) ∧ ∃ r, putFs (vfr l) = putFs (vfr (l.take i)) ++ (putF (2, v) ++ r) := by
  obtain ⟨hi, hv⟩ := List.getElem?_eq_some_iff.1 h
  have e : l = l.take i ++ (v :: l.drop (i + 1)) := by
    conv => lhs; rw [← List.take_append_drop i l, List.drop_eq_getElem_cons hi, hv]
  have hl : (l.take i).length = i := by rw [List.length_take]; omega
  refine ⟨?_, putFs (vfr (l.drop (i + 1))), ?_⟩
  · conv => lhs; rw [e]
    rw [ptsL_app, List.getElem?_append_right (by rw [ptsL_len, hl]; omega), ptsL_len, hl, Nat.sub_self]
    simp only [ptsL, List.getElem?_cons_zero, Int.zero_add]
  · conv => lhs; rw [e]
    rw [vfr_app]; rfl
theorem putF_at (v : List Int) : putF (2, v) = (Sx.one v.length ++ [2]) ++ (v ++ sum4 (crcOf (2 :: v))) := by
  simp only [putF, List.append_assoc, List.singleton_append]
theorem head_at (v : List Int) : headN v.length = (Sx.one v.length ++ [2]).length := by
  unfold headN; rw [List.length_append, List.length_singleton]
theorem slice_at {P v r : List Int} {m : Nat} (hin : P.length + headN v.length + v.length ≤ ((P ++ (putF (2, v) ++ r)).take m).length) :
    (((P ++ (putF (2, v) ++ r)).take m).take (P.length + headN v.length + v.length)).drop (P.length + headN v.length) = v := by
  have h1 : P.length + headN v.length + v.length ≤ m := by rw [List.length_take] at hin; omega
  rw [List.take_take, Nat.min_eq_left h1, putF_at, head_at, List.drop_take]; have e : P ++ ((Sx.one v.length ++ [2]) ++ (v ++ sum4 (crcOf (2 :: v))) ++ r) = (P ++ (Sx.one v.length ++ [2])) ++ (v ++ (sum4 (crcOf (2 :: v)) ++ r)) := by simp only [List.append_assoc]
  rw [e, ← List.length_append, List.drop_left, Nat.add_sub_cancel_left, List.take_left]

theorem vals_len : ∀ {l : List (List Int)}, (∀ v ∈ l, v.length ≤ 500) → (putFs (vfr l)).length ≤ 520 * l.length
  | [], _ => by simp [vfr, putFs]
  | v :: l, h => by
    have ih := vals_len (l := l) fun u hu => h u (List.mem_cons_of_mem _ hu)
    have hv := h v (by simp)
    have hh := headN_r (n := v.length) (by omega)
    have e : (putF (2, v)).length = headN v.length + v.length + 4 := by
      rw [putF_len]; unfold headN; simp only
    simp only [vfr, List.map_cons, putFs, List.length_append, List.length_cons] at ih ⊢; omega
theorem vals_byte {l : List (List Int)} (h : ∀ v ∈ l, v.length ≤ 500 ∧ Bts v) : Bts (putFs (vfr l)) := by
  refine putFs_byte fun f hf => ?_
  obtain ⟨v, hv, rfl⟩ := List.mem_map.1 hf; exact ⟨okF_v (by have := (h v hv).1; omega), (h v hv).2⟩

theorem file_set {s s1 : St} {k : Nat} {f f' : FileD} (h : s.file Fv = some (k, f)) (h1 : s1.nm = s.nm) (h2 : s1.fm = s.fm) (h3 : s1.A2 = s.A2.set k f') : s1.file Fv = some (k, f') := by
  unfold St.file at h ⊢
  rw [h1, h2]; cases hi : findS Fv s.nm with
  | none => rw [hi] at h; cases h
  | some i =>
    rw [hi] at h; simp only at h ⊢
    cases hk : findF i s.fm with
    | none => rw [hk] at h; cases h
    | some o => cases o with
      | none => rw [hk] at h; cases h
      | some k' =>
        rw [hk] at h; simp only at h ⊢
        obtain ⟨f0, hf0, e⟩ := Option.map_eq_some_iff.1 h; simp only [Prod.mk.injEq] at e; obtain ⟨rfl, rfl⟩ := e; rw [h3, List.getElem?_set, if_pos rfl, if_pos (List.getElem?_eq_some_iff.1 hf0).1]; rfl

theorem bytes_some {s : St} {k : Nat} {f : FileD} (hd : s.de = false) (h : s.file Fv = some (k, f)) : (bytesM s 3).1 = f.1 := by
  unfold bytesM; rw [hd, show vName 3 = Fv from rfl, h]; rfl
theorem bytes_none {s : St} (hd : s.de = false) (h : s.file Fv = none) : (bytesM s 3).1 = [] := by
  unfold bytesM; rw [hd, show vName 3 = Fv from rfl, h]; rfl

theorem Two.back {a bs : List (List Int)} {s : St} {st : Int} {de : Bool} {N : Nat} (h : Two (putFs (vfr a)) s (putFs (vfr (a ++ bs))) st de) (hi : Inv s N) (hN : N < 100000)
    (hl : (a ++ bs).length ≤ 20) (hv : ∀ v ∈ a ++ bs, v.length ≤ 500 ∧ Bts v) (kn : Int) (tails : List Int) :
    Ok (crashM s kn tails) ∧ (crashM s kn tails).de = false ∧ Bts (bytesM (crashM s kn tails) 3).1 ∧ (bytesM (crashM s kn tails) 3).1.length ≤ 4194304 ∧ (openM (crashM s kn tails) 3).1 = 0 ∧
    Ok (openM (crashM s kn tails) 3).2 ∧ (openM (crashM s kn tails) 3).2.de = false ∧ Bts (bytesM (openM (crashM s kn tails) 3).2 3).1 ∧ (bytesM (openM (crashM s kn tails) 3).2 3).1.length ≤ 4194304 ∧
    ∀ (i : Nat) (v : List Int), (a ++ bs)[i]? = some v → ∃ z : Int, 0 ≤ z ∧ z ≤ 4194304 ∧ v.length ≤ 500 ∧ (ptsL 0 (a ++ bs))[i]? = some (ptAt 3 z v) ∧
      (inB (bytesM (openM (crashM s kn tails) 3).2 3).1 (z + headN v.length) v.length (crcOf v) → ((bytesM (openM (crashM s kn tails) 3).2 3).1.take (z + headN v.length + v.length).toNat).drop (z + headN v.length).toNat = v) ∧
      (i < a.length → inB (bytesM (openM (crashM s kn tails) 3).2 3).1 (z + headN v.length) v.length (crcOf v)) := by
  have hlen : (putFs (vfr (a ++ bs))).length ≤ 10400 := by
    have := vals_len fun v hv' => (hv v hv').1
    omega
  have hbt : Bts (putFs (vfr (a ++ bs))) := vals_byte hv
  have hA : (putFs (vfr a)).length ≤ (putFs (vfr (a ++ bs))).length := by rw [vfr_app, List.length_append]; omega
  have hva : ∀ v ∈ a, v.length ≤ 4096 := fun v hv' => by have := (hv v (List.mem_append_left _ hv')).1; omega
  have hic : Inv (crashM s kn tails) N := hi.crash kn tails
  obtain ⟨hde, hst, hfa, hfile⟩ := h.crash hA kn tails; have fin : ∀ D : List Int, (∃ m : Nat, D = (putFs (vfr (a ++ bs))).take m) → (putFs (vfr a)).length ≤ D.length →
      Bts D ∧ D.length ≤ 4194304 ∧ ∀ (i : Nat) (v : List Int), (a ++ bs)[i]? = some v → ∃ z : Int, 0 ≤ z ∧ z ≤ 4194304 ∧ v.length ≤ 500 ∧ (ptsL 0 (a ++ bs))[i]? = some (ptAt 3 z v) ∧
        (inB D (z + headN v.length) v.length (crcOf v) → (D.take (z + headN v.length + v.length).toNat).drop (z + headN v.length).toNat = v) ∧
        (i < a.length → inB D (z + headN v.length) v.length (crcOf v)) := by
    rintro D ⟨m, hD⟩ hDA
    have hDl : D.length ≤ (putFs (vfr (a ++ bs))).length := by rw [hD, List.length_take]; omega
    refine ⟨fun c hc => hbt c (by rw [hD] at hc; exact List.mem_of_mem_take hc), by omega, fun i v hiv => ?_⟩
    obtain ⟨hp, r, hr⟩ := ptsL_at hiv; have hvm := hv v (List.mem_of_getElem? hiv)
    have hPl : (putFs (vfr ((a ++ bs).take i))).length ≤ (putFs (vfr (a ++ bs))).length := by rw [hr, List.length_append]; omega
    have sl : (putFs (vfr ((a ++ bs).take i))).length + headN v.length + v.length ≤ D.length →
        (D.take ((((putFs (vfr ((a ++ bs).take i))).length : Nat) : Int) + headN v.length + v.length).toNat).drop ((((putFs (vfr ((a ++ bs).take i))).length : Nat) : Int) + headN v.length).toNat = v := by
      intro hin; rw [show ((((putFs (vfr ((a ++ bs).take i))).length : Nat) : Int) + headN v.length + v.length).toNat = (putFs (vfr ((a ++ bs).take i))).length + headN v.length + v.length by omega, show ((((putFs (vfr ((a ++ bs).take i))).length : Nat) : Int) + headN v.length).toNat = (putFs (vfr ((a ++ bs).take i))).length + headN v.length by omega]; rw [hD, hr] at hin ⊢; exact slice_at hin
    refine ⟨((putFs (vfr ((a ++ bs).take i))).length : Nat), by omega, by omega, hvm.1, hp, fun hin => ?_, fun hia => ?_⟩
    · obtain ⟨i1, i2, _⟩ := hin; exact sl (by omega)
    · have hin : (putFs (vfr ((a ++ bs).take i))).length + headN v.length + v.length ≤ D.length := by
        have hiv' : a[i]? = some v := by rw [← hiv, List.getElem?_append_left hia]
        obtain ⟨_, r', hr'⟩ := ptsL_at hiv'; have ht : (a ++ bs).take i = a.take i := by rw [List.take_append_of_le_length (by omega)]
        have e : (putF (2, v)).length = headN v.length + v.length + 4 := by rw [putF_len]; unfold headN; simp only
        have hal : (putFs (vfr a)).length = (putFs (vfr (a.take i))).length + ((putF (2, v)).length + r'.length) := by rw [hr', List.length_append, List.length_append]
        rw [ht]; omega
      exact ⟨by omega, by omega, by rw [sl hin]⟩
  rcases hfile with ⟨hA0, hfn⟩ | ⟨m, sf, hm, hfs⟩
  · have hb := bytes_none hde hfn
    have he : openM (crashM s kn tails) 3 = (0, crashM s kn tails) := by
      unfold openM; have : endM (crashM s kn tails) 3 = 0 := by
        unfold endM; rw [hb]; simp only [List.length_nil, walkL, firstF_nil]
      rw [this, hb]; rfl
    obtain ⟨f1, f2, f3⟩ := fin [] ⟨0, by simp⟩ (by rw [hA0]; exact Nat.le_refl _)
    rw [he, hb]; exact ⟨hic.ok, hde, f1, f2, rfl, hic.ok, hde, f1, f2, f3⟩
  · have hb : (bytesM (crashM s kn tails) 3).1 = (putFs (vfr (a ++ bs))).take m := bytes_some hde hfs
    have hBA : (putFs (vfr a)).length ≤ ((putFs (vfr (a ++ bs))).take m).length := by rw [List.length_take]; omega
    obtain ⟨g1, g2, g3⟩ := fin _ ⟨m, rfl⟩ hBA
    have hpre : ∃ r, (putFs (vfr (a ++ bs))).take m = putFs (vfr a) ++ r := by
      rw [vfr_app, List.take_append]; exact ⟨_, by rw [List.take_of_length_le hm]⟩
    have hw1 := walk_le 3 (((putFs (vfr (a ++ bs))).take m).length + 1) 0 _ g1
    have hw2 : ((putFs (vfr a)).length : Int) ≤ (walkL 3 (((putFs (vfr (a ++ bs))).take m).length + 1) 0 ((putFs (vfr (a ++ bs))).take m)).2 := by
      obtain ⟨r, hr⟩ := hpre; have := walk_ge 3 a ((((putFs (vfr (a ++ bs))).take m).length) + 1) 0 r hva (by rw [← hr]; exact g1) (by rw [← hr]; omega)
      rw [← hr] at this; omega
    have hend : endM (crashM s kn tails) 3 = (walkL 3 (((putFs (vfr (a ++ bs))).take m).length + 1) 0 ((putFs (vfr (a ++ bs))).take m)).2 := by
      unfold endM; rw [hb]
    rw [← hend] at hw1 hw2; by_cases hc : endM (crashM s kn tails) 3 < ((putFs (vfr (a ++ bs))).take m).length
    · have he : openM (crashM s kn tails) 3 = cutM (crashM s kn tails) Fv (endM (crashM s kn tails) 3) := by
        unfold openM; rw [hb, if_pos hc]
      have hact : (crashM s kn tails).act = (0, crashM s kn tails) := rfl
      have hcut : cutM (crashM s kn tails) Fv (endM (crashM s kn tails) 3) = (0, { crashM s kn tails with A2 := (crashM s kn tails).A2.set 0 (((putFs (vfr (a ++ bs))).take m).take (endM (crashM s kn tails) 3).toNat, min sf (endM (crashM s kn tails) 3)) }) := by
        unfold cutM; rw [if_neg (by rw [hde]; exact Bool.false_ne_true), hfs]
        simp only
        rw [if_neg (by omega), hact]; rfl
      have hf2 : ({ crashM s kn tails with A2 := (crashM s kn tails).A2.set 0 (((putFs (vfr (a ++ bs))).take m).take (endM (crashM s kn tails) 3).toNat, min sf (endM (crashM s kn tails) 3)) } : St).file Fv = some (0, (((putFs (vfr (a ++ bs))).take m).take (endM (crashM s kn tails) 3).toNat, min sf (endM (crashM s kn tails) 3))) := file_set hfs rfl rfl rfl
      have hb2 := bytes_some (s := { crashM s kn tails with A2 := (crashM s kn tails).A2.set 0 (((putFs (vfr (a ++ bs))).take m).take (endM (crashM s kn tails) 3).toNat, min sf (endM (crashM s kn tails) 3)) }) hde hf2
      simp only at hb2
      have hik := hic.cut Fv (endM (crashM s kn tails) 3)
      rw [hcut] at hik; obtain ⟨f1, f2, f3⟩ := fin (((putFs (vfr (a ++ bs))).take m).take (endM (crashM s kn tails) 3).toNat) ⟨min (endM (crashM s kn tails) 3).toNat m, by rw [List.take_take]⟩ (by rw [List.length_take]; omega)
      rw [he, hcut]; simp only
      rw [hb2, hb]; exact ⟨hic.ok, hde, g1, g2, trivial, hik.ok, hde, f1, f2, f3⟩
    · have he : openM (crashM s kn tails) 3 = (0, crashM s kn tails) := by
        unfold openM; rw [hb, if_neg hc]
      rw [he]; simp only
      rw [hb]; exact ⟨hic.ok, hde, g1, g2, trivial, hic.ok, hde, g1, g2, g3⟩
end Go.Proofs.Ytmglkddddpipgaa

namespace Go.Proofs.Ytmglkddddpipgaa
open Sx Go.RowKit

abbrev OrT : Ty := (Ty.sl (.int .i64)).pair (.sl (.sl (.sl (.int .u8))))
abbrev WdT : Ty := (Ty.ref 0).pair ((Ty.pt LgT).pair (OrT.pair (.sl PtT)))
def wdv (a : Nat) (g : (Ty.pt LgT).den) (l : List Int) (o : List (List (List Int))) (ps : List Pt) : (Ty.pt WdT).den := some (some a, g, (l, o), ps)
theorem mkpD_W (a : Nat) (g : (Ty.pt LgT).den) (l : List Int) (o : List (List (List Int))) (ps : List Pt) :
    mkpD WdT [⟨.ref 0, some a⟩, ⟨.pt LgT, g⟩, ⟨.sl (.int .i64), l⟩, ⟨.sl (.sl (.sl (.int .u8))), o⟩, ⟨.sl PtT, ps⟩] = some ⟨.pt WdT, wdv a g l o ps⟩ := rfl
theorem o_podW {Φ : Nat → Cont} {k : IR} {R : Type} {lv n : Nat} {ρ : List (Nat × D)} {kr : List D → Option R} {kj : Nat → List D → Option R} (a : Nat) (g : (Ty.pt LgT).den) (l : List Int) (o : List (List (List Int))) (ps : List Pt) :
    opD Φ (.pod WdT) [⟨.pt WdT, wdv a g l o ps⟩] k R lv n ρ kr kj = deb Φ k R lv (n + 5) ((n + 4, ⟨.sl PtT, ps⟩) :: (n + 3, ⟨.sl (.sl (.sl (.int .u8))), o⟩) :: (n + 2, ⟨.sl (.int .i64), l⟩) :: (n + 1, ⟨.pt LgT, g⟩) :: (n, ⟨.ref 0, some a⟩) :: ρ) kr kj := by
  simp only [opD, evalPr, wdv]; rfl
theorem o_nppW {Φ : Nat → Cont} {k : IR} {R : Type} {lv n : Nat} {ρ : List (Nat × D)} {kr : List D → Option R} {kj : Nat → List D → Option R} (a : Nat) (g : (Ty.pt LgT).den) (l : List Int) (o : List (List (List Int))) (ps : List Pt) :
    opD Φ .npp [⟨.pt WdT, wdv a g l o ps⟩] k R lv n ρ kr kj = deb Φ k R lv n ρ kr kj := rfl
attribute [simp high] o_podW o_nppW
attribute [simp] mkpD_W

theorem inv0 (q : Int) (h1 : 0 ≤ q) (h2 : q ≤ 4194304) : Inv (newSt q [] []) 0 := Inv.new h1 h2
theorem bytes_new (q n : Int) : bytesM (newSt q [] []) n = ([], 0) := rfl
theorem bts_new {q n : Int} : Bts (bytesM (newSt q [] []) n).1 := fun c hc => by
  rw [bytes_new] at hc; cases hc
theorem open_new (q n : Int) : openM (newSt q [] []) n = (0, newSt q [] []) := by
  unfold openM; have : endM (newSt q [] []) n = 0 := by
    unfold endM; rw [bytes_new]; simp only [List.length_nil, walkL, firstF_nil]
  rw [this, bytes_new]; rfl

theorem f3009  : F3009 [⟨.sl (.int .i64), [3]⟩, ⟨.sl DkT, ([] : List DiskD)⟩, ⟨.sl (.sl MpT), ([] : List Mp)⟩, ⟨.sl FlT, ([] : List FileD)⟩, ⟨.sl (.sl FmT), ([] : List Fm)⟩] = some [⟨.pt WdT, wdv 0 (lgv 0 [3]) [3] [[]] []⟩, ⟨.bool, true⟩, ⟨.sl DkT, [s0.d]⟩, ⟨.sl (.sl MpT), s0.A1⟩, ⟨.sl FlT, s0.A2⟩, ⟨.sl (.sl FmT), [s0.fm]⟩] := by
  have h16 := s16 (lc := [c16, c3032, c3034]) rfl
  have h3032 := s3032 (lc := [c16, c3032, c3034]) rfl
  have h3034 := s3034 (lc := [c16, c3032, c3034]) rfl
  simp only [F3009, Fof, ir3009]; generalize Phi [c16, c3032, c3034] = Φ at *
  have g16 := h16 4194304 [] [] (by omega) (by omega)
  have hi := inv0 4194304 (by omega) (by omega)
  have g32 := h3032 s0 3 hi.ok (by omega) (by omega) rfl bts_new (by rw [bytes_new]; simp) (by rw [open_new])
  rw [open_new] at g32; have g34 := h3034 [3] (by simp)
  simp -implicitDefEqProofs [g16, g32, g34]
theorem s3009 {lc : List Ct} (hl0 : Sx.look (lc.map fun c => (c.sig.id, c)) 3009 = some c3009) : ∀ _u : Unit, Does1 (Phi lc) 3009 [⟨.sl (.int .i64), [3]⟩, ⟨.sl DkT, ([] : List DiskD)⟩, ⟨.sl (.sl MpT), ([] : List Mp)⟩, ⟨.sl FlT, ([] : List FileD)⟩, ⟨.sl (.sl FmT), ([] : List Fm)⟩] [⟨.pt WdT, wdv 0 (lgv 0 [3]) [3] [[]] []⟩, ⟨.bool, true⟩, ⟨.sl DkT, [s0.d]⟩, ⟨.sl (.sl MpT), s0.A1⟩, ⟨.sl FlT, s0.A2⟩, ⟨.sl (.sl FmT), [s0.fm]⟩] :=
  fun _ => Does1.of hl0 f3009 rfl

theorem put_fresh {q : Int} {a b : List Int} (hm : mayB a = true) (hl : (b.length : Int) ≤ q) : appendM (newSt q [] []) a b (usedN (newSt q [] []).A2 (newSt q [] []).fm) = (0, ⟨q, 0, 1, [([], a, 1)], 1, -1, 0, false, [[(a, 1)], []], [(b, 0)], [(1, some 0)]⟩) := by
  have e2 : findS a [] = none := rfl
  have e3 : (newSt q [] []).nm = [] := rfl
  unfold appendM; simp only [hm, e3, e2, Bool.true_eq_false, if_false, List.length_nil, show ¬ (0 ≥ 5000) by omega]; rw [if_neg (show ¬ ((newSt q [] []).de = true) from Bool.false_ne_true)]
  refine (if_neg (show ¬ ((b.length : Int) > q - ((0 : Nat) : Int)) by omega)).trans ?_
  rfl
theorem may1 : mayB (vName 1) = true := by decide
theorem bts78 : Bts [7, 8] := by unfold Bts; decide
theorem f3008  : F3008 [] = some [⟨.bool, true⟩] := by
  have h16 := s16 (lc := [c16, c3032, c3029, c3033, c27]) rfl
  have h3032 := s3032 (lc := [c16, c3032, c3029, c3033, c27]) rfl
  have h3029 := s3029 (lc := [c16, c3032, c3029, c3033, c27]) rfl
  have h3033 := s3033 (lc := [c16, c3032, c3029, c3033, c27]) rfl
  have h27 := s27 (lc := [c16, c3032, c3029, c3033, c27]) rfl
  simp only [F3008, Fof, ir3008]; generalize Phi [c16, c3032, c3029, c3033, c27] = Φ at *
  have g16 := h16 1000 [] [] (by omega) (by omega)
  have hi := inv0 1000 (by omega) (by omega)
  have g32 := h3032 (newSt 1000 [] []) 1 hi.ok (by omega) (by omega) rfl bts_new (by rw [bytes_new]; simp) (by rw [open_new])
  rw [open_new] at g32; have g29 := h3029 (newSt 1000 [] []) 0 1 [7, 8] hi (by omega) (by omega) (by omega) (by simp) bts78
  have hh := headN_r (n := 2) (by omega)
  have hbl : (putFs (vfr [[7, 8]])).length = headN 2 + 6 := by
    rw [vfr_one, putF_len]; unfold headN; simp only [List.length_cons, List.length_nil]
  have hv : putV (newSt 1000 [] []) 1 [7, 8] = (0, ⟨1000, 0, 1, [([], vName 1, 1)], 1, -1, 0, false, [[(vName 1, 1)], []], [(putFs (vfr [[7, 8]]), 0)], [(1, some 0)]⟩) := put_fresh may1 (by rw [hbl]; omega)
  have hi2 : Inv (putV (newSt 1000 [] []) 1 [7, 8]).2 1 := hi.append (by omega) (by unfold IsB; decide) (by rw [hbl]; omega)
  obtain ⟨s1, hs1⟩ : ∃ s1 : St, (⟨1000, 0, 1, [([], vName 1, 1)], 1, -1, 0, false, [[(vName 1, 1)], []], [(putFs (vfr [[7, 8]]), 0)], [(1, some 0)]⟩ : St) = s1 := ⟨_, rfl⟩
  rw [hs1] at hv; rw [hv] at g29 hi2; have hz : sizeM (newSt 1000 [] []) (vName 1) = 0 := rfl
  simp only [if_true, hz, Int.zero_add, List.length_cons, List.length_nil] at g29; have hb1 : (bytesM s1 1).1 = putFs (vfr [[7, 8]]) := by
    rw [← hs1]; have : ∀ b : List Int, (bytesM (⟨1000, 0, 1, [([], vName 1, 1)], 1, -1, 0, false, [[(vName 1, 1)], []], [(b, 0)], [(1, some 0)]⟩ : St) 1).1 = b := fun b => by
      have e : findS (vName 1) [(vName 1, 1)] = some 1 := by simp [findS, findM, keyEq]
      simp only [bytesM, St.file, St.nm, List.getElem?_cons_zero, Option.getD_some, e, fv_ff, Option.map_some, Bool.false_eq_true, if_false]
    exact this _
  have hcb : Bts (putFs (vfr [[7, 8]])) := vals_byte (by simp only [List.mem_singleton, forall_eq]; exact ⟨by simp, bts78⟩)
  have hp : pOk 1 (headN 2) 2 = true := by unfold pOk; simp; omega
  have g33 := h3033 s1 1 (headN 2) 2 (crcOf [7, 8]) hi2.ok (by omega) (by omega) (by rw [← hs1]) (by rw [hb1]; exact hcb) (by rw [hb1, hbl]; omega) hp
  have hsl : ((putFs (vfr [[7, 8]])).take ((headN 2 : Int) + 2).toNat).drop (headN 2 : Int).toNat = [7, 8] := by
    have := slice_at (P := []) (v := [7, 8]) (r := []) (m := (putFs (vfr [[7, 8]])).length) (by rw [vfr_one, List.nil_append, List.append_nil, List.take_length, ← vfr_one, hbl]; show 0 + headN 2 + 2 ≤ headN 2 + 6; omega)
    rw [List.nil_append, List.append_nil, vfr_one, List.take_length] at this; rw [vfr_one, show ((headN 2 : Int) + 2).toNat = ([] : List Int).length + headN 2 + 2 by simp; omega, show (headN 2 : Int).toNat = ([] : List Int).length + headN 2 by simp]
    exact this
  have hin : inB (putFs (vfr [[7, 8]])) (headN 2) 2 (crcOf [7, 8]) := ⟨by omega, by omega, by rw [hsl]⟩
  rw [hb1, if_pos hin, if_pos hin, hsl] at g33; have g27 := h27 [7, 8] [7, 8] (by simp)
  simp -implicitDefEqProofs [g16, g32, g29, g33, g27]
theorem s3008 {lc : List Ct} (hl0 : Sx.look (lc.map fun c => (c.sig.id, c)) 3008 = some c3008) : ∀ _u : Unit, Does1 (Phi lc) 3008 [] [⟨.bool, true⟩] :=
  fun _ => Does1.of hl0 f3008 rfl
end Go.Proofs.Ytmglkddddpipgaa

namespace Go.Proofs.Ytmglkddddpipgaa
open Sx Go.RowKit

def stA (l : List (List Int)) : St := if l = [] then s0 else sA (putFs (vfr l)) 0
theorem stA_snoc (l : List (List Int)) (v : List Int) : stA (l ++ [v]) = sA (putFs (vfr l) ++ putFs (vfr [v])) 0 := by
  unfold stA; rw [if_neg (by simp), vfr_app]
theorem stA_put {l : List (List Int)} {v : List Int} (h : (putFs (vfr l)).length + (putFs (vfr [v])).length ≤ 4194304) : putV (stA l) 3 v = (0, stA (l ++ [v])) := by
  rw [stA_snoc]; unfold putV stA; by_cases hl : l = []
  · subst hl; simp only [if_true]; exact put_s0 (by omega)
  · simp only [if_neg hl]; exact put_sA h
theorem size_some {s : St} {k : Nat} {f : FileD} (h : s.file Fv = some (k, f)) : sizeM s (vName 3) = f.1.length := by
  unfold sizeM; rw [show vName 3 = Fv from rfl, h]
theorem size_none {s : St} (h : s.file Fv = none) : sizeM s (vName 3) = 0 := by
  unfold sizeM; rw [show vName 3 = Fv from rfl, h]
theorem stA_size (l : List (List Int)) : sizeM (stA l) (vName 3) = (putFs (vfr l)).length := by
  unfold stA; by_cases hl : l = []
  · subst hl; exact size_none (file_none rfl)
  · rw [if_neg hl]; exact size_some (f := (putFs (vfr l), 0)) (file_one rfl rfl rfl)
theorem Two.size {A : List Int} {s : St} {c : List Int} {st : Int} {de : Bool} (h : Two A s c st de) : sizeM s (vName 3) = c.length := by
  rcases h with rfl | ⟨rfl, rfl, rfl⟩ | ⟨rfl, rfl⟩
  · exact size_some (f := (c, (A.length : Int))) (file_one rfl rfl rfl)
  · exact size_none (file_none rfl)
  · exact size_some (f := (c, 0)) (file_one rfl rfl rfl)
theorem Inv.syncV {s : St} {N : Nat} (h : Inv s N) (n : Int) : Inv (syncV s n).2 N := by
  unfold Go.Proofs.Ytmglkddddpipgaa.syncV; split
  · exact h.sync _
  · exact h
theorem stA_sync (l : List (List Int)) : ∃ s1 s2 : St, syncV (stA l) 3 = (0, s1) ∧ syncNamesM s1 = (0, s2) ∧ Two (putFs (vfr l)) s2 (putFs (vfr l)) (-1) false := by
  unfold stA; by_cases hl : l = []
  · subst hl; exact ⟨s0, sZ (-1) false, sync_0, names_0, .inr (.inl ⟨rfl, rfl, rfl⟩)⟩
  · rw [if_neg hl]; exact ⟨_, _, sync_A _, names_A _, .inl rfl⟩
theorem Two.stop {A : List Int} {s : St} {c : List Int} {st : Int} {de : Bool} (h : Two A s c st de) (m : Int) : Two A { s with st := m } c m de := by
  rcases h with rfl | ⟨rfl, rfl, rfl⟩ | ⟨rfl, rfl⟩
  · exact .inl rfl
  · exact .inr (.inl ⟨rfl, rfl, rfl⟩)
  · exact .inr (.inr ⟨rfl, rfl⟩)
theorem takeV {l : List (List Int)} {i : Int} {x : List Int} (h0 : 0 ≤ i) (hx : l[i.toNat]? = some x) : l.take (i + 1).toNat = l.take i.toNat ++ [x] := by
  rw [show (i + 1).toNat = i.toNat + 1 by omega, List.take_add_one, hx]; rfl
theorem light_of {l : List (List Int)} (h : lightV l = true) : l.length ≤ 10 ∧ ∀ v ∈ l, v.length ≤ 500 := by
  unfold lightV at h; simp only [Bool.and_eq_true, decide_eq_true_eq, List.all_eq_true] at h; exact ⟨by omega, fun v hv => by have := h.2 v hv; omega⟩

theorem f3006 (a b : List (List Int)) (n kn : Int) (tl : List Int) (hA : ∀ v ∈ a, Bts v) (hB : ∀ v ∈ b, Bts v) (hn : n < 9223372036854775808) : F3006 [⟨.sl (.sl (.int .u8)), a⟩, ⟨.sl (.sl (.int .u8)), b⟩, ⟨.int .i64, n⟩, ⟨.int .i64, kn⟩, ⟨.sl (.int .i64), tl⟩] = some [⟨.bool, true⟩] := by
  have h3028 := s3028 (lc := [c3028, c3008, c3009, c3029, c3030, c26, c31, c21, c3032, c3033, c27]) rfl
  have h3008 := s3008 (lc := [c3028, c3008, c3009, c3029, c3030, c26, c31, c21, c3032, c3033, c27]) rfl
  have h3009 := s3009 (lc := [c3028, c3008, c3009, c3029, c3030, c26, c31, c21, c3032, c3033, c27]) rfl
  have h3029 := s3029 (lc := [c3028, c3008, c3009, c3029, c3030, c26, c31, c21, c3032, c3033, c27]) rfl
  have h3030 := s3030 (lc := [c3028, c3008, c3009, c3029, c3030, c26, c31, c21, c3032, c3033, c27]) rfl
  have h26 := s26 (lc := [c3028, c3008, c3009, c3029, c3030, c26, c31, c21, c3032, c3033, c27]) rfl
  have h31 := s31 (lc := [c3028, c3008, c3009, c3029, c3030, c26, c31, c21, c3032, c3033, c27]) rfl
  have h21 := s21 (lc := [c3028, c3008, c3009, c3029, c3030, c26, c31, c21, c3032, c3033, c27]) rfl
  have h3032 := s3032 (lc := [c3028, c3008, c3009, c3029, c3030, c26, c31, c21, c3032, c3033, c27]) rfl
  have h3033 := s3033 (lc := [c3028, c3008, c3009, c3029, c3030, c26, c31, c21, c3032, c3033, c27]) rfl
  have h27 := s27 (lc := [c3028, c3008, c3009, c3029, c3030, c26, c31, c21, c3032, c3033, c27]) rfl
  simp only [F3006, Fof, ir3006]; generalize Phi [c3028, c3008, c3009, c3029, c3030, c26, c31, c21, c3032, c3033, c27] = Φ at *
  have g28a := h3028 a
  have g28b := h3028 b
  cases la : lightV a with
  | false =>
    rw [la] at g28a; have g8 := h3008 ()
    simp -implicitDefEqProofs [g28a, g8]
  | true =>
  cases lb : lightV b with
  | false =>
    rw [la] at g28a; rw [lb] at g28b; have g8 := h3008 ()
    simp -implicitDefEqProofs [g28a, g28b, g8]
  | true =>
  rw [la] at g28a; rw [lb] at g28b; by_cases c1 : (tl.length : Int) > 100
  · have g8 := h3008 ()
    simp -implicitDefEqProofs [g28a, g28b, c1, g8]
  have g9 := h3009 ()
  obtain ⟨la1, la2⟩ := light_of la; obtain ⟨lb1, lb2⟩ := light_of lb; have hAB : ∀ v ∈ a ++ b, v.length ≤ 500 ∧ Bts v := fun v hv => by
    rcases List.mem_append.1 hv with hv | hv
    · exact ⟨la2 v hv, hA v hv⟩
    · exact ⟨lb2 v hv, hB v hv⟩
  simp -implicitDefEqProofs [g28a, g28b, c1, g9]
  refine iter_meas (fun s1 : List Pt × Int × List Fm × List FileD × List Mp × List DiskD => ((a.length : Int) - s1.2.1).toNat) (fun _ => _)
    (fun s1 => 0 ≤ s1.2.1 ∧ s1.2.1 ≤ a.length ∧ Inv (stA (a.take s1.2.1.toNat)) s1.2.1.toNat ∧ s1.1 = ptsL 0 (a.take s1.2.1.toNat) ∧ s1.2.2 = ([(stA (a.take s1.2.1.toNat)).fm], (stA (a.take s1.2.1.toNat)).A2, (stA (a.take s1.2.1.toNat)).A1, [(stA (a.take s1.2.1.toNat)).d])) ?_ ?_
  · exact ⟨Int.le_refl _, Int.natCast_nonneg _, inv0 4194304 (by omega) (by omega), rfl, rfl⟩
  rintro ⟨ps, i, A3, A2, A1, A0⟩ ⟨i1, i2, hIs, hps, hs⟩
  simp only at i1 i2 hIs hps hs
  simp only [Prod.mk.injEq] at hs; obtain ⟨rfl, rfl, rfl, rfl⟩ := hs; have hps2 : (ps.length : Int) = i := by rw [hps, ptsL_len, List.length_take]; omega
  by_cases hi : i < a.length
  · obtain ⟨x, hx⟩ : ∃ x, a[i.toNat]? = some x := ⟨_, List.getElem?_eq_getElem (by omega)⟩
    obtain ⟨_, hx2⟩ := List.getElem?_eq_some_iff.1 hx
    have wi : IntKind.i64.wrap (i + 1) = i + 1 := wi64 _ (by omega) (by omega)
    have hxa := List.mem_of_getElem? hx
    have hxl := la2 x hxa
    have hl1 := vals_len (l := a.take i.toNat) fun v hv => la2 v (List.mem_of_mem_take hv)
    have hl2 := vals_len (l := [x]) fun v hv => by rw [List.mem_singleton.1 hv]; exact hxl
    rw [List.length_take] at hl1; rw [List.length_singleton] at hl2; have hput := stA_put (l := a.take i.toNat) (v := x) (by omega)
    have hIp : Inv (putV (stA (a.take i.toNat)) 3 x).2 (i.toNat + 1) := hIs.append (by omega) fv_isB (by omega)
    have g29 := h3029 _ _ 3 x hIs (by omega) (by omega) (by omega) (by omega) (hA x hxa)
    rw [hput] at g29 hIp; simp only [if_true, stA_size] at g29; have et := takeV i1 hx
    rw [← et] at g29 hIp; have hpt : ptsL 0 (a.take (i + 1).toNat) = ps ++ [(3, ((putFs (vfr (a.take i.toNat))).length : Int) + headN x.length, (x.length : Int), crcOf x)] := by
      rw [et, ptsL_app, hps]; simp only [ptsL, ptAt, Int.zero_add]
    have hBg : ps.length + 1 ≤ BIG := by unfold BIG; omega
    clear hput; generalize hs1 : stA (a.take (i + 1).toNat) = s1 at *
    refine .inl ⟨(ps ++ [(3, ((putFs (vfr (a.take i.toNat))).length : Int) + headN x.length, (x.length : Int), crcOf x)], i + 1, [s1.fm], s1.A2, s1.A1, [s1.d]), ?_, ⟨by simp only; omega, by simp only; omega, by simp only; rw [hs1, show (i + 1).toNat = i.toNat + 1 by omega]; exact hIp, by simp only; rw [hpt], by simp only; rw [hs1]⟩, by simp only; omega, rfl⟩
    simp -implicitDefEqProofs [hi, i1, hx, hx2, g29, wi, hBg]
  have hia : i = a.length := by omega
  subst hia; rw [Int.toNat_natCast, List.take_length] at *
  obtain ⟨t1, t2, ht1, ht2, hTw⟩ := stA_sync a; have hI1 := hIs.syncV 3
  rw [ht1] at hI1; have hI2 := hI1.syncNames
  rw [ht2] at hI2; simp only at hI1 hI2
  have g30 := h3030 (stA a) 3 hIs.ok (by omega) (by omega)
  rw [ht1] at g30; have g26 := h26 t1 hI1.ok
  rw [ht2] at g26; have g31 := h31 t2 n
  have hI3 : Inv { t2 with st := max n (-1) } a.length := hI2.count (fa := t2.fa) (de := t2.de) (by omega) (by omega) hI2.ok.fa1 hI2.ok.fa2
  replace hTw := hTw.stop (max n (-1))
  clear ht1 ht2; refine .inr ?_
  simp -implicitDefEqProofs [hi, g30, g26, g31]
  have hTw0 : Two (putFs (vfr a)) { t2 with st := max n (-1) } (putFs (vfr (a ++ b.take (0 : Int).toNat))) (max n (-1)) false := by simpa using hTw
  obtain ⟨s3, hs3⟩ : ∃ s3 : St, ({ t2 with st := max n (-1) } : St) = s3 := ⟨_, rfl⟩
  refine iter_meas (fun s1 : List Pt × Int × List Fm × List FileD × List Mp × List DiskD => ((b.length : Int) - s1.2.1).toNat) (fun _ => _)
    (fun s1 => 0 ≤ s1.2.1 ∧ s1.2.1 ≤ b.length ∧ ∃ (s : St) (st : Int), Two (putFs (vfr a)) s (putFs (vfr (a ++ b.take s1.2.1.toNat))) st false ∧ Inv s (a.length + s1.2.1.toNat) ∧ s1.1 = ptsL 0 (a ++ b.take s1.2.1.toNat) ∧ s1.2.2 = ([s.fm], s.A2, s.A1, [s.d])) ?_ ?_
  · exact ⟨Int.le_refl _, Int.natCast_nonneg _, _, _, hTw0, hI3, by simpa using hps, rfl⟩
  clear hTw hTw0 g31 hI3 g26 g30 hI1 hI2 hs3; rintro ⟨qs, i, A3, A2, A1, A0⟩ ⟨i1, i2, sx, st, hTw, hIn, hqs, hs⟩
  simp only at i1 i2 hTw hIn hqs hs
  simp only [Prod.mk.injEq] at hs; obtain ⟨rfl, rfl, rfl, rfl⟩ := hs; have hlt : (b.take i.toNat).length = i.toNat := by rw [List.length_take]; omega
  have hLen : (a ++ b.take i.toNat).length ≤ 20 := by rw [List.length_append]; omega
  have hAll : ∀ v ∈ a ++ b.take i.toNat, v.length ≤ 500 ∧ Bts v := fun v hv => hAB v (by
    rcases List.mem_append.1 hv with hv | hv
    · exact List.mem_append_left _ hv
    · exact List.mem_append_right _ (List.mem_of_mem_take hv))
  have hqs2 : (qs.length : Int) = a.length + i := by rw [hqs, ptsL_len, List.length_append, hlt]; omega
  by_cases hi2 : i < b.length
  · obtain ⟨x, hx⟩ : ∃ x, b[i.toNat]? = some x := ⟨_, List.getElem?_eq_getElem (by omega)⟩
    obtain ⟨_, hx2⟩ := List.getElem?_eq_some_iff.1 hx
    have wi : IntKind.i64.wrap (i + 1) = i + 1 := wi64 _ (by omega) (by omega)
    have hxb := List.mem_of_getElem? hx
    have hxl := lb2 x hxb
    have hl1 := vals_len (l := a ++ b.take i.toNat) fun v hv => (hAll v hv).1
    have hl2 := vals_len (l := [x]) fun v hv => by rw [List.mem_singleton.1 hv]; exact hxl
    rw [List.length_singleton] at hl2; have hsz := hTw.size
    have hIp : Inv (putV sx 3 x).2 (a.length + i.toNat + 1) := hIn.append (by omega) fv_isB (by omega)
    have g29 := h3029 _ _ 3 x hIn (by omega) (by omega) (by omega) (by omega) (hB x hxb)
    rw [hsz] at g29; have et := takeV i1 hx
    rcases hTw.put (b := putFs (vfr [x])) (by omega) with ⟨p1, p2⟩ | ⟨p1, p2⟩
    · -- the disk has stopped
      have p1' : (putV sx 3 x).1 = 9 := p1
      have p2' : Two (putFs (vfr a)) (putV sx 3 x).2 (putFs (vfr (a ++ b.take i.toNat))) st true := p2
      rw [p1'] at g29; clear hTw hIn p1 p2 p1'; generalize (putV sx 3 x).2 = sx at *
      have hTw := p2'
      have hIn := hIp
      have hbs : ∀ {j : Nat} {y : List Int}, (b.take i.toNat)[j]? = some y → b[j]? = some y := fun {j y} h => by
        rw [List.getElem?_take] at h; split at h
        · exact h
        · cases h
      refine .inr ?_
      obtain ⟨bs, hbsE⟩ : ∃ bs, b.take i.toNat = bs := ⟨_, rfl⟩
      rw [hbsE] at hTw hLen hAll hqs hlt hbs; subst hqs; obtain ⟨k1, k2, k3, k4, k5, k6, k7, k8, k9, k10⟩ := hTw.back hIn (by omega) hLen hAll kn tl
      have g21 := h21 sx kn tl hIn.ok
      have g32 := h3032 (crashM sx kn tl) 3 k1 (by omega) (by omega) k2 k3 k4 k5
      have hpl := ptsL_len (a ++ bs) 0
      simp -implicitDefEqProofs [g21, g32, hi2, i1, hx, hx2, g29]
      clear g21 g32; generalize (openM (crashM sx kn tl) 3).2 = sy at *
      refine iter_meas (fun s1 : Int × List Fm × List FileD × List Mp × List DiskD => (((a ++ bs).length : Int) - s1.1).toNat) (fun _ => _)
        (fun s1 => 0 ≤ s1.1 ∧ s1.1 ≤ (a ++ bs).length ∧ s1.2 = ([sy.fm], sy.A2, sy.A1, [sy.d])) ⟨Int.le_refl _, Int.natCast_nonneg _, rfl⟩ ?_
      rintro ⟨j, B3, B2, B1, B0⟩ ⟨j1, j2, hB⟩
      simp only at j1 j2
      simp only [Prod.mk.injEq] at hB; obtain ⟨rfl, rfl, rfl, rfl⟩ := hB; by_cases hj : j < (a ++ bs).length
      · obtain ⟨y, hy⟩ : ∃ y, (a ++ bs)[j.toNat]? = some y := ⟨_, List.getElem?_eq_getElem (by omega)⟩
        obtain ⟨z, z1, z2, z3, z4, z5, z6⟩ := k10 _ _ hy; have hyb := (hAll y (List.mem_of_getElem? hy)).2
        have wj : IntKind.i64.wrap (j + 1) = j + 1 := wi64 _ (by omega) (by omega)
        have hj' : j < ((ptsL 0 (a ++ bs)).length : Nat) := by rw [hpl]; omega
        have g33 := h3033 sy 3 (z + headN y.length) y.length (crcOf y) k6 (by omega) (by omega) k7 k8 k9 (pt_ok (by omega) (by omega) z1 z2 (by omega))
        have g27 := h27 y y (by omega)
        simp only [decide_true] at g27; simp only [ptAt] at z4; obtain ⟨_, z4'⟩ := List.getElem?_eq_some_iff.1 z4
        rw [List.length_append] at hj; by_cases ja : j < (a.length : Int)
        · have hya : a[j.toNat]? = some y := by rw [← hy, List.getElem?_append_left (by omega)]
          obtain ⟨_, hya'⟩ := List.getElem?_eq_some_iff.1 hya
          have jb : ¬ j ≥ (a.length : Int) := by omega
          have hin := z6 (by omega)
          rw [if_pos hin, if_pos hin, z5 hin] at g33; refine .inl ⟨(j + 1, [sy.fm], sy.A2, sy.A1, [sy.d]), ?_, ⟨by simp only; omega, by simp only [List.length_append]; omega, rfl⟩, by simp only; omega, rfl⟩
          simp -implicitDefEqProofs [hj', j1, z4, z4', g33, ja, jb, hya, hya', g27, wj]
        · have jb : j ≥ (a.length : Int) := by omega
          have wk : IntKind.i64.wrap (j - (a.length : Int)) = j - (a.length : Int) := wi64 _ (by omega) (by omega)
          have hyb1 : bs[(j - (a.length : Int)).toNat]? = some y := by
            rw [← hy, List.getElem?_append_right (by omega)]; congr 1
            omega
          have hyb2 : b[(j - (a.length : Int)).toNat]? = some y := hbs hyb1
          obtain ⟨_, hyb2'⟩ := List.getElem?_eq_some_iff.1 hyb2
          have hyb3 : b[j.toNat - a.length]? = some y := by rw [← hyb2]; congr 1; omega
          obtain ⟨hyb4, hyb5⟩ := List.getElem?_eq_some_iff.1 hyb3
          have jc : 0 ≤ j - (a.length : Int) := by omega
          have jd : j - (a.length : Int) < (b.length : Int) := by omega
          refine .inl ⟨(j + 1, [sy.fm], sy.A2, sy.A1, [sy.d]), ?_, ⟨by simp only; omega, by simp only [List.length_append]; omega, rfl⟩, by simp only; omega, rfl⟩
          by_cases hin : inB (bytesM sy 3).1 (z + headN y.length) y.length (crcOf y)
          · rw [if_pos hin, if_pos hin, z5 hin] at g33; simp -implicitDefEqProofs [hj', j1, z4, z4', g33, ja, jb, jc, jd, wk, hyb2, hyb2', hyb3, hyb5, g27, wj]
          · rw [if_neg hin, if_neg hin] at g33; simp -implicitDefEqProofs [hj', j1, z4, z4', g33, ja, jb, jc, jd, wk, hyb2, hyb2', hyb3, hyb5, g27, wj]
      · have hj' : ¬ j < ((ptsL 0 (a ++ bs)).length : Nat) := by rw [hpl]; omega
        refine .inr ?_
        have g8 := h3008 ()
        simp -implicitDefEqProofs [hj', g8]
    · have p1' : (putV sx 3 x).1 = 0 := p1
      have p2' : Two (putFs (vfr a)) (putV sx 3 x).2 (putFs (vfr (a ++ b.take (i + 1).toNat))) (stN1 st) false := by
        rw [et, ← List.append_assoc, vfr_app]; exact p2
      rw [p1'] at g29; simp only [if_true] at g29; have hpt : ptsL 0 (a ++ b.take (i + 1).toNat) = qs ++ [(3, ((putFs (vfr (a ++ b.take i.toNat))).length : Int) + headN x.length, (x.length : Int), crcOf x)] := by
        rw [et, ← List.append_assoc, ptsL_app, hqs]; simp only [ptsL, ptAt, Int.zero_add]
      have hBg : qs.length + 1 ≤ BIG := by unfold BIG; omega
      generalize (putV sx 3 x).2 = s1 at *
      refine .inl ⟨(qs ++ [(3, ((putFs (vfr (a ++ b.take i.toNat))).length : Int) + headN x.length, (x.length : Int), crcOf x)], i + 1, [s1.fm], s1.A2, s1.A1, [s1.d]), ?_, ⟨by simp only; omega, by simp only; omega, s1, stN1 st, p2', by simp only; rw [show a.length + (i + 1).toNat = a.length + i.toNat + 1 by omega]; exact hIp, by simp only; rw [hpt], rfl⟩, by simp only; omega, rfl⟩
      simp -implicitDefEqProofs [hi2, i1, hx, hx2, g29, wi, hBg]
  · have hbs : ∀ {j : Nat} {y : List Int}, (b.take i.toNat)[j]? = some y → b[j]? = some y := fun {j y} h => by
      rw [List.getElem?_take] at h; split at h
      · exact h
      · cases h
    refine .inr ?_
    obtain ⟨bs, hbsE⟩ : ∃ bs, b.take i.toNat = bs := ⟨_, rfl⟩
    rw [hbsE] at hTw hLen hAll hqs hlt hbs; subst hqs; obtain ⟨k1, k2, k3, k4, k5, k6, k7, k8, k9, k10⟩ := hTw.back hIn (by omega) hLen hAll kn tl
    have g21 := h21 sx kn tl hIn.ok
    have g32 := h3032 (crashM sx kn tl) 3 k1 (by omega) (by omega) k2 k3 k4 k5
    have hpl := ptsL_len (a ++ bs) 0
    simp -implicitDefEqProofs [g21, g32, hi2]
    clear g21 g32; generalize (openM (crashM sx kn tl) 3).2 = sy at *
    refine iter_meas (fun s1 : Int × List Fm × List FileD × List Mp × List DiskD => (((a ++ bs).length : Int) - s1.1).toNat) (fun _ => _)
      (fun s1 => 0 ≤ s1.1 ∧ s1.1 ≤ (a ++ bs).length ∧ s1.2 = ([sy.fm], sy.A2, sy.A1, [sy.d])) ⟨Int.le_refl _, Int.natCast_nonneg _, rfl⟩ ?_
    rintro ⟨j, B3, B2, B1, B0⟩ ⟨j1, j2, hB⟩
    simp only at j1 j2
    simp only [Prod.mk.injEq] at hB; obtain ⟨rfl, rfl, rfl, rfl⟩ := hB; by_cases hj : j < (a ++ bs).length
    · obtain ⟨y, hy⟩ : ∃ y, (a ++ bs)[j.toNat]? = some y := ⟨_, List.getElem?_eq_getElem (by omega)⟩
      obtain ⟨z, z1, z2, z3, z4, z5, z6⟩ := k10 _ _ hy; have hyb := (hAll y (List.mem_of_getElem? hy)).2
      have wj : IntKind.i64.wrap (j + 1) = j + 1 := wi64 _ (by omega) (by omega)
      have hj' : j < ((ptsL 0 (a ++ bs)).length : Nat) := by rw [hpl]; omega
      have g33 := h3033 sy 3 (z + headN y.length) y.length (crcOf y) k6 (by omega) (by omega) k7 k8 k9 (pt_ok (by omega) (by omega) z1 z2 (by omega))
      have g27 := h27 y y (by omega)
      simp only [decide_true] at g27; simp only [ptAt] at z4; obtain ⟨_, z4'⟩ := List.getElem?_eq_some_iff.1 z4
      rw [List.length_append] at hj; by_cases ja : j < (a.length : Int)
      · have hya : a[j.toNat]? = some y := by rw [← hy, List.getElem?_append_left (by omega)]
        obtain ⟨_, hya'⟩ := List.getElem?_eq_some_iff.1 hya
        have jb : ¬ j ≥ (a.length : Int) := by omega
        have hin := z6 (by omega)
        rw [if_pos hin, if_pos hin, z5 hin] at g33; refine .inl ⟨(j + 1, [sy.fm], sy.A2, sy.A1, [sy.d]), ?_, ⟨by simp only; omega, by simp only [List.length_append]; omega, rfl⟩, by simp only; omega, rfl⟩
        simp -implicitDefEqProofs [hj', j1, z4, z4', g33, ja, jb, hya, hya', g27, wj]
      · have jb : j ≥ (a.length : Int) := by omega
        have wk : IntKind.i64.wrap (j - (a.length : Int)) = j - (a.length : Int) := wi64 _ (by omega) (by omega)
        have hyb1 : bs[(j - (a.length : Int)).toNat]? = some y := by
          rw [← hy, List.getElem?_append_right (by omega)]; congr 1
          omega
        have hyb2 : b[(j - (a.length : Int)).toNat]? = some y := hbs hyb1
        obtain ⟨_, hyb2'⟩ := List.getElem?_eq_some_iff.1 hyb2
        have hyb3 : b[j.toNat - a.length]? = some y := by rw [← hyb2]; congr 1; omega
        obtain ⟨hyb4, hyb5⟩ := List.getElem?_eq_some_iff.1 hyb3
        have jc : 0 ≤ j - (a.length : Int) := by omega
        have jd : j - (a.length : Int) < (b.length : Int) := by omega
        refine .inl ⟨(j + 1, [sy.fm], sy.A2, sy.A1, [sy.d]), ?_, ⟨by simp only; omega, by simp only [List.length_append]; omega, rfl⟩, by simp only; omega, rfl⟩
        by_cases hin : inB (bytesM sy 3).1 (z + headN y.length) y.length (crcOf y)
        · rw [if_pos hin, if_pos hin, z5 hin] at g33; simp -implicitDefEqProofs [hj', j1, z4, z4', g33, ja, jb, jc, jd, wk, hyb2, hyb2', hyb3, hyb5, g27, wj]
        · rw [if_neg hin, if_neg hin] at g33; simp -implicitDefEqProofs [hj', j1, z4, z4', g33, ja, jb, jc, jd, wk, hyb2, hyb2', hyb3, hyb5, g27, wj]
    · have hj' : ¬ j < ((ptsL 0 (a ++ bs)).length : Nat) := by rw [hpl]; omega
      refine .inr ?_
      have g8 := h3008 ()
      simp -implicitDefEqProofs [hj', g8]
end Go.Proofs.Ytmglkddddpipgaa
