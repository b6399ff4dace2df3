/-
  A disk and the document's disk go alike; a file that is safe stays; the law of the text.
-/
import Derived.Test.YtmglkddddpipgaaP3
set_option linter.unusedVariables false
set_option linter.unusedSimpArgs false
namespace Go.Proofs.Ytmglkddddpipgaa
open Sx Go.RowKit

theorem Sim.key {s : St} {d : Rd} (h : Sim s d) {x : List Int × Int} (hx : x ∈ s.nm) : KP s.sm s.ts x.2 := pre_from (by rw [← h.nm]; exact hx)
theorem pre_key {x : List Int × Int} : ∀ {ts : List TurnD} {sm : Mp}, (∀ x ∈ sm, x.1 ≠ []) → x ∈ pre sm ts → x.1 ≠ []
  | [], sm, h, hx => h x hx
  | t :: ts, sm, h, hx => pre_key (ts := ts) (sm := turnM t sm) (fun y hy => by
      rcases turnM_sub hy with hy | ⟨h1, rfl⟩
      · exact h y hy
      · exact h1) hx
theorem Sim.rok {s : St} {d : Rd} {N : Nat} (hi : Inv s N) (h : Sim s d) : Rok d where
  f := by have := h.len; have := hi.ok.nx2; omega
  t := by rw [h.ts, List.length_map]; exact hi.ok.ts
  s := by rw [h.sm.len]; exact hi.ok.sl
  b := h.ok
  st1 := by rw [h.st]; exact hi.ok.st1
  st2 := by rw [h.st]; exact hi.ok.st2
  fa1 := by rw [h.fa]; exact hi.ok.fa1
  fa2 := by rw [h.fa]; exact hi.ok.fa2
  q1 := by rw [h.q]; exact hi.ok.q1
  q2 := by rw [h.q]; exact hi.ok.q2
  nm := fun n x hx => by
    obtain ⟨a, i⟩ := x; have hk : KP s.sm s.ts (i + 1) := by
      rcases pre_from ((h.pre n).mem.1 hx) with ⟨y, hy, e⟩ | ⟨t, ht, e⟩
      · exact .inl ⟨y, hy, e⟩
      · exact .inr ⟨t, List.mem_of_mem_take ht, e⟩
    have := h.pos hi hk
    have := h.len
    simp only
    omega

theorem nd_turn_set {m : Mp} (h1 : (m.map (·.1)).Nodup) (h2 : (m.map (·.2)).Nodup) {b : List Int} {i : Int} (h3 : ∀ x ∈ m, x.2 ≠ i) : ((setS b i m).map (·.2)).Nodup := by
  refine ((setS_perm h1).map _).nodup_iff.2 ?_
  rw [List.map_cons]; refine List.nodup_cons.2 ⟨fun hm => ?_, (List.filter_sublist.map _).nodup h2⟩
  obtain ⟨x, hx, e⟩ := List.mem_map.1 hm; exact h3 x (List.mem_filter.1 hx).1 e
theorem nd_turn_del {m : Mp} (h1 : (m.map (·.1)).Nodup) (h2 : (m.map (·.2)).Nodup) (a : List Int) : ((delS a m).map (·.2)).Nodup := by
  rw [delS_filter h1]; exact (List.filter_sublist.map _).nodup h2
theorem Sim.nv' {s : St} {d : Rd} (h : Sim s d) : (s.nm.map (·.2)).Nodup := by
  have := h.nv s.ts.length
  rw [List.take_length] at this; rw [h.nm]; exact this

theorem file_none {s : St} {a : List Int} (hf : findS a s.nm = none) : s.file a = none := by unfold St.file; rw [hf]
theorem file_some {s : St} {a : List Int} {i : Int} {k : Nat} {f : FileD} (hf : findS a s.nm = some i) (hk : findF i s.fm = some (some k)) (hA : s.A2[k]? = some f) : s.file a = some (k, f) := by
  unfold St.file; rw [hf]; simp only [hk, hA, Option.map_some]

theorem Sim.append {s : St} {d : Rd} {N : Nat} (hi : Inv s N) (h : Sim s d) (a b : List Int) (hb : b.length ≤ 4194304) :
    (appendM s a b (usedN s.A2 s.fm)).1 = (appendR d a b).2 ∧ Sim (appendM s a b (usedN s.A2 s.fm)).2 (appendR d a b).1 := by
  obtain ⟨ha1, ha2⟩ := h.act; have hu := h.used hi
  have hq := h.q
  have hlen := h.now.len
  unfold appendM appendR; rw [h.de, hu, hlen, ha1]; split
  · exact ⟨rfl, h⟩
  split
  · exact ⟨rfl, h⟩
  rename_i hm; cases hf : findS a s.nm with
  | none =>
    have hat : d.at a = -1 := h.now.at_none hf
    simp only [hat, show ((-1 : Int) < 0) = True from by simp, true_and]; by_cases c1 : s.nm.length ≥ 5000
    · rw [if_pos c1, if_pos (show (5000 : Int) ≤ (s.nm.length : Nat) by omega)]; exact ⟨rfl, h⟩
    rw [if_neg c1, if_neg (show ¬ (5000 : Int) ≤ (s.nm.length : Nat) by omega)]; by_cases c2 : (b.length : Int) > s.q - (usedN s.A2 s.fm : Nat)
    · rw [if_pos c2, if_pos (show d.q < ((usedN s.A2 s.fm : Nat) : Int) + (b.length : Nat) by omega)]; exact ⟨rfl, h⟩
    rw [if_neg c2, if_neg (show ¬ d.q < ((usedN s.A2 s.fm : Nat) : Int) + (b.length : Nat) by omega)]; by_cases c3 : s.act.1 = 0
    · rw [if_pos c3, if_pos c3, if_pos trivial]; refine ⟨rfl, ?_⟩
      have hane : a ≠ [] := fun e => by subst e; simp [mayB] at hm
      have hnd := h.now.nd
      have et : turnM ([], a, s.nx + 1) s.nm = setS a (s.nx + 1) s.nm := by unfold turnM; simp only [if_neg hane, if_true]
      have hnew : ∀ x ∈ s.nm, x.2 ≠ s.nx + 1 := fun x hx e => by
        have := (h.pos hi (h.key hx)).2
        omega
      have e1 : St.nm { s.act.2 with A1 := s.A1.set s.jn (setS a (s.nx + 1) s.nm) } = turnM ([], a, s.nx + 1) s.act.2.nm := by
        show St.nm { s.act.2 with A1 := s.A1.set s.jn (setS a (s.nx + 1) s.nm) } = turnM ([], a, s.nx + 1) s.nm
        rw [et]; show ((s.A1.set s.jn (setS a (s.nx + 1) s.nm))[s.jn]?).getD [] = _
        rw [List.getElem?_set, if_pos rfl, if_pos hi.ok.ln]; rfl
      have e2 : St.sm { s.act.2 with A1 := s.A1.set s.jn (setS a (s.nx + 1) s.nm) } = s.act.2.sm := by
        show ((s.A1.set s.jn (setS a (s.nx + 1) s.nm))[s.js]?).getD [] = _
        rw [List.getElem?_set, if_neg hi.ok.ns]; rfl
      have h1 := ha2.turn e1 e2 (by show ((turnM ([], a, s.nx + 1) s.nm).map _).Nodup; rw [et]; exact nd_turn_set hnd h.nv' hnew)
      have h2 := h1.newFile (b := b) (by exact hi.kn) (by exact hi.ok.nx1) (by exact hi.ok.fm) hb (by exact .inr ⟨([], a, s.nx + 1), List.mem_append_right _ (List.mem_singleton.2 rfl), hane, rfl⟩)
      have et' : tR ([], a, s.nx + 1) = ([], a, (d.fs.length : Int)) := by
        unfold tR; simp only [if_neg hane]; rw [h.len]; simp
      rw [et'] at h2; exact h2
    · rw [if_neg c3, if_neg c3]; exact ⟨ha1.symm, ha2⟩
  | some i =>
    have hat : d.at a = i - 1 := h.now.at_some hf
    have hpos := (h.pos hi (h.key (findS_mem hf))).1
    simp only at hpos
    rw [hat]; have hneg : ¬ i - 1 < 0 := by omega
    simp only [hneg, false_and, if_false]; by_cases c2 : (b.length : Int) > s.q - (usedN s.A2 s.fm : Nat)
    · rw [if_pos c2, if_pos (show d.q < ((usedN s.A2 s.fm : Nat) : Int) + (b.length : Nat) by omega)]; exact ⟨rfl, h⟩
    rw [if_neg c2, if_neg (show ¬ d.q < ((usedN s.A2 s.fm : Nat) : Int) + (b.length : Nat) by omega)]; by_cases c3 : s.act.1 = 0
    · rw [if_pos c3, if_pos c3]; obtain ⟨k, hk⟩ := hi.ok.names _ (findS_mem hf)
      simp only at hk
      obtain ⟨k2, f, e1, hA, e3, e4, e5⟩ := hi.ok.fm _ (findF_mem hk)
      simp only [oi] at e1; subst e1; have hfl : d.fl (i - 1) = f := by
        unfold Rd.fl; rw [List.getD_eq_getElem?_getD, h.fl _ _ hk, hA]; rfl
      simp only [hk, hA, hfl]; have hfu : f.1.length ≤ usedN s.A2 s.fm := by
        have := used_set (f' := ([], 0)) hA hi.rN (findF_mem hk)
        simp only [List.length_nil] at this; omega
      have hq2 := hi.ok.q2
      exact ⟨trivial, ha2.setFile hi.act (f := (f.1 ++ b, f.2)) hk (by simp only [List.length_append]; omega) e4 (by simp only [List.length_append]; omega)⟩
    · rw [if_neg c3, if_neg c3]; exact ⟨ha1.symm, ha2⟩

theorem Sim.cut {s : St} {d : Rd} {N : Nat} (hi : Inv s N) (h : Sim s d) (a : List Int) (n : Int) :
    (cutM s a n).1 = (cutR d a n).2 ∧ Sim (cutM s a n).2 (cutR d a n).1 := by
  obtain ⟨ha1, ha2⟩ := h.act; unfold cutM cutR; rw [h.de, ha1]; split
  · exact ⟨rfl, h⟩
  cases hf : findS a s.nm with
  | none =>
    have hat : d.at a = -1 := h.now.at_none hf
    rw [file_none hf, hat, if_pos (show (-1 : Int) < 0 by omega)]; exact ⟨rfl, h⟩
  | some i =>
    have hat : d.at a = i - 1 := h.now.at_some hf
    have hpos := (h.pos hi (h.key (findS_mem hf))).1
    simp only at hpos
    obtain ⟨k, hk⟩ := hi.ok.names _ (findS_mem hf)
    simp only at hk
    obtain ⟨k2, f, e1, hA, e3, e4, e5⟩ := hi.ok.fm _ (findF_mem hk)
    simp only [oi] at e1; subst e1; have hfl : d.fl (i - 1) = f := by
      unfold Rd.fl; rw [List.getD_eq_getElem?_getD, h.fl _ _ hk, hA]; rfl
    rw [file_some hf hk hA, hat, hfl, if_neg (show ¬ i - 1 < 0 by omega)]; simp only
    split
    · exact ⟨rfl, h⟩
    · rename_i hn; split
      · have hl : (f.1.take n.toNat).length = n.toNat := by rw [List.length_take]; omega
        exact ⟨rfl, ha2.setFile hi.act (f := (f.1.take n.toNat, min f.2 n)) hk (by simp only [hl]; omega) (by simp only; omega) (by simp only [hl]; omega)⟩
      · exact ⟨ha1.symm, ha2⟩

theorem Sim.sync {s : St} {d : Rd} {N : Nat} (hi : Inv s N) (h : Sim s d) (a : List Int) :
    (syncM s a).1 = (syncR d a).2 ∧ Sim (syncM s a).2 (syncR d a).1 := by
  obtain ⟨ha1, ha2⟩ := h.act; unfold syncM syncR; rw [h.de, ha1]; split
  · exact ⟨rfl, h⟩
  cases hf : findS a s.nm with
  | none =>
    have hat : d.at a = -1 := h.now.at_none hf
    rw [file_none hf, hat, if_pos (show (-1 : Int) < 0 by omega)]; exact ⟨rfl, h⟩
  | some i =>
    have hat : d.at a = i - 1 := h.now.at_some hf
    have hpos := (h.pos hi (h.key (findS_mem hf))).1
    simp only at hpos
    obtain ⟨k, hk⟩ := hi.ok.names _ (findS_mem hf)
    simp only at hk
    obtain ⟨k2, f, e1, hA, e3, e4, e5⟩ := hi.ok.fm _ (findF_mem hk)
    simp only [oi] at e1; subst e1; have hfl : d.fl (i - 1) = f := by
      unfold Rd.fl; rw [List.getD_eq_getElem?_getD, h.fl _ _ hk, hA]; rfl
    rw [file_some hf hk hA, hat, hfl, if_neg (show ¬ i - 1 < 0 by omega)]; simp only
    split
    · exact ⟨rfl, ha2.setFile hi.act (f := (f.1, (f.1.length : Int))) hk e3 (by simp only; omega) (by simp only; omega)⟩
    · exact ⟨ha1.symm, ha2⟩

theorem Sim.syncNames {s : St} {d : Rd} {N : Nat} (hi : Inv s N) (h : Sim s d) :
    (syncNamesM s).1 = (syncNamesR d).2 ∧ Sim (syncNamesM s).2 (syncNamesR d).1 := by
  obtain ⟨ha1, ha2⟩ := h.act; unfold syncNamesM syncNamesR; rw [h.de, ha1]; split
  · exact ⟨rfl, h⟩
  split
  · refine ⟨rfl, ?_⟩
    exact ha2.take (jn := s.jn) (js := s.A1.length) (A1 := s.A1 ++ [s.nm]) (m := s.nm) (l := d.now) (by rw [List.getElem?_append_left hi.ok.ln]; exact hi.ok.hn) (by simp) h.now h.nv' (fun x hx => pre_key h.sk (by rw [← h.nm]; exact hx))
  · exact ⟨ha1.symm, ha2⟩

theorem Sim.rename {s : St} {d : Rd} {N : Nat} (hi : Inv s N) (h : Sim s d) (a b : List Int) :
    (renameM s a b).1 = (renameR d a b).2 ∧ Sim (renameM s a b).2 (renameR d a b).1 := by
  obtain ⟨ha1, ha2⟩ := h.act; unfold renameM renameR; rw [h.de, ha1]; split
  · exact ⟨rfl, h⟩
  split
  · exact ⟨rfl, h⟩
  rename_i hm; cases hf : findS a s.nm with
  | none =>
    have hat : d.at a = -1 := h.now.at_none hf
    rw [hat, if_pos (show (-1 : Int) < 0 by omega)]; exact ⟨rfl, h⟩
  | some i =>
    have hat : d.at a = i - 1 := h.now.at_some hf
    have hmem := findS_mem hf
    have hpos := (h.pos hi (h.key hmem)).1
    simp only at hpos
    rw [hat, if_neg (show ¬ i - 1 < 0 by omega)]; simp only
    split
    · split
      · exact ⟨rfl, ha2⟩
      · rename_i hab; refine ⟨rfl, ?_⟩
        have hbne : b ≠ [] := fun e => by subst e; simp [mayB] at hm
        have hane : a ≠ [] := pre_key h.sk (by rw [← h.nm]; exact hmem)
        have hnd := h.now.nd
        have e1 : St.nm { s.act.2 with A1 := s.A1.set s.jn (turnM (a, b, i) s.nm) } = turnM (a, b, i) s.act.2.nm := by
          show ((s.A1.set s.jn (turnM (a, b, i) s.nm))[s.jn]?).getD [] = _
          rw [List.getElem?_set, if_pos rfl, if_pos hi.ok.ln]; rfl
        have e2 : St.sm { s.act.2 with A1 := s.A1.set s.jn (turnM (a, b, i) s.nm) } = s.act.2.sm := by
          show ((s.A1.set s.jn (turnM (a, b, i) s.nm))[s.js]?).getD [] = _
          rw [List.getElem?_set, if_neg hi.ok.ns]; rfl
        have hv : ((turnM (a, b, i) s.nm).map (·.2)).Nodup := by
          unfold turnM; simp only [if_neg hane, if_neg hbne]; have hd := h.now.del a
          refine nd_turn_set hd.nd (nd_turn_del hnd h.nv' a) fun x hx e => ?_
          rw [delS_filter hnd] at hx; obtain ⟨hx1, hx2⟩ := List.mem_filter.1 hx; have := nd_inj h.nv' hx1 hmem e
          rw [this] at hx2; simp at hx2
        have h1 := ha2.turn e1 e2 hv
        have et : tR (a, b, i) = (a, b, i - 1) := by unfold tR; simp only [if_neg hbne]
        rw [et] at h1; exact h1
    · exact ⟨ha1.symm, ha2⟩

theorem Sim.remove {s : St} {d : Rd} {N : Nat} (hi : Inv s N) (h : Sim s d) (a : List Int) :
    (removeM s a).1 = (removeR d a).2 ∧ Sim (removeM s a).2 (removeR d a).1 := by
  obtain ⟨ha1, ha2⟩ := h.act; unfold removeM removeR; rw [h.de, ha1]; split
  · exact ⟨rfl, h⟩
  cases hf : findS a s.nm with
  | none =>
    have hat : d.at a = -1 := h.now.at_none hf
    rw [hat, if_pos (show (-1 : Int) < 0 by omega)]; exact ⟨rfl, h⟩
  | some i =>
    have hat : d.at a = i - 1 := h.now.at_some hf
    have hmem := findS_mem hf
    have hpos := (h.pos hi (h.key hmem)).1
    simp only at hpos
    rw [hat, if_neg (show ¬ i - 1 < 0 by omega)]; simp only
    split
    · refine ⟨rfl, ?_⟩
      have hane : a ≠ [] := pre_key h.sk (by rw [← h.nm]; exact hmem)
      have hnd := h.now.nd
      have e1 : St.nm { s.act.2 with A1 := s.A1.set s.jn (turnM (a, [], 0) s.nm) } = turnM (a, [], 0) s.act.2.nm := by
        show ((s.A1.set s.jn (turnM (a, [], 0) s.nm))[s.jn]?).getD [] = _
        rw [List.getElem?_set, if_pos rfl, if_pos hi.ok.ln]; rfl
      have e2 : St.sm { s.act.2 with A1 := s.A1.set s.jn (turnM (a, [], 0) s.nm) } = s.act.2.sm := by
        show ((s.A1.set s.jn (turnM (a, [], 0) s.nm))[s.js]?).getD [] = _
        rw [List.getElem?_set, if_neg hi.ok.ns]; rfl
      have hv : ((turnM (a, [], 0) s.nm).map (·.2)).Nodup := by
        unfold turnM; simp only [if_neg hane, if_true]; exact nd_turn_del hnd h.nv' a
      have h1 := ha2.turn e1 e2 hv
      have et : tR (a, [], 0) = (a, [], 0) := by unfold tR; simp
      rw [et] at h1; exact h1.forget
    · exact ⟨ha1.symm, ha2⟩
end Go.Proofs.Ytmglkddddpipgaa

namespace Go.Proofs.Ytmglkddddpipgaa
open Sx Go.RowKit

theorem ltL_u8 : ∀ x y : List UInt8, ltL (x.map fun b => (b.toNat : Int)) (y.map fun b => (b.toNat : Int)) = decide (x < y)
  | _, [] => by simp [ltL]
  | [], b :: y => by simp [ltL]
  | a :: x, b :: y => by
    simp only [List.map_cons, ltL, ltL_u8 x y, List.cons_lt_cons_iff]; have h1 : ((a.toNat : Int) < (b.toNat : Int)) ↔ a < b := by rw [UInt8.lt_iff_toNat_lt]; omega
    have h2 : ((a.toNat : Int) = (b.toNat : Int)) ↔ a = b := by rw [← UInt8.toNat_inj]; omega
    simp only [h1, h2]; by_cases h3 : a < b
    · simp [h3]
    · by_cases h4 : a = b
      · subst h4; simp
      · simp [h3, h4]
theorem u8_id {a : List Int} (h : IsB a) : (a.map u8).map (fun b : UInt8 => (b.toNat : Int)) = a := by
  rw [List.map_map]; conv => rhs; rw [← List.map_id a]
  apply List.map_congr_left
  intro c hc; have := h c hc
  simp only [Function.comp, u8, id]; rw [UInt8.toNat_ofNat']; omega
theorem sorted_eq : ∀ {l m : List (List Int)}, l.Pairwise (fun x y => ltL x y = true) → m.Pairwise (fun x y => ltL x y = true) → l.Perm m → l = m
  | [], m, _, _, hp => (List.nil_perm.1 hp).symm
  | x :: l, [], _, _, hp => by have := hp.length_eq; simp at this
  | x :: l, y :: m, h1, h2, hp => by
    obtain ⟨a1, a2⟩ := List.pairwise_cons.1 h1; obtain ⟨b1, b2⟩ := List.pairwise_cons.1 h2; have hxy : x = y := by
      have hx : x ∈ y :: m := hp.mem_iff.1 (by simp)
      have hy : y ∈ x :: l := hp.mem_iff.2 (by simp)
      rcases List.mem_cons.1 hx with e | hx
      · exact e
      · rcases List.mem_cons.1 hy with e | hy
        · exact e.symm
        · have := ltL_trans (a1 y hy) (b1 x hx)
          rw [ltL_irrefl] at this; cases this
    subst hxy; rw [sorted_eq a2 b2 ((List.perm_cons _).1 hp)]

theorem names_sorted {m : Mp} {l : List NmD} (h : RelN m l) (hb : ∀ x ∈ m, IsB x.1) : namesOf m = l.map (·.1) := by
  have hp : (namesOf m).Perm (m.map (·.1)) := by
    unfold namesOf; refine ((List.mergeSort_perm _ _).map _).trans ?_
    rw [List.map_map]; have : m.map ((fun l : List UInt8 => l.map fun b => (b.toNat : Int)) ∘ fun x : List Int × Int => x.1.map u8) = m.map (·.1) := by
      apply List.map_congr_left
      intro x hx; exact u8_id (hb x hx)
    rw [this]
  have hl : (m.map (·.1)).Perm (l.map (·.1)) := by
    have := h.pm.map (·.1)
    unfold toR at this; rw [List.map_map] at this; exact this
  refine sorted_eq ?_ ?_ (hp.trans hl)
  · have hs : ((m.map fun x : List Int × Int => x.1.map u8).mergeSort fun x y => decide (x ≤ y)).Pairwise fun x y => decide (x ≤ y) = true := by
      refine List.pairwise_mergeSort (fun a b c h1 h2 => ?_) (fun a b => ?_) _
      · simp only [decide_eq_true_eq] at h1 h2 ⊢; exact List.le_trans h1 h2
      · simp only [Bool.or_eq_true, decide_eq_true_eq]; exact List.le_total a b
    have hn : (namesOf m).Nodup := hp.nodup_iff.2 h.nd
    unfold namesOf at hn ⊢
    generalize (m.map fun x : List Int × Int => x.1.map u8).mergeSort (fun x y => decide (x ≤ y)) = t at hs hn
    clear hp hl; induction t with
    | nil => simp
    | cons x t ih =>
      obtain ⟨s1, s2⟩ := List.pairwise_cons.1 hs; rw [List.map_cons] at hn ⊢; obtain ⟨n1, n2⟩ := List.nodup_cons.1 hn; refine List.pairwise_cons.2 ⟨fun z hz => ?_, ih s2 n2⟩
      obtain ⟨y, hy, rfl⟩ := List.mem_map.1 hz; rw [ltL_u8, decide_eq_true_eq]; have hle : x ≤ y := by simpa using s1 y hy
      rcases List.le_iff_lt_or_eq.1 hle with h | h
      · exact h
      · subst h; exact absurd (List.mem_map.2 ⟨x, hy, rfl⟩) n1
  · rw [List.pairwise_map]; exact h.st

theorem crash_fold {s1 : St} {d1 : Rd} {N : Nat} {nm : Mp} {tails : List Int} : ∀ (l : List NmD) (c : Int) (A2c fsc : List FileD), (∀ x ∈ l, findS x.1 nm = some (x.2 + 1)) → (∀ x ∈ l, ∃ k, findF (x.2 + 1) s1.fm = some (some k)) →
    Inv { s1 with A2 := A2c } N → Sim { s1 with A2 := A2c } { d1 with fs := fsc } →
    Sim { s1 with A2 := ((l.map (·.1)).foldl (cStep nm s1.fm tails) (c, A2c)).2 } { d1 with fs := (l.foldl (rStep tails) (c, fsc)).2 }
  | [], c, A2c, fsc, _, _, _, h => h
  | x :: l, c, A2c, fsc, hn, hf, hi, h => by
    have hx1 := hn x (by simp)
    obtain ⟨k, hk⟩ := hf x (by simp)
    have hiA := hi.ok.fm _ (findF_mem hk)
    obtain ⟨k2, f, e1, hA, e3, e4, e5⟩ := hiA; simp only [oi] at e1; subst e1; have hA' : A2c[k]? = some f := hA
    have hfl : fsc[(x.2 + 1 - 1).toNat]? = A2c[k]? := h.fl _ _ hk
    rw [show x.2 + 1 - 1 = x.2 by omega, hA'] at hfl; have hgd : fsc.getD x.2.toNat ([], 0) = f := by rw [List.getD_eq_getElem?_getD, hfl]; rfl
    have hn' : ∀ y ∈ l, findS y.1 nm = some (y.2 + 1) := fun y hy => hn y (by simp [hy])
    have hf' : ∀ y ∈ l, ∃ k, findF (y.2 + 1) s1.fm = some (some k) := fun y hy => hf y (by simp [hy])
    have hstep := cStep_inv (s := s1) (nm := nm) (tails := tails) [x.1] (c, A2c) hi
    simp only [List.foldl_cons, List.foldl_nil] at hstep; rw [List.map_cons, List.foldl_cons, List.foldl_cons]; by_cases he : (f.1.length : Int) = f.2
    · have e1 : cStep nm s1.fm tails (c, A2c) x.1 = (c, A2c) := by unfold cStep; simp only [hx1, hk, hA', he, if_true]
      have e2 : rStep tails (c, fsc) x = (c, fsc) := by unfold rStep; simp only [hgd, he, if_true]
      rw [e1, e2]; exact crash_fold l c A2c fsc hn' hf' hi h
    · have m0 : 0 ≤ (if c < tails.length then min (max (tails.getD c.toNat 0) 0) ((f.1.length : Int) - f.2) else 0) := by split <;> omega
      have m1 : (if c < tails.length then min (max (tails.getD c.toNat 0) 0) ((f.1.length : Int) - f.2) else 0) ≤ (f.1.length : Int) - f.2 := by split <;> omega
      have e1 : cStep nm s1.fm tails (c, A2c) x.1 = (c + 1, A2c.set k (f.1.take (f.2 + (if c < tails.length then min (max (tails.getD c.toNat 0) 0) ((f.1.length : Int) - f.2) else 0)).toNat, f.2 + (if c < tails.length then min (max (tails.getD c.toNat 0) 0) ((f.1.length : Int) - f.2) else 0))) := by
        unfold cStep; simp only [hx1, hk, hA', if_neg he]
      have e2 : rStep tails (c, fsc) x = (c + 1, fsc.set x.2.toNat (f.1.take (f.2 + (if c < tails.length then min (max (tails.getD c.toNat 0) 0) ((f.1.length : Int) - f.2) else 0)).toNat, f.2 + (if c < tails.length then min (max (tails.getD c.toNat 0) 0) ((f.1.length : Int) - f.2) else 0))) := by
        unfold rStep; simp only [hgd, if_neg he]
      rw [e1] at hstep; rw [e1, e2]; generalize (if c < tails.length then min (max (tails.getD c.toNat 0) 0) ((f.1.length : Int) - f.2) else 0) = m at *
      have hl : (f.1.take (f.2 + m).toNat).length = (f.2 + m).toNat := by rw [List.length_take]; omega
      have h2 := h.setFile hi (f := (f.1.take (f.2 + m).toNat, f.2 + m)) hk (by simp only [hl]; omega) (by simp only; omega) (by simp only [hl]; omega)
      rw [show x.2 + 1 - 1 = x.2 by omega] at h2; exact crash_fold l (c + 1) _ _ hn' hf' hstep h2

theorem Inv.turned {s : St} {N : Nat} (h : Inv s N) (kn : Int) : Inv (s.turned (crashNm s kn)) N := by
  obtain ⟨hc, _⟩ := h.ok.crash kn; have hlen : (crashNm s kn).length ≤ N := by
    have h1 := turns_len (s.ts.take (crashN s kn)) s.sm
    have h2 := h.smN
    have h4 : (s.ts.take (crashN s kn)).length ≤ s.ts.length := by rw [List.length_take]; omega
    unfold crashNm; omega
  refine h.names (M := N) (n' := crashNm s kn) (m' := crashNm s kn) ?_ ?_ ?_ (Nat.le_refl _) h.N1 hlen (by simpa using hlen) hc hc (fun t ht => by simp at ht)
  · simp
  · simp
  · simp
theorem findS_of {m : Mp} (h : (m.map (·.1)).Nodup) {a : List Int} {i : Int} (hm : (a, i) ∈ m) : findS a m = some i := by
  obtain ⟨j, hj⟩ := findS_some hm; have := nd_inj h hm (findS_mem hj) rfl
  simp only [Prod.mk.injEq, true_and] at this; rw [hj, this]

theorem Sim.crash {s : St} {d : Rd} {N : Nat} (hi : Inv s N) (h : Sim s d) (kn : Int) (tails : List Int) : Sim (crashM s kn tails) (crashR d kn tails) := by
  have et : s.ts.take (crashN s kn) = s.ts.take kn.toNat := by
    rw [List.take_eq_take_iff]; unfold crashN; omega
  have en : crashNm s kn = Go.Proofs.Ytmglkddddpipgaa.pre s.sm (s.ts.take kn.toNat) := by unfold crashNm; rw [et]
  have hr : RelN (crashNm s kn) (d.names kn) := by rw [en]; exact h.pre _
  have hv : ((crashNm s kn).map (·.2)).Nodup := by rw [en]; exact h.nv _
  have hk : ∀ x ∈ crashNm s kn, x.1 ≠ [] := fun x hx => by rw [en] at hx; exact pre_key h.sk hx
  have h1 : Sim (s.turned (crashNm s kn)).forget { d with sf := d.names kn, ts := [] } := h.take (by simp) (by simp) hr hv hk
  have hi1 : Inv (s.turned (crashNm s kn)).forget N := (hi.turned kn).forget
  have hnm : (s.turned (crashNm s kn)).forget.nm = crashNm s kn := by
    show ((s.A1 ++ [crashNm s kn, crashNm s kn])[s.A1.length]?).getD [] = _
    simp
  have hb : ∀ x ∈ crashNm s kn, IsB x.1 := fun x hx => hi1.ok.nb x (by rw [hnm]; exact hx)
  have hns : namesOf (crashNm s kn) = (d.names kn).map (·.1) := names_sorted hr hb
  have h2 := crash_fold (s1 := (s.turned (crashNm s kn)).forget) (d1 := { d with sf := d.names kn, ts := [] }) (N := N) (nm := crashNm s kn) (tails := tails) (d.names kn) 0 s.A2 d.fs
    (fun x hx => findS_of hr.nd (hr.mem.1 hx)) (fun x hx => hi1.ok.names _ (by rw [hnm]; exact hr.mem.1 hx)) hi1 h1
  rw [← hns] at h2; exact h2.count (-1) 0 false

theorem Sim.do {s : St} {d : Rd} {N : Nat} (hi : Inv s N) (h : Sim s d) (x : ActD) (hb : x.2.2.2.1.length ≤ 300) : (doM s x).1 = (doR d x).2 ∧ Sim (doM s x).2 (doR d x).1 := by
  unfold doM doR; by_cases k0 : x.1 = 0
  · simp only [if_pos k0]; exact h.append hi _ _ (by omega)
  simp only [if_neg k0]; by_cases k1 : x.1 = 1
  · simp only [if_pos k1]; exact h.cut hi _ _
  simp only [if_neg k1]; by_cases k2 : x.1 = 2
  · simp only [if_pos k2]; exact h.sync hi _
  simp only [if_neg k2]; by_cases k3 : x.1 = 3
  · simp only [if_pos k3]; exact h.syncNames hi
  simp only [if_neg k3]; by_cases k4 : x.1 = 4
  · simp only [if_pos k4]; exact h.rename hi _ _
  simp only [if_neg k4]; by_cases k5 : x.1 = 5
  · simp only [if_pos k5]; exact h.remove hi _
  simp only [if_neg k5]; by_cases k6 : x.1 = 6
  · simp only [if_pos k6]; refine ⟨trivial, ?_⟩
    have e : (⟨d.q, d.fs, d.sf, d.ts, max x.2.2.2.2.1 (-1), d.fa, d.de⟩ : Rd) = { d with st := max x.2.2.2.2.1 (-1), fa := s.fa, de := s.de } := by rw [← h.fa, ← h.de]
    rw [e]; exact h.count (max x.2.2.2.2.1 (-1)) s.fa s.de
  simp only [if_neg k6]; by_cases k7 : x.1 = 7
  · simp only [if_pos k7]; refine ⟨trivial, ?_⟩
    have e : (⟨d.q, d.fs, d.sf, d.ts, d.st, max x.2.2.2.2.1 0, d.de⟩ : Rd) = { d with st := s.st, fa := max x.2.2.2.2.1 0, de := s.de } := by rw [← h.st, ← h.de]
    rw [e]; exact h.count s.st (max x.2.2.2.2.1 0) s.de
  simp only [if_neg k7]; by_cases k8 : x.1 = 8
  · simp only [if_pos k8]; exact ⟨trivial, h.crash hi _ _⟩
  simp only [if_neg k8]; exact ⟨trivial, h⟩
end Go.Proofs.Ytmglkddddpipgaa

namespace Go.Proofs.Ytmglkddddpipgaa
open Sx Go.RowKit
attribute [local simp] mkD_name mkD_file

theorem o_cpy {Φ : Nat → Cont} {k : IR} {R : Type} {lv n : Nat} {ρ : List (Nat × D)} {kr : List D → Option R} {kj : Nat → List D → Option R} (xs zs : List Int) :
    opD Φ (.cpy (.int .u8)) [⟨.sl (.int .u8), xs⟩, ⟨.sl (.int .u8), zs⟩] k R lv n ρ kr kj =
      deb Φ k R lv (n + 2) ((n + 1, ⟨.int .i64, ((min zs.length xs.length : Nat) : Int)⟩) :: (n, ⟨.sl (.int .u8), zs.take xs.length ++ xs.drop zs.length⟩) :: ρ) kr kj := by
  simp only [opD, evalPr, D.get, dif_pos, if_true]; rfl

def readM (s : St) (a : List Int) (p n : Int) : List Int × Int :=
  if s.de = true then ([], 9) else match s.file a with
  | none => ([], 3)
  | some (_, f) => if p < 0 ∨ n < 0 ∨ p > f.1.length ∨ n > f.1.length - p then ([], 1) else ((f.1.drop p.toNat).take n.toNat, 0)

theorem f24 (s : St) (a : List Int) (p n : Int) (h : Ok s) : F24 [⟨.ref 0, some 0⟩, ⟨.str, a⟩, ⟨.int .i64, p⟩, ⟨.int .i64, n⟩, ⟨.sl DkT, [s.d]⟩, ⟨.sl (.sl MpT), s.A1⟩, ⟨.sl FlT, s.A2⟩, ⟨.sl (.sl FmT), [s.fm]⟩] = some [⟨.sl (.int .u8), (readM s a p n).1⟩, ⟨.int .i64, (readM s a p n).2⟩, ⟨.sl DkT, [s.d]⟩, ⟨.sl (.sl MpT), s.A1⟩, ⟨.sl FlT, s.A2⟩, ⟨.sl (.sl FmT), [s.fm]⟩] := by
  have h55S := s55S (lc := [c55, c56]) rfl
  have h56nS := s56nS (lc := [c55, c56]) rfl
  have h56sS := s56sS (lc := [c55, c56]) rfl
  simp only [F24, Fof, ir24]; generalize Phi [c55, c56] = Φ at *
  have g55 := h55S s
  cases hd : s.de with
  | true =>
    rw [hd] at g55; simp -implicitDefEqProofs [g55, hd, readM]
  | false =>
  rw [hd] at g55; have hfo : ((s.q, some 0, some s.jn, some s.js, s.ts, s.nx, s.st, s.fa, false) : DiskD) = s.d := by rw [← hd]
  cases hf : findS a s.nm with
  | none =>
    have g56 := h56nS s h a hf
    simp -implicitDefEqProofs [hfo, g55, g56, readM, St.file, hf, hd]
  | some i =>
    obtain ⟨k, f, hk, hk2, hkl, hf1, hf2, hf3⟩ := h.file hf; obtain ⟨_, hv⟩ := List.getElem?_eq_some_iff.1 hk2
    have hss : s.A2.set k (f.1, f.2) = s.A2 := set_same hk2
    have g56 := h56sS s h a i (some k) hf hk
    by_cases p1 : p < 0
    · simp -implicitDefEqProofs [hfo, g55, g56, readM, St.file, hf, hd, hk, hk2, p1]
    by_cases p2 : n < 0
    · simp -implicitDefEqProofs [hfo, g55, g56, readM, St.file, hf, hd, hk, hk2, p1, p2]
    by_cases p3 : p > f.1.length
    · simp -implicitDefEqProofs [hfo, g55, g56, readM, St.file, hf, hd, hk, hk2, hkl, hv, hss, p1, p2, p3]
    have wp : IntKind.i64.wrap ((f.1.length : Int) - p) = (f.1.length : Int) - p := wi64 _ (by omega) (by omega)
    by_cases p4 : n > (f.1.length : Int) - p
    · simp -implicitDefEqProofs [hfo, g55, g56, readM, St.file, hf, hd, hk, hk2, hkl, hv, hss, p1, p2, p3, p4, wp]
    have q1 : 0 ≤ n := by omega
    have q2 : n ≤ 1099511627776 := by omega
    have q3 : 0 ≤ p := by omega
    have q4 : p ≤ f.1.length := by omega
    have q5 : n.toNat ≤ f.1.length - p.toNat := by omega
    have q6 : n.toNat - (f.1.length - p.toNat) = 0 := by omega
    simp -implicitDefEqProofs [hfo, g55, g56, readM, St.file, hf, hd, hk, hk2, hkl, hv, hss, p1, p2, p3, p4, wp, q1, q2, q3, q4, q5, q6, o_cpy]
theorem s24 {lc : List Ct} (hl0 : Sx.look (lc.map fun c => (c.sig.id, c)) 24 = some c24) : ∀ (s : St) (a : List Int) (p n : Int) (h : Ok s), Does1 (Phi lc) 24 [⟨.ref 0, some 0⟩, ⟨.str, a⟩, ⟨.int .i64, p⟩, ⟨.int .i64, n⟩, ⟨.sl DkT, [s.d]⟩, ⟨.sl (.sl MpT), s.A1⟩, ⟨.sl FlT, s.A2⟩, ⟨.sl (.sl FmT), [s.fm]⟩] [⟨.sl (.int .u8), (readM s a p n).1⟩, ⟨.int .i64, (readM s a p n).2⟩, ⟨.sl DkT, [s.d]⟩, ⟨.sl (.sl MpT), s.A1⟩, ⟨.sl FlT, s.A2⟩, ⟨.sl (.sl FmT), [s.fm]⟩] :=
  fun s a p n h => by
    have eFc : c24.F = F24 := rfl
    have eFh := f24 s a p n h
    rw [← eFc] at eFh; exact Does1.of hl0 eFh rfl

def playM (s : St) (l : List ActD) : St := l.foldl (fun s x => (doM s x).2) s
def playR (d : Rd) (l : List ActD) : Rd := l.foldl (fun d x => (doR d x).1) d
def rd0 (q : Int) : Rd := ⟨q, [], [], [], -1, 0, false⟩

theorem sim_new (q : Int) : Sim (newSt q [] []) (rd0 q) := by
  have e1 : (newSt q [] []).nm = [] := by simp [newSt, St.nm]
  have e2 : (newSt q [] []).sm = [] := by simp [newSt, St.sm]
  refine { q := rfl, st := rfl, fa := rfl, de := rfl, len := rfl, ts := rfl, sm := ?_, nm := ?_, fk := by simp [newSt], f1 := fun x hx => by simp [newSt] at hx, fl := fun i k hk => by simp [newSt, findF, findM] at hk, th := fun x hx => by simp [newSt] at hx, ok := fun f hf => by simp [rd0] at hf, nv := fun n => ?_, sk := ?_ }
  · rw [e2]; exact ⟨by simp, by simp [toR, rd0], by simp [rd0, Srt]⟩
  · rw [e1, e2]; rfl
  · rw [e2]; show ((pre [] (([] : List TurnD).take n)).map (·.2)).Nodup
    rw [List.take_nil]; simp
  · rw [e2]; simp

def actsOk (l : List ActD) : Prop := l.length ≤ 40 ∧ ∀ x ∈ l, IsB x.2.1 ∧ IsB x.2.2.1 ∧ x.2.2.2.2.1 < 9223372036854775808 ∧ x.2.2.2.1.length ≤ 300 ∧ x.2.2.2.2.2.2.length ≤ 100
theorem actsOk_of {l : List ActD} (hl : AsB l) (hL : lightB l = true) : actsOk l := by
  unfold lightB at hL; simp only [Bool.and_eq_true, decide_eq_true_eq] at hL; obtain ⟨hlen, hall⟩ := hL; refine ⟨by omega, fun x hx => ?_⟩
  have hok := List.all_eq_true.1 hall x hx
  unfold okA at hok; simp only [Bool.and_eq_true, decide_eq_true_eq] at hok; obtain ⟨b1, b2, b3⟩ := hl x hx; exact ⟨b1, b2, b3, by omega, by omega⟩

theorem play_inv {l : List ActD} (hl : ∀ x ∈ l, IsB x.2.1 ∧ IsB x.2.2.1 ∧ x.2.2.2.2.1 < 9223372036854775808 ∧ x.2.2.2.1.length ≤ 300 ∧ x.2.2.2.2.2.2.length ≤ 100) : ∀ {s : St} {d : Rd} {N : Nat}, Inv s N → Sim s d → N + l.length ≤ 1000000 → Inv (playM s l) (N + l.length) ∧ Sim (playM s l) (playR d l) := by
  induction l with
  | nil => intro s d N hi h _; exact ⟨hi, h⟩
  | cons x l ih =>
    intro s d N hi h hN; obtain ⟨b1, b2, b3, b4, _⟩ := hl x (by simp)
    rw [List.length_cons] at hN ⊢; have h1 := hi.do (by omega) b1 b2 b4 b3
    have h2 := (h.do hi x b4).2
    have := ih (fun y hy => hl y (by simp [hy])) h1 h2 (by omega)
    rw [show N + (l.length + 1) = N + 1 + l.length by omega]; exact this

theorem f20 (q : Int) (l : List ActD) (hq1 : 0 ≤ q) (hq2 : q ≤ 4194304) (hl : actsOk l) : F20 [⟨.int .i64, q⟩, ⟨.sl AcT, l⟩, ⟨.sl DkT, ([] : List DiskD)⟩, ⟨.sl (.sl MpT), ([] : List Mp)⟩, ⟨.sl FlT, ([] : List FileD)⟩, ⟨.sl (.sl FmT), ([] : List Fm)⟩] = some [⟨.ref 0, some 0⟩, ⟨.int .i64, (playR (rd0 q) l).q⟩, ⟨.sl FlT, (playR (rd0 q) l).fs⟩, ⟨.sl MpT, (playR (rd0 q) l).sf⟩, ⟨.sl TnT, (playR (rd0 q) l).ts⟩, ⟨.int .i64, (playR (rd0 q) l).st⟩, ⟨.int .i64, (playR (rd0 q) l).fa⟩, ⟨.bool, (playR (rd0 q) l).de⟩, ⟨.bool, true⟩, ⟨.sl DkT, [(playM (newSt q [] []) l).d]⟩, ⟨.sl (.sl MpT), (playM (newSt q [] []) l).A1⟩, ⟨.sl FlT, (playM (newSt q [] []) l).A2⟩, ⟨.sl (.sl FmT), [(playM (newSt q [] []) l).fm]⟩] := by
  have h48 := s48 (lc := [c48, c16, c49, c17]) rfl
  have h16 := s16 (lc := [c48, c16, c49, c17]) rfl
  have h49 := s49 (lc := [c48, c16, c49, c17]) rfl
  have h17 := s17 (lc := [c48, c16, c49, c17]) rfl
  simp only [F20, Fof, ir20]; generalize Phi [c48, c16, c49, c17] = Φ at *
  have g48 := h48 q
  have g16 := h16 q [] [] hq1 hq2
  obtain ⟨hlen, hall⟩ := hl; simp -implicitDefEqProofs [g48, g16]
  refine iter_meas (fun s1 : Int × Int × List FileD × List NmD × List TurnD × Int × Int × Bool × List Fm × List FileD × List Mp × List DiskD => ((l.length : Int) - s1.1).toNat) (fun _ => _)
    (fun s1 => 0 ≤ s1.1 ∧ s1.1 ≤ l.length ∧ ∃ (s : St) (d : Rd), Inv s s1.1.toNat ∧ Sim s d ∧ s1.2 = (d.q, d.fs, d.sf, d.ts, d.st, d.fa, d.de, [s.fm], s.A2, s.A1, [s.d]) ∧ playM s (l.drop s1.1.toNat) = playM (newSt q [] []) l ∧ playR d (l.drop s1.1.toNat) = playR (rd0 q) l) ?_ ?_
  · exact ⟨Int.le_refl _, Int.natCast_nonneg _, newSt q [] [], rd0 q, Inv.new (by omega) (by omega), sim_new q, rfl, rfl, rfl⟩
  rintro ⟨i, q', fs, sf, ts, st, fa, de, A3, A2, A1, A0⟩ ⟨i1, i2, s, d, hs, hsim, hA, hp1, hp2⟩
  simp only at i1 i2 hs hp1 hp2
  simp only [Prod.mk.injEq] at hA; obtain ⟨rfl, rfl, rfl, rfl, rfl, rfl, rfl, rfl, rfl, rfl, rfl⟩ := hA; by_cases hi : i < l.length
  · obtain ⟨x, hx⟩ : ∃ x, l[i.toNat]? = some x := ⟨_, List.getElem?_eq_getElem (by omega)⟩
    obtain ⟨_, hx2⟩ := List.getElem?_eq_some_iff.1 hx
    have wi : IntKind.i64.wrap (i + 1) = i + 1 := wi64 _ (by omega) (by omega)
    obtain ⟨b1, b2, b3, b4, b5⟩ := hall x (List.mem_of_getElem? hx)
    have hs2 := hs.do (by omega) b1 b2 b4 b3
    obtain ⟨heq, hsim2⟩ := hsim.do hs x b4; rw [dropI' i1 hx] at hp1 hp2; have hp1' : playM (doM s x).2 (l.drop (i + 1).toNat) = playM (newSt q [] []) l := hp1
    have hp2' : playR (doR d x).1 (l.drop (i + 1).toNat) = playR (rd0 q) l := hp2
    have g49 : Does1 Φ 49 [⟨.int .i64, d.q⟩, ⟨.sl FlT, d.fs⟩, ⟨.sl MpT, d.sf⟩, ⟨.sl TnT, d.ts⟩, ⟨.int .i64, d.st⟩, ⟨.int .i64, d.fa⟩, ⟨.bool, d.de⟩, ⟨.int .i64, x.1⟩, ⟨.str, x.2.1⟩, ⟨.str, x.2.2.1⟩, ⟨.sl (.int .u8), x.2.2.2.1⟩, ⟨.int .i64, x.2.2.2.2.1⟩, ⟨.int .i64, x.2.2.2.2.2.1⟩, ⟨.sl (.int .i64), x.2.2.2.2.2.2⟩] [⟨.int .i64, ((doR d x).1).q⟩, ⟨.sl FlT, ((doR d x).1).fs⟩, ⟨.sl MpT, ((doR d x).1).sf⟩, ⟨.sl TnT, ((doR d x).1).ts⟩, ⟨.int .i64, ((doR d x).1).st⟩, ⟨.int .i64, ((doR d x).1).fa⟩, ⟨.bool, ((doR d x).1).de⟩, ⟨.int .i64, (doR d x).2⟩] := h49 d x.1 x.2.1 x.2.2.1 x.2.2.2.1 x.2.2.2.2.1 x.2.2.2.2.2.1 x.2.2.2.2.2.2 (hsim.rok hs) b4 (by omega)
    have g17 : Does1 Φ 17 [⟨.ref 0, some 0⟩, ⟨.int .i64, x.1⟩, ⟨.str, x.2.1⟩, ⟨.str, x.2.2.1⟩, ⟨.sl (.int .u8), x.2.2.2.1⟩, ⟨.int .i64, x.2.2.2.2.1⟩, ⟨.int .i64, x.2.2.2.2.2.1⟩, ⟨.sl (.int .i64), x.2.2.2.2.2.2⟩, ⟨.sl DkT, [s.d]⟩, ⟨.sl (.sl MpT), s.A1⟩, ⟨.sl FlT, s.A2⟩, ⟨.sl (.sl FmT), [s.fm]⟩] [⟨.int .i64, (doM s x).1⟩, ⟨.sl DkT, [(doM s x).2.d]⟩, ⟨.sl (.sl MpT), (doM s x).2.A1⟩, ⟨.sl FlT, (doM s x).2.A2⟩, ⟨.sl (.sl FmT), [(doM s x).2.fm]⟩] := h17 s _ hs (by omega) x.1 x.2.1 x.2.2.1 x.2.2.2.1 x.2.2.2.2.1 x.2.2.2.2.2.1 x.2.2.2.2.2.2 b4
    rw [heq] at g17; clear hp1 hp2; generalize (doR d x).2 = er at *
    generalize (doR d x).1 = d' at *
    generalize (doM s x).2 = s' at *
    refine .inl ⟨(i + 1, d'.q, d'.fs, d'.sf, d'.ts, d'.st, d'.fa, d'.de, [s'.fm], s'.A2, s'.A1, [s'.d]), ?_, ⟨by simp only; omega, by simp only; omega, s', d', by rw [show (i + 1).toNat = i.toNat + 1 by omega]; exact hs2, hsim2, rfl, hp1', hp2'⟩, by simp only; omega, rfl⟩
    simp -implicitDefEqProofs [hi, i1, hx, hx2, g49, g17, wi]
    rfl
  · rw [List.drop_eq_nil_of_le (by omega)] at hp1 hp2; have hp1' : s = playM (newSt q [] []) l := hp1
    have hp2' : d = playR (rd0 q) l := hp2
    refine .inr ?_
    rw [← hp1', ← hp2']; simp -implicitDefEqProofs [hi]
theorem s20 {lc : List Ct} (hl0 : Sx.look (lc.map fun c => (c.sig.id, c)) 20 = some c20) : ∀ (q : Int) (l : List ActD) (hq1 : 0 ≤ q) (hq2 : q ≤ 4194304) (hl : actsOk l), Does1 (Phi lc) 20 [⟨.int .i64, q⟩, ⟨.sl AcT, l⟩, ⟨.sl DkT, ([] : List DiskD)⟩, ⟨.sl (.sl MpT), ([] : List Mp)⟩, ⟨.sl FlT, ([] : List FileD)⟩, ⟨.sl (.sl FmT), ([] : List Fm)⟩] [⟨.ref 0, some 0⟩, ⟨.int .i64, (playR (rd0 q) l).q⟩, ⟨.sl FlT, (playR (rd0 q) l).fs⟩, ⟨.sl MpT, (playR (rd0 q) l).sf⟩, ⟨.sl TnT, (playR (rd0 q) l).ts⟩, ⟨.int .i64, (playR (rd0 q) l).st⟩, ⟨.int .i64, (playR (rd0 q) l).fa⟩, ⟨.bool, (playR (rd0 q) l).de⟩, ⟨.bool, true⟩, ⟨.sl DkT, [(playM (newSt q [] []) l).d]⟩, ⟨.sl (.sl MpT), (playM (newSt q [] []) l).A1⟩, ⟨.sl FlT, (playM (newSt q [] []) l).A2⟩, ⟨.sl (.sl FmT), [(playM (newSt q [] []) l).fm]⟩] :=
  fun q l hq1 hq2 hl => by
    have eFc : c20.F = F20 := rfl
    have eFh := f20 q l hq1 hq2 hl
    rw [← eFc] at eFh; exact Does1.of hl0 eFh rfl
end Go.Proofs.Ytmglkddddpipgaa

namespace Go.Proofs.Ytmglkddddpipgaa
open Sx Go.RowKit

def safeN : List Int := [115, 97, 102, 101]

theorem findS_set_ne {a b : List Int} {i : Int} (h : b ≠ a) : ∀ m : Mp, findS a (setS b i m) = findS a m
  | [] => by
    have h' : ¬ a = b := fun e => h e.symm
    simp [findS, setS, findM, setM, keyEq, h']
  | (c, j) :: m => by
    have ih : findM .str a (setM .str b i m) = findM .str a m := findS_set_ne h m
    have h' : ¬ a = b := fun e => h e.symm
    by_cases hq : b = c
    · subst hq; simp [findS, setS, findM, setM, keyEq, h']
    · by_cases hc : a = c
      · simp [findS, setS, findM, setM, keyEq, hq, hc]
      · simp [findS, setS, findM, setM, keyEq, hq, hc, ih]
theorem findS_del_ne {a b : List Int} (h : b ≠ a) : ∀ m : Mp, findS a (delS b m) = findS a m
  | [] => rfl
  | (c, j) :: m => by
    have ih : findM .str a (delM .str b m) = findM .str a m := findS_del_ne h m
    have h' : ¬ a = b := fun e => h e.symm
    by_cases hq : b = c
    · subst hq; simp [findS, delS, findM, delM, keyEq, h']
    · by_cases hc : a = c
      · simp [findS, delS, findM, delM, keyEq, hq, hc]
      · simp [findS, delS, findM, delM, keyEq, hq, hc, ih]
theorem findS_turn_ne {a : List Int} {t : TurnD} (h1 : t.1 ≠ a) (h2 : t.2.1 ≠ a) (m : Mp) : findS a (turnM t m) = findS a m := by
  unfold turnM; simp only
  split <;> split
  · rfl
  · exact findS_del_ne h1 _
  · exact findS_set_ne h2 _
  · rw [findS_set_ne h2, findS_del_ne h1]
theorem findS_pre_ne {a : List Int} : ∀ {ts : List TurnD} {m : Mp}, (∀ t ∈ ts, t.1 ≠ a ∧ t.2.1 ≠ a) → findS a (pre m ts) = findS a m
  | [], m, _ => rfl
  | t :: ts, m, h => by
    obtain ⟨h1, h2⟩ := h t (by simp)
    have := findS_pre_ne (ts := ts) (m := turnM t m) fun u hu => h u (by simp [hu])
    exact this.trans (findS_turn_ne h1 h2 m)
theorem pre_sub {x : List Int × Int} : ∀ {ts : List TurnD} {m : Mp}, x ∈ pre m ts → x ∈ m ∨ ∃ t ∈ ts, t.2.1 ≠ [] ∧ x = (t.2.1, t.2.2)
  | [], m, h => .inl h
  | t :: ts, m, h => by
    rcases pre_sub (ts := ts) (m := turnM t m) h with h | ⟨u, hu, e⟩
    · exact (turnM_sub h).imp id fun h => ⟨t, by simp, h⟩
    · exact .inr ⟨u, by simp [hu], e⟩

def Has (was : List Int) (f : FileD) : Prop := (was.length : Int) ≤ f.2 ∧ f.1.take was.length = was

structure Prot (s : St) (i : Int) (was : List Int) : Prop where
  nm : findS safeN s.nm = some i
  sm : findS safeN s.sm = some i
  un : ∀ x ∈ s.nm, x.2 = i → x.1 = safeN
  us : ∀ x ∈ s.sm, x.2 = i → x.1 = safeN
  ut : ∀ t ∈ s.ts, t.1 ≠ safeN ∧ t.2.1 ≠ safeN ∧ (t.2.1 ≠ [] → t.2.2 ≠ i)
  fl : ∃ k f, findF i s.fm = some (some k) ∧ s.A2[k]? = some f ∧ Has was f

theorem Prot.count {s : St} {i : Int} {was : List Int} (h : Prot s i was) (st fa : Int) (de : Bool) : Prot { s with st := st, fa := fa, de := de } i was := ⟨h.nm, h.sm, h.un, h.us, h.ut, h.fl⟩
theorem Prot.act {s : St} {i : Int} {was : List Int} (h : Prot s i was) : Prot s.act.2 i was := h.count _ _ _
theorem Prot.setFile {s : St} {N : Nat} {i : Int} {was : List Int} (hi : Inv s N) (h : Prot s i was) {j : Int} {k : Nat} {f f' : FileD} (hk : findF j s.fm = some (some k)) (hA : s.A2[k]? = some f) (hf : j = i → Has was f → Has was f') : Prot { s with A2 := s.A2.set k f' } i was := by
  obtain ⟨k0, f0, e1, e2, e3⟩ := h.fl; refine ⟨h.nm, h.sm, h.un, h.us, h.ut, ?_⟩
  by_cases hj : j = i
  · subst hj; rw [hk] at e1; simp only [oi] at e1; subst e1; rw [hA] at e2; simp only [oi] at e2; subst e2; refine ⟨k, f', hk, ?_, hf rfl e3⟩
    show (s.A2.set k f')[k]? = _
    rw [List.getElem?_set, if_pos rfl, if_pos (List.getElem?_eq_some_iff.1 hA).1]
  · have hne : k ≠ k0 := fun e => by
      subst e; have := nd_inj hi.rN (findF_mem hk) (findF_mem e1) rfl
      simp only [Prod.mk.injEq] at this; exact hj this.1
    refine ⟨k0, f0, e1, ?_, e3⟩
    show (s.A2.set k f')[k0]? = _
    rw [List.getElem?_set, if_neg hne]; exact e2
theorem Prot.keep {s : St} {i : Int} {was : List Int} (h : Prot s i was) : Prot s.forget i was := by
  obtain ⟨k0, f0, e1, e2, e3⟩ := h.fl; refine ⟨h.nm, h.sm, h.un, h.us, h.ut, k0, f0, ?_, e2, e3⟩
  show findF i (keepF s.nm s.sm s.ts s.fm) = _
  unfold keepF; rw [findF_filter (q := keepB s.nm s.sm s.ts), e1]; unfold keepB; rw [show s.nm.any (fun y => y.2 == i) = true from List.any_eq_true.2 ⟨(safeN, i), findS_mem h.nm, by simp⟩]; rfl
theorem Prot.turn {s : St} {i : Int} {was : List Int} (h : Prot s i was) {A1 : List Mp} {t : TurnD} (e1 : St.nm { s with A1 := A1 } = turnM t s.nm) (e2 : St.sm { s with A1 := A1 } = s.sm) (h1 : t.1 ≠ safeN) (h2 : t.2.1 ≠ safeN) (h3 : t.2.1 ≠ [] → t.2.2 ≠ i) :
    Prot { s with A1 := A1, ts := s.ts ++ [t] } i was := by
  have e1' : St.nm { s with A1 := A1, ts := s.ts ++ [t] } = turnM t s.nm := e1
  have e2' : St.sm { s with A1 := A1, ts := s.ts ++ [t] } = s.sm := e2
  refine ⟨?_, ?_, ?_, ?_, ?_, h.fl⟩
  · rw [e1', findS_turn_ne h1 h2]; exact h.nm
  · rw [e2']; exact h.sm
  · rw [e1']; intro x hx e; rcases turnM_sub hx with hx | ⟨k1, rfl⟩
    · exact h.un x hx e
    · exact absurd e (h3 k1)
  · rw [e2']; exact h.us
  · intro u hu; rcases List.mem_append.1 hu with hu | hu
    · exact h.ut u hu
    · rw [List.mem_singleton.1 hu]; exact ⟨h1, h2, h3⟩

theorem Prot.append {s : St} {N : Nat} {i : Int} {was : List Int} (hi : Inv s N) (h : Prot s i was) (a b : List Int) (n : Nat) : Prot (appendM s a b n).2 i was := by
  obtain ⟨k0, f0, q1, q2, q3⟩ := h.fl; unfold appendM; split
  · exact h
  split
  · exact h
  rename_i hm; split
  · rename_i hf; split
    · exact h
    split
    · exact h
    split
    · have hane : a ≠ [] := fun e => by subst e; simp [mayB] at hm
      have hsa : a ≠ safeN := fun e => by subst e; rw [h.nm] at hf; cases hf
      have hix := hi.kn _ (findF_mem q1)
      simp only at hix
      have e1 : St.nm { s.act.2 with A1 := s.A1.set s.jn (setS a (s.nx + 1) s.nm) } = turnM ([], a, s.nx + 1) s.act.2.nm := by
        show ((s.A1.set s.jn (setS a (s.nx + 1) s.nm))[s.jn]?).getD [] = turnM ([], a, s.nx + 1) s.nm
        rw [List.getElem?_set, if_pos rfl, if_pos hi.ok.ln]; unfold turnM; simp only [if_neg hane, if_true]; rfl
      have e2 : St.sm { s.act.2 with A1 := s.A1.set s.jn (setS a (s.nx + 1) s.nm) } = s.act.2.sm := by
        show ((s.A1.set s.jn (setS a (s.nx + 1) s.nm))[s.js]?).getD [] = _
        rw [List.getElem?_set, if_neg hi.ok.ns]; rfl
      have h1 := h.act.turn e1 e2 (by simp [safeN]) hsa (fun _ => by simp only; omega)
      refine ⟨h1.nm, h1.sm, h1.un, h1.us, h1.ut, k0, f0, ?_, ?_, q3⟩
      · show findF i (setF (s.nx + 1) (some s.A2.length) s.fm) = _
        rw [findF_set, if_neg (by omega)]; exact q1
      · show (s.A2 ++ [(b, 0)])[k0]? = _
        rw [List.getElem?_append_left (List.getElem?_eq_some_iff.1 q2).1]; exact q2
    · exact h.act
  · rename_i j hf; split
    · exact h
    split
    · split
      · rename_i k hk; split
        · rename_i f hA; refine h.act.setFile hi.act hk hA fun _ hh => ⟨hh.1, ?_⟩
          obtain ⟨k2, f2, e1, e2, e3, e4, e5⟩ := hi.ok.fm _ (findF_mem hk)
          simp only [oi] at e1; subst e1; rw [hA] at e2; simp only [oi] at e2; subst e2; simp only
          have := hh.1
          rw [List.take_append_of_le_length (by omega)]; exact hh.2
        · exact h.act
      · exact h.act
    · exact h.act

theorem Prot.ne {s : St} {i : Int} {was : List Int} (h : Prot s i was) {a : List Int} {j : Int} (ha : a ≠ safeN) (hf : findS a s.nm = some j) : j ≠ i := fun e => ha (h.un _ (findS_mem hf) e)
theorem Prot.cut {s : St} {N : Nat} {i : Int} {was : List Int} (hi : Inv s N) (h : Prot s i was) {a : List Int} (ha : a ≠ safeN) (n : Int) : Prot (cutM s a n).2 i was := by
  unfold cutM; split
  · exact h
  split
  · exact h
  · rename_i k f hf; obtain ⟨j, hj, hk, _, hA, _⟩ := hi.at hf; split
    · exact h
    split
    · exact h.act.setFile hi.act hk hA fun e => absurd e (h.ne ha hj)
    · exact h.act
theorem Prot.sync {s : St} {N : Nat} {i : Int} {was : List Int} (hi : Inv s N) (h : Prot s i was) (a : List Int) : Prot (syncM s a).2 i was := by
  unfold syncM; split
  · exact h
  split
  · exact h
  · rename_i k f hf; obtain ⟨j, hj, hk, _, hA, e3, e4, e5⟩ := hi.at hf; split
    · exact h.act.setFile hi.act hk hA fun _ hh => ⟨by have := hh.1; simp only; omega, hh.2⟩
    · exact h.act
theorem Prot.syncNames {s : St} {N : Nat} {i : Int} {was : List Int} (hi : Inv s N) (h : Prot s i was) : Prot (syncNamesM s).2 i was := by
  unfold syncNamesM; split
  · exact h
  split
  · refine Prot.keep ?_
    have e1 : s.act.2.safeN.nm = s.nm := by
      show ((s.A1 ++ [s.nm])[s.jn]?).getD [] = _
      rw [List.getElem?_append_left hi.ok.ln]; rfl
    have e2 : s.act.2.safeN.sm = s.nm := by
      show ((s.A1 ++ [s.nm])[s.A1.length]?).getD [] = _
      simp
    exact ⟨by rw [e1]; exact h.nm, by rw [e2]; exact h.nm, by rw [e1]; exact h.un, by rw [e2]; exact h.un, fun t ht => by simp [St.safeN] at ht, h.fl⟩
  · exact h.act
theorem Prot.rename {s : St} {N : Nat} {i : Int} {was : List Int} (hi : Inv s N) (h : Prot s i was) {a b : List Int} (ha : a ≠ safeN) (hb : b ≠ safeN) : Prot (renameM s a b).2 i was := by
  unfold renameM; split
  · exact h
  split
  · exact h
  split
  · exact h
  · rename_i j hf; split
    · split
      · exact h.act
      · have e1 : St.nm { s.act.2 with A1 := s.A1.set s.jn (turnM (a, b, j) s.nm) } = turnM (a, b, j) s.act.2.nm := by
          show ((s.A1.set s.jn (turnM (a, b, j) s.nm))[s.jn]?).getD [] = _
          rw [List.getElem?_set, if_pos rfl, if_pos hi.ok.ln]; rfl
        have e2 : St.sm { s.act.2 with A1 := s.A1.set s.jn (turnM (a, b, j) s.nm) } = s.act.2.sm := by
          show ((s.A1.set s.jn (turnM (a, b, j) s.nm))[s.js]?).getD [] = _
          rw [List.getElem?_set, if_neg hi.ok.ns]; rfl
        exact h.act.turn e1 e2 ha hb fun _ => h.ne ha hf
    · exact h.act
theorem Prot.remove {s : St} {N : Nat} {i : Int} {was : List Int} (hi : Inv s N) (h : Prot s i was) {a : List Int} (ha : a ≠ safeN) : Prot (removeM s a).2 i was := by
  unfold removeM; split
  · exact h
  split
  · exact h
  · split
    · have e1 : St.nm { s.act.2 with A1 := s.A1.set s.jn (turnM (a, [], 0) s.nm) } = turnM (a, [], 0) s.act.2.nm := by
        show ((s.A1.set s.jn (turnM (a, [], 0) s.nm))[s.jn]?).getD [] = _
        rw [List.getElem?_set, if_pos rfl, if_pos hi.ok.ln]; rfl
      have e2 : St.sm { s.act.2 with A1 := s.A1.set s.jn (turnM (a, [], 0) s.nm) } = s.act.2.sm := by
        show ((s.A1.set s.jn (turnM (a, [], 0) s.nm))[s.js]?).getD [] = _
        rw [List.getElem?_set, if_neg hi.ok.ns]; rfl
      exact (h.act.turn e1 e2 ha (by simp [safeN]) fun h => absurd rfl h).keep
    · exact h.act

theorem cStep_has {nm : Mp} {fm : Fm} {tails : List Int} {k : Nat} {was : List Int} : ∀ (nl : List (List Int)) (x : Int × List FileD), (∃ f, x.2[k]? = some f ∧ Has was f ∧ f.2 ≤ f.1.length) → ∃ f, (nl.foldl (cStep nm fm tails) x).2[k]? = some f ∧ Has was f ∧ f.2 ≤ f.1.length
  | [], x, h => h
  | a :: nl, x, h => by
    refine cStep_has nl _ ?_
    obtain ⟨f0, h1, h2, h3⟩ := h; unfold cStep; split
    · split
      · rename_i j _ k' hk; split
        · rename_i f hA; split
          · exact ⟨f0, h1, h2, h3⟩
          · by_cases e : k' = k
            · subst e; rw [h1] at hA; simp only [oi] at hA; subst hA; have m0 : 0 ≤ (if x.1 < tails.length then min (max (tails.getD x.1.toNat 0) 0) ((f0.1.length : Int) - f0.2) else 0) := by split <;> omega
              have m1 : (if x.1 < tails.length then min (max (tails.getD x.1.toNat 0) 0) ((f0.1.length : Int) - f0.2) else 0) ≤ (f0.1.length : Int) - f0.2 := by split <;> omega
              generalize (if x.1 < tails.length then min (max (tails.getD x.1.toNat 0) 0) ((f0.1.length : Int) - f0.2) else 0) = m at *
              obtain ⟨h4, h5⟩ := h2; refine ⟨(f0.1.take (f0.2 + m).toNat, f0.2 + m), ?_, ⟨?_, ?_⟩, ?_⟩
              · simp only
                rw [List.getElem?_set, if_pos rfl, if_pos (List.getElem?_eq_some_iff.1 h1).1]
              · simp only; omega
              · simp only
                rw [List.take_take, Nat.min_eq_left (by omega)]; exact h5
              · simp only [List.length_take]; omega
            · refine ⟨f0, ?_, h2, h3⟩
              simp only
              rw [List.getElem?_set, if_neg e]; exact h1
        · exact ⟨f0, h1, h2, h3⟩
      · exact ⟨f0, h1, h2, h3⟩
    · exact ⟨f0, h1, h2, h3⟩

theorem Prot.crash {s : St} {N : Nat} {i : Int} {was : List Int} (hi : Inv s N) (h : Prot s i was) (kn : Int) (tails : List Int) : Prot (crashM s kn tails) i was := by
  have h0 : Prot (s.turned (crashNm s kn)) i was := by
    have e1 : (s.turned (crashNm s kn)).nm = crashNm s kn := by
      show ((s.A1 ++ [crashNm s kn, crashNm s kn])[s.A1.length]?).getD [] = _
      simp
    have e2 : (s.turned (crashNm s kn)).sm = crashNm s kn := by
      show ((s.A1 ++ [crashNm s kn, crashNm s kn])[s.A1.length + 1]?).getD [] = _
      simp
    have hf : findS safeN (crashNm s kn) = some i := by
      have := findS_pre_ne (a := safeN) (ts := s.ts.take (crashN s kn)) (m := s.sm) fun t ht => by
        obtain ⟨a1, a2, _⟩ := h.ut t (List.mem_of_mem_take ht)
        exact ⟨a1, a2⟩
      exact this.trans h.sm
    have hu : ∀ x ∈ crashNm s kn, x.2 = i → x.1 = safeN := fun x hx e => by
      rcases pre_sub hx with hx | ⟨t, ht, k1, rfl⟩
      · exact h.us x hx e
      · exact absurd e ((h.ut t (List.mem_of_mem_take ht)).2.2 k1)
    exact ⟨by rw [e1]; exact hf, by rw [e2]; exact hf, by rw [e1]; exact hu, by rw [e2]; exact hu, fun t ht => by simp [St.turned] at ht, h.fl⟩
  have h1 := h0.keep
  obtain ⟨k, f, q1, q2, q3⟩ := h1.fl; obtain ⟨k2, f2, e1, e2, e3, e4, e5⟩ := (hi.turned kn).forget.ok.fm _ (findF_mem q1)
  simp only [oi] at e1; subst e1; rw [q2] at e2; simp only [oi] at e2; subst e2; obtain ⟨f', w1, w2, _⟩ := cStep_has (nm := crashNm s kn) (fm := (s.turned (crashNm s kn)).forget.fm) (tails := tails) (namesOf (crashNm s kn)) (0, s.A2) ⟨f, q2, q3, e5⟩
  exact ⟨h1.nm, h1.sm, h1.un, h1.us, h1.ut, k, f', q1, w1, w2⟩

def hurts (x : ActD) : Prop := (x.1 = 1 ∨ x.1 = 4 ∨ x.1 = 5) ∧ (x.2.1 = safeN ∨ x.2.2.1 = safeN)
theorem Prot.do {s : St} {N : Nat} {i : Int} {was : List Int} (hi : Inv s N) (h : Prot s i was) {x : ActD} (hx : ¬ hurts x) : Prot (doM s x).2 i was := by
  have hn : (x.1 = 1 ∨ x.1 = 4 ∨ x.1 = 5) → x.2.1 ≠ safeN ∧ x.2.2.1 ≠ safeN := fun h => ⟨fun e => hx ⟨h, .inl e⟩, fun e => hx ⟨h, .inr e⟩⟩
  unfold doM; by_cases k0 : x.1 = 0
  · simp only [if_pos k0]; exact h.append hi _ _ _
  simp only [if_neg k0]; by_cases k1 : x.1 = 1
  · simp only [if_pos k1]; exact h.cut hi (hn (.inl k1)).1 _
  simp only [if_neg k1]; by_cases k2 : x.1 = 2
  · simp only [if_pos k2]; exact h.sync hi _
  simp only [if_neg k2]; by_cases k3 : x.1 = 3
  · simp only [if_pos k3]; exact h.syncNames hi
  simp only [if_neg k3]; by_cases k4 : x.1 = 4
  · simp only [if_pos k4]; exact h.rename hi (hn (.inr (.inl k4))).1 (hn (.inr (.inl k4))).2
  simp only [if_neg k4]; by_cases k5 : x.1 = 5
  · simp only [if_pos k5]; exact h.remove hi (hn (.inr (.inr k5))).1
  simp only [if_neg k5]; by_cases k6 : x.1 = 6
  · simp only [if_pos k6]; exact h.count _ _ _
  simp only [if_neg k6]; by_cases k7 : x.1 = 7
  · simp only [if_pos k7]; exact h.count _ _ _
  simp only [if_neg k7]; by_cases k8 : x.1 = 8
  · simp only [if_pos k8]; exact h.crash hi _ _
  simp only [if_neg k8]; exact h
end Go.Proofs.Ytmglkddddpipgaa

namespace Go.Proofs.Ytmglkddddpipgaa
open Sx Go.RowKit

theorem act_plain {s : St} (h2 : s.st = -1) (h3 : s.fa = 0) : s.act = (0, s) := by
  obtain ⟨q, jn, js, ts, nx, st, fa, de, A1, A2, fm⟩ := s; simp only at h2 h3
  subst h2; subst h3; rfl
theorem findS_set_self {a : List Int} {i : Int} : ∀ m : Mp, findS a (setS a i m) = some i
  | [] => by simp [findS, setS, findM, setM, keyEq]
  | (c, j) :: m => by
    have ih : findM .str a (setM .str a i m) = some i := findS_set_self m
    by_cases hq : a = c
    · subst hq; simp [findS, setS, findM, setM, keyEq]
    · simp [findS, setS, findM, setM, keyEq, hq, ih]

structure Safe (s : St) (i : Int) (k : Nat) (f : FileD) : Prop where
  de : s.de = false
  st : s.st = -1
  fa : s.fa = 0
  nm : findS safeN s.nm = some i
  fk : findF i s.fm = some (some k)
  fA : s.A2[k]? = some f

theorem app_safe {s : St} {N : Nat} (hi : Inv s N) (h1 : s.de = false) (h2 : s.st = -1) (h3 : s.fa = 0) (h0 : (appendM s safeN [7, 8, 9] (usedN s.A2 s.fm)).1 = 0) :
    ∃ i k f, Safe (appendM s safeN [7, 8, 9] (usedN s.A2 s.fm)).2 i k f ∧ 3 ≤ f.1.length := by
  have hm : mayB safeN = true := by decide
  cases hf : findS safeN s.nm with
  | none =>
    simp only [appendM, h1, Bool.false_eq_true, if_false, hm, hf, act_plain h2 h3, if_true, Bool.true_eq_false] at h0 ⊢; split at h0
    · cases h0
    rename_i c1; split at h0
    · cases h0
    rename_i c2; simp only [if_neg c1, if_neg c2]; refine ⟨s.nx + 1, s.A2.length, ([7, 8, 9], 0), ⟨h1, h2, h3, ?_, ?_, ?_⟩, by simp⟩
    · show findS safeN (((s.A1.set s.jn (setS safeN (s.nx + 1) s.nm))[s.jn]?).getD []) = _
      rw [List.getElem?_set, if_pos rfl, if_pos hi.ok.ln]; exact findS_set_self _
    · show findF (s.nx + 1) (setF (s.nx + 1) (some s.A2.length) s.fm) = _
      rw [findF_set, if_pos rfl]
    · show (s.A2 ++ [([7, 8, 9], 0)])[s.A2.length]? = _
      simp
  | some i =>
    obtain ⟨k, hk⟩ := hi.ok.names _ (findS_mem hf)
    simp only at hk
    obtain ⟨k2, f, e1, hA, e3, e4, e5⟩ := hi.ok.fm _ (findF_mem hk)
    simp only [oi] at e1; subst e1; simp only [appendM, h1, Bool.false_eq_true, if_false, hm, hf, act_plain h2 h3, if_true, Bool.true_eq_false, hk, hA] at h0 ⊢; split at h0
    · cases h0
    rename_i c2; simp only [if_neg c2]; refine ⟨i, k, (f.1 ++ [7, 8, 9], f.2), ⟨by first | rfl | exact h1, h2, h3, hf, hk, ?_⟩, by simp⟩
    show (s.A2.set k _)[k]? = _
    rw [List.getElem?_set, if_pos rfl, if_pos (List.getElem?_eq_some_iff.1 hA).1]

theorem Safe.file {s : St} {i : Int} {k : Nat} {f : FileD} (h : Safe s i k f) : s.file safeN = some (k, f) := file_some h.nm h.fk h.fA
theorem Safe.size {s : St} {i : Int} {k : Nat} {f : FileD} (h : Safe s i k f) : sizeM s safeN = f.1.length := by unfold sizeM; rw [h.file]
theorem Safe.read {s : St} {i : Int} {k : Nat} {f : FileD} (h : Safe s i k f) : readM s safeN 0 f.1.length = (f.1, 0) := by
  unfold readM; rw [h.de, h.file]; simp
theorem Safe.sync {s : St} {i : Int} {k : Nat} {f : FileD} (h : Safe s i k f) : (syncM s safeN).1 = 0 ∧ Safe (syncM s safeN).2 i k (f.1, (f.1.length : Int)) := by
  have e : syncM s safeN = (0, { s with A2 := s.A2.set k (f.1, (f.1.length : Int)) }) := by
    unfold syncM; rw [h.de, h.file, act_plain h.st h.fa]; simp [h.de]
  rw [e]; refine ⟨rfl, h.de, h.st, h.fa, h.nm, h.fk, ?_⟩
  show (s.A2.set k _)[k]? = _
  rw [List.getElem?_set, if_pos rfl, if_pos (List.getElem?_eq_some_iff.1 h.fA).1]
theorem Safe.names {s : St} {d : Rd} {N : Nat} {i : Int} {k : Nat} {f : FileD} (hi : Inv s N) (hs : Sim s d) (h : Safe s i k f) (hf : (f.1.length : Int) ≤ f.2) : (syncNamesM s).1 = 0 ∧ Prot (syncNamesM s).2 i f.1 := by
  have e : syncNamesM s = (0, s.safeN.forget) := by
    unfold syncNamesM; rw [h.de, act_plain h.st h.fa]; simp
  rw [e]; have e1 : s.safeN.nm = s.nm := by
    show ((s.A1 ++ [s.nm])[s.jn]?).getD [] = _
    rw [List.getElem?_append_left hi.ok.ln]; rfl
  have e2 : s.safeN.sm = s.nm := by
    show ((s.A1 ++ [s.nm])[s.A1.length]?).getD [] = _
    simp
  have hu : ∀ x ∈ s.nm, x.2 = i → x.1 = safeN := fun x hx e => by
    have := nd_inj hs.nv' hx (findS_mem h.nm) e
    rw [this]
  refine ⟨rfl, Prot.keep ⟨by rw [e1]; exact h.nm, by rw [e2]; exact h.nm, by rw [e1]; exact hu, by rw [e2]; exact hu, fun t ht => by simp [St.safeN] at ht, k, f, h.fk, h.fA, hf, by simp⟩⟩
theorem Prot.read {s : St} {N : Nat} {i : Int} {was : List Int} (hi : Inv s N) (h : Prot s i was) (hd : s.de = false) : readM s safeN 0 was.length = (was, 0) := by
  obtain ⟨k, f, h1, h2, h3, h4⟩ := h.fl; obtain ⟨k2, f2, e1, e2, e3, e4, e5⟩ := hi.ok.fm _ (findF_mem h1)
  simp only [oi] at e1; subst e1; rw [h2] at e2; simp only [oi] at e2; subst e2; unfold readM; rw [hd, file_some h.nm h1 h2]; have c : ¬ ((0 : Int) < 0 ∨ (was.length : Int) < 0 ∨ (0 : Int) > f.1.length ∨ (was.length : Int) > f.1.length - 0) := by omega
  simp only [if_neg c, Bool.false_eq_true, if_false]; simp [h4]
theorem isB_safe : IsB safeN := fun c hc => by simp [safeN] at hc; omega

theorem f5 (l more : List ActD) (hl : AsB l) (hm : AsB more) : F5 [⟨.sl AcT, l⟩, ⟨.sl AcT, more⟩] = some [⟨.bool, true⟩] := by
  have h14 := s14 (lc := [c14, c15, c20, c21, c22, c23, c24, c25, c26, c17, c27]) rfl
  have h15 := s15 (lc := [c14, c15, c20, c21, c22, c23, c24, c25, c26, c17, c27]) rfl
  have h20 := s20 (lc := [c14, c15, c20, c21, c22, c23, c24, c25, c26, c17, c27]) rfl
  have h21 := s21 (lc := [c14, c15, c20, c21, c22, c23, c24, c25, c26, c17, c27]) rfl
  have h22 := s22 (lc := [c14, c15, c20, c21, c22, c23, c24, c25, c26, c17, c27]) rfl
  have h23 := s23 (lc := [c14, c15, c20, c21, c22, c23, c24, c25, c26, c17, c27]) rfl
  have h24 := s24 (lc := [c14, c15, c20, c21, c22, c23, c24, c25, c26, c17, c27]) rfl
  have h25 := s25 (lc := [c14, c15, c20, c21, c22, c23, c24, c25, c26, c17, c27]) rfl
  have h26 := s26 (lc := [c14, c15, c20, c21, c22, c23, c24, c25, c26, c17, c27]) rfl
  have h17 := s17 (lc := [c14, c15, c20, c21, c22, c23, c24, c25, c26, c17, c27]) rfl
  have h27 := s27 (lc := [c14, c15, c20, c21, c22, c23, c24, c25, c26, c17, c27]) rfl
  simp only [F5, Fof, ir5]; generalize Phi [c14, c15, c20, c21, c22, c23, c24, c25, c26, c17, c27] = Φ at *
  have g14 := h14 l
  have g14m := h14 more
  have g15 := h15 ()
  cases hL : lightB l with
  | false =>
    rw [hL] at g14; simp -implicitDefEqProofs [g14, g15]
  | true =>
  rw [hL] at g14; cases hM : lightB more with
  | false =>
    rw [hM] at g14m; simp -implicitDefEqProofs [g14, g14m, g15]
  | true =>
  rw [hM] at g14m; have ha := actsOk_of hl hL
  obtain ⟨mlen, mall⟩ := actsOk_of hm hM; have g20 := h20 1000 l (by omega) (by omega) ha
  obtain ⟨i0, sim0⟩ := play_inv ha.2 (Inv.new (q := 1000) (A1 := []) (A2 := []) (by omega) (by omega)) (sim_new 1000) (by have := ha.1; omega)
  generalize playM (newSt 1000 [] []) l = s0 at *
  generalize playR (rd0 1000) l = d0 at *
  have i0' : Inv s0 40 := i0.mono (by have := ha.1; omega) (by omega)
  have g21 := h21 s0 100 [] i0'.ok
  have i1 : Inv (crashM s0 100 []) 40 := i0'.crash _ _
  have sim1 := sim0.crash i0 100 []
  have c1 : (crashM s0 100 []).de = false := rfl
  have c2 : (crashM s0 100 []).st = -1 := rfl
  have c3 : (crashM s0 100 []).fa = 0 := rfl
  generalize crashM s0 100 [] = s1 at *
  generalize crashR d0 100 [] = d1 at *
  have g22 := h22 s1 safeN [7, 8, 9] _ i1.ok i1.len i1.un2 (by simp) (by have := i1.nxN; omega)
  have i2 : Inv (appendM s1 safeN [7, 8, 9] (usedN s1.A2 s1.fm)).2 41 := i1.append (by omega) isB_safe (by simp)
  have sim2 := (sim1.append i1 safeN [7, 8, 9] (by simp)).2
  by_cases e2 : ¬ (appendM s1 safeN [7, 8, 9] (usedN s1.A2 s1.fm)).1 = 0
  · generalize (appendM s1 safeN [7, 8, 9] (usedN s1.A2 s1.fm)).2 = s2 at *
    generalize (appendM s1 safeN [7, 8, 9] (usedN s1.A2 s1.fm)).1 = er at *
    unfold safeN at g22; simp -implicitDefEqProofs [g14, g14m, g15, g20, g21, g22, e2]
  replace e2 := Decidable.not_not.1 e2
  obtain ⟨i, k, f, hS, hf3⟩ := app_safe i1 c1 c2 c3 e2; rw [e2] at g22; generalize (appendM s1 safeN [7, 8, 9] (usedN s1.A2 s1.fm)).2 = s2 at *
  generalize (appendR d1 safeN [7, 8, 9]).1 = d2 at *
  have g23 := h23 s2 safeN i2.ok
  have g24 := h24 s2 safeN 0 f.1.length i2.ok
  rw [hS.size] at g23; rw [hS.read] at g24; have g25 := h25 s2 safeN i2.ok
  obtain ⟨e3, hS3⟩ := hS.sync; have i3 : Inv (syncM s2 safeN).2 41 := i2.sync _
  have sim3 := (sim2.sync i2 safeN).2
  rw [e3] at g25; generalize (syncM s2 safeN).2 = s3 at *
  generalize (syncR d2 safeN).1 = d3 at *
  have g26 := h26 s3 i3.ok
  obtain ⟨e4, hP⟩ := hS3.names i3 sim3 (by simp)
  have i4 : Inv (syncNamesM s3).2 41 := i3.syncNames
  rw [e4] at g26; generalize (syncNamesM s3).2 = s4 at *
  have hfl : f.1.length ≤ 4194304 := by
    obtain ⟨k2, f2, w1, w2, w3, _⟩ := i2.ok.fm _ (findF_mem hS.fk)
    simp only [oi] at w1; subst w1; rw [hS.fA] at w2; simp only [oi] at w2; subst w2; exact w3
  have n3 : ¬ (f.1.length : Int) < 3 := by omega
  simp only at hP
  unfold safeN at g22 g23 g24 g25; simp -implicitDefEqProofs [g14, g14m, g20, g21, g22, g23, g24, g25, g26, n3]
  clear g20 g21 g22 g23 g24 g25 g26 sim0 sim1 sim2 sim3 hS hS3 e3 e4 e2 n3 g14 g14m i0 i0' i1 i2 i3; refine iter_meas (fun s1 : Int × List Fm × List FileD × List Mp × List DiskD => ((more.length : Int) - s1.1).toNat) (fun _ => _) (fun s1 => 0 ≤ s1.1 ∧ s1.1 ≤ more.length ∧ ∃ s : St, Inv s (41 + s1.1.toNat) ∧ Prot s i f.1 ∧ s1.2 = ([s.fm], s.A2, s.A1, [s.d])) ?_ ?_
  · exact ⟨Int.le_refl _, Int.natCast_nonneg _, s4, i4, hP, rfl⟩
  rintro ⟨j, A3, A2, A1, A0⟩ ⟨j1, j2, s, hs, hp, hA⟩
  simp only at j1 j2 hs
  simp only [Prod.mk.injEq] at hA; obtain ⟨rfl, rfl, rfl, rfl⟩ := hA; by_cases hj : j < more.length
  · obtain ⟨x, hx⟩ : ∃ x, more[j.toNat]? = some x := ⟨_, List.getElem?_eq_getElem (by omega)⟩
    obtain ⟨_, hx2⟩ := List.getElem?_eq_some_iff.1 hx
    have wj : IntKind.i64.wrap (j + 1) = j + 1 := wi64 _ (by omega) (by omega)
    obtain ⟨b1, b2, b3, b4, b5⟩ := mall x (List.mem_of_getElem? hx)
    have g17 : Does1 Φ 17 [⟨.ref 0, some 0⟩, ⟨.int .i64, x.1⟩, ⟨.str, x.2.1⟩, ⟨.str, x.2.2.1⟩, ⟨.sl (.int .u8), x.2.2.2.1⟩, ⟨.int .i64, x.2.2.2.2.1⟩, ⟨.int .i64, x.2.2.2.2.2.1⟩, ⟨.sl (.int .i64), x.2.2.2.2.2.2⟩, ⟨.sl DkT, [s.d]⟩, ⟨.sl (.sl MpT), s.A1⟩, ⟨.sl FlT, s.A2⟩, ⟨.sl (.sl FmT), [s.fm]⟩] [⟨.int .i64, (doM s x).1⟩, ⟨.sl DkT, [(doM s x).2.d]⟩, ⟨.sl (.sl MpT), (doM s x).2.A1⟩, ⟨.sl FlT, (doM s x).2.A2⟩, ⟨.sl (.sl FmT), [(doM s x).2.fm]⟩] := h17 s _ hs (by omega) x.1 x.2.1 x.2.2.1 x.2.2.2.1 x.2.2.2.2.1 x.2.2.2.2.2.1 x.2.2.2.2.2.2 b4
    have hs2 := hs.do (by omega) b1 b2 b4 b3
    by_cases hh : hurts x
    · refine .inr ?_
      clear hs2 g17; obtain ⟨hk, hn⟩ := hh; unfold safeN at hn; rcases hk with hk | hk | hk
      · rcases hn with hn | hn
        · simp -implicitDefEqProofs [hj, j1, hx, hx2, hk, hn, g15]
        · by_cases hn2 : x.2.1 = [115, 97, 102, 101]
          · simp -implicitDefEqProofs [hj, j1, hx, hx2, hk, hn2, g15]
          · simp -implicitDefEqProofs [hj, j1, hx, hx2, hk, hn, hn2, g15]
      · rcases hn with hn | hn
        · simp -implicitDefEqProofs [hj, j1, hx, hx2, hk, hn, g15]
        · by_cases hn2 : x.2.1 = [115, 97, 102, 101]
          · simp -implicitDefEqProofs [hj, j1, hx, hx2, hk, hn2, g15]
          · simp -implicitDefEqProofs [hj, j1, hx, hx2, hk, hn, hn2, g15]
      · rcases hn with hn | hn
        · simp -implicitDefEqProofs [hj, j1, hx, hx2, hk, hn, g15]
        · by_cases hn2 : x.2.1 = [115, 97, 102, 101]
          · simp -implicitDefEqProofs [hj, j1, hx, hx2, hk, hn2, g15]
          · simp -implicitDefEqProofs [hj, j1, hx, hx2, hk, hn, hn2, g15]
    · have hp2 := hp.do hs hh
      have hh' : (x.1 = 1 ∨ x.1 = 4 ∨ x.1 = 5) → ¬ x.2.1 = [115, 97, 102, 101] ∧ ¬ x.2.2.1 = [115, 97, 102, 101] := fun h => ⟨fun e => hh ⟨h, .inl e⟩, fun e => hh ⟨h, .inr e⟩⟩
      generalize (doM s x).1 = er at g17
      generalize (doM s x).2 = s' at *
      refine .inl ⟨(j + 1, [s'.fm], s'.A2, s'.A1, [s'.d]), ?_, ⟨by simp only; omega, by simp only; omega, s', by rw [show 41 + (j + 1).toNat = 41 + j.toNat + 1 by omega]; exact hs2, hp2, rfl⟩, by simp only; omega, rfl⟩
      by_cases k1 : x.1 = 1
      · obtain ⟨n1, n2⟩ := hh' (.inl k1)
        rw [k1] at g17; simp -implicitDefEqProofs [hj, j1, hx, hx2, k1, n1, n2, g17, wj]
      by_cases k4 : x.1 = 4
      · obtain ⟨n1, n2⟩ := hh' (.inr (.inl k4))
        rw [k4] at g17; simp -implicitDefEqProofs [hj, j1, hx, hx2, k4, n1, n2, g17, wj]
      by_cases k5 : x.1 = 5
      · obtain ⟨n1, n2⟩ := hh' (.inr (.inr k5))
        rw [k5] at g17; simp -implicitDefEqProofs [hj, j1, hx, hx2, k5, n1, n2, g17, wj]
      simp -implicitDefEqProofs [hj, j1, hx, hx2, k1, k4, k5, g17, wj]
  · refine .inr ?_
    have g21 := h21 s 0 [] hs.ok
    have i6 : Inv (crashM s 0 []) _ := hs.crash _ _
    have hp6 := hp.crash hs 0 []
    have c6 : (crashM s 0 []).de = false := rfl
    generalize crashM s 0 [] = s6 at *
    have g24 := h24 s6 safeN 0 f.1.length i6.ok
    rw [hp6.read i6 c6] at g24; have g27 := h27 f.1 f.1 (by omega)
    simp only [decide_true] at g27; unfold safeN at g24; simp -implicitDefEqProofs [hj, g21, g24, g27, g15]
end Go.Proofs.Ytmglkddddpipgaa
