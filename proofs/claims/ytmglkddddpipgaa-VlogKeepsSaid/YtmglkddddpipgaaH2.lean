/-
  Contracts proved by hand: room, and forgetting.
-/
import Derived.Test.YtmglkddddpipgaaH1
import Derived.Deep.RegionHeld3
import Derived.IntWalk
import Derived.Laws.Closers25
set_option linter.unusedVariables false
set_option linter.unusedSimpArgs false
namespace Go.Proofs.Ytmglkddddpipgaa
open Sx Go.RowKit Go.Lib

theorem cell_below {w W : World} (hb : Below w.heap.size w W) {a : Addr} {v : Value} (hc : w.cell? a = some v) : W.cell? a = some v := by
  have hlt : a.block < w.heap.size := by
    rcases Nat.lt_or_ge a.block w.heap.size with h' | h'
    · exact h'
    · simp [World.cell?, Array.getElem?_eq_none h'] at hc
  rw [← hc]; unfold World.cell?
  rw [hb.block _ hlt]

set_option maxHeartbeats 4000000 in
set_option maxRecDepth 1000000 in
theorem k19 (b0 n : Nat) (q : Int) (w : World) (hc : w.cell? ⟨b0, 0, none⟩ = some (.int .i64 q)) (hq : 0 ≤ q) (hq2 : q ≤ BIG) (hn : n ≤ BIG)
    (H : ∀ W, Below w.heap.size w W → Calls Try.prog 18 #[.pointer (some ⟨b0, 0, none⟩)] W fun e w' => e = .returned (.int .i64 n) ∧ Below W.heap.size W w') :
    Calls Try.prog 19 #[.pointer (some ⟨b0, 0, none⟩)] w fun e w' => e = .returned (.int .i64 (q - n)) ∧ Below w.heap.size w w' := by
  have hsub : IntKind.i64.wrap (q - (n : Int)) = q - n := IntWalk.i64_in _ (by unfold BIG at *; omega)
  have k1 : ∀ W, W.cell? ⟨b0, 0, none⟩ = some (.int .i64 q) ∧ Below w.heap.size w W → W.drew.cell? ⟨b0, 0, none⟩ = some (.int .i64 q) ∧ Below w.heap.size w W.drew := fun W h => ⟨h.1, h.2.drew⟩
  have k2 : ∀ W W', W.cell? ⟨b0, 0, none⟩ = some (.int .i64 q) ∧ Below w.heap.size w W → Below W.heap.size W W' → W'.cell? ⟨b0, 0, none⟩ = some (.int .i64 q) ∧ Below w.heap.size w W' := fun W W' h hb => ⟨cell_below hb h.1, h.2.trans (hb.mono h.2.size)⟩
  have k0 : w.cell? ⟨b0, 0, none⟩ = some (.int .i64 q) ∧ Below w.heap.size w w := ⟨hc, Below.refl _ _⟩
  go_enter Try.func19, Try.ntmps19
  go_wp2
  go_region_held3 (fun W => W.cell? ⟨b0, 0, none⟩ = some (.int .i64 q) ∧ Below w.heap.size w W) (first | exact k0 | exact k1 _ (by assumption) | (exact k2 _ _ (by assumption) (by assumption)))
    (first | (go_at_call 18; refine (H _ (And.right (by assumption))).mono ?_; rintro e w2 ⟨rfl, hb⟩))
  go_wp2
  go_ret
  exact ⟨rfl, And.right (by assumption)⟩

set_option maxHeartbeats 4000000 in
set_option maxRecDepth 1000000 in
theorem k19n (w : World) : Calls Try.prog 19 #[.pointer none] w fun e w' => e = .returned (.int .i64 0) ∧ w' = w := by
  go_enter Try.func19, Try.ntmps19
  go_wp2
  go_ret
  exact ⟨rfl, rfl⟩

def roomOf (A0 : List DiskD) (A2 : List FileD) (A3 : List (List (Int × Option Nat))) : Option Nat → Option Int
  | none => some 0
  | some j => match A0[j]?, usedOf A0 A2 A3 (some j) with
    | some x, some n => if 0 ≤ x.1 ∧ x.1 ≤ BIG then some (x.1 - n) else none
    | _, _ => none

def sig19 : Sig := { id := 19, ins := [(false, .ref 0)], outs := [(false, [(tI, none)])], ars := [(0, T0), (2, T2), (3, T3)] }
def F19 : List D → Option (List D) := fun ds => match ds with
  | [⟨.ref 0, d⟩, a0, a2, a3] => match a0.get (.sl T0.t), a2.get (.sl T2.t), a3.get (.sl T3.t) with
    | some A0, some A2, some A3 => match roomOf A0 A2 A3 d with
      | some n => some [⟨tI, n⟩, D0 A0, D2 A2, D3 A3]
      | none => none
    | _, _, _ => none
  | _ => none

theorem room_fits (z : Int) (n : Nat) (h1 : 0 ≤ z) (h2 : z ≤ BIG) (h3 : n ≤ BIG) : -9223372036854775808 ≤ z - n ∧ z - n ≤ 9223372036854775807 := by unfold BIG at *; omega

theorem ok19 : FnOkX Try.prog 19 sig19 F19 := by
  refine ⟨fun h => (by cases h), fun _ => ⟨⟨Try.f19, (Try.f19.body).getD .skip, Try.func19, by kernel_rfl, by kernel_rfl⟩, ?_⟩⟩
  intro w p om vs cs ds aa rs hpw hlab hpart hrep hty has hF; obtain ⟨v, rfl, rfl⟩ := part1 hpart; cases hrep with
  | cons h1 h2 =>
    cases h2; rename_i d; have hd : d.t = .ref 0 := by simpa [inL, sig19, Ty.cells] using hty
    have hR := entryRel hpw hlab has
    obtain ⟨a0, a2, a3, rfl, g0, g2, g3⟩ := get3 has; obtain ⟨A0, rfl⟩ : ∃ A0 : List DiskD, a0 = D0 A0 := by obtain ⟨x, h, _⟩ := g0; exact ⟨x, h⟩
    obtain ⟨A2, rfl⟩ : ∃ A2 : List FileD, a2 = D2 A2 := by obtain ⟨x, h, _⟩ := g2; exact ⟨x, h⟩
    obtain ⟨A3, rfl⟩ : ∃ A3 : List (List (Int × Option Nat)), a3 = D3 A3 := by obtain ⟨x, h, _⟩ := g3; exact ⟨x, h⟩
    clear g0 g2 g3; obtain ⟨t, r⟩ := d; simp only at hd
    subst hd; have hF' : (match roomOf A0 A2 A3 r with | some n => some [(⟨tI, n⟩ : D), D0 A0, D2 A2, D3 A3] | none => none) = some rs := by
      have : F19 [⟨.ref 0, r⟩, D0 A0, D2 A2, D3 A3] = some rs := hF
      have g0 : (D0 A0).get (.sl T0.t) = some A0 := D.get_self _ _
      have g2 : (D2 A2).get (.sl T2.t) = some A2 := D.get_self _ _
      have g3 : (D3 A3).get (.sl T3.t) = some A3 := D.get_self _ _
      simpa only [F19, g0, g2, g3] using this
    have fin : ∀ (n : Int) (w' : World), roomOf A0 A2 A3 r = some n → -9223372036854775808 ≤ n → n ≤ 9223372036854775807 → Below w.heap.size w w' → ∃ u, Ending.returned (.int .i64 n) = .returned u ∧ ∃ p' om' us cs', ReturnedA sig19 w p om rs u w' p' om' us cs' ∧ ∀ k j b, (p.ad k j b → p'.ad k j b) ∧ ((∀ q ∈ sig19.ars, q.1 ≠ k) → p'.ad k j b → p.ad k j b) := by
      intro n w' hu hn1 hn2 hb; rw [hu] at hF'; simp only [oi] at hF'; subst hF'; have hR2 := hR.grew hb (fun _ _ => False) (fun _ _ h => h.elim)
      obtain ⟨r1, r2⟩ := hR2.retA (sig := sig19) rfl (us := [.int .i64 n]) (cs := [.int .i64 n]) (ds := [⟨tI, n⟩]) (das := [D0 A0, D2 A2, D3 A3])
        ⟨[_], [], rfl, rfl, .inr ⟨rfl, rfl⟩, rfl⟩ (.cons ⟨rfl, ⟨hn1, hn2⟩⟩ .nil) rfl (noOwn18 rfl) (fun j x b h => by simp [ownList, outL, sig19] at h)
        (.cons ⟨.v 0, rfl, rfl, rfl⟩ (.cons ⟨.v 1, rfl, rfl, rfl⟩ (.cons ⟨.v 2, rfl, rfl, rfl⟩ .nil)))
      exact ⟨_, rfl, _, _, _, _, r1, r2⟩
    rcases obj_of hR (T := T0) (d := ⟨.ref 0, r⟩) (xs := A0) (x0 := .v 0) rfl rfl rfl rfl rfl h1 with ⟨rfl, h3⟩ | ⟨j, b, y, cs, el, rfl, h3, hy, _, _, _, hh, hrep, _⟩
    · have hr : r = none := eq_of_heq (D.mk.inj h3).2
      subst hr; refine Calls.mono (k19n w) ?_
      rintro e w' ⟨rfl, rfl⟩
      exact fin 0 w' rfl (by decide) (by decide) (Below.refl _ _)
    · have hr : r = some j := eq_of_heq (D.mk.inj h3).2
      subst hr; obtain ⟨va, vb, hcs, hra, _⟩ : ∃ va vb, cs.toList = va ++ vb ∧ Rep (gIn p om).p w tI va y.1 ∧ True := by
        obtain ⟨va, vb, hcs, hra, _⟩ := hrep; exact ⟨va, vb, hcs, hra, trivial⟩
      have l1 := Rep.len _ _ _ hra
      match va, l1 with
      | [c0], _ =>
        have hc0 : c0 = .int .i64 y.1 := by
          obtain ⟨h, _⟩ := hra; simpa using h
        have hcell : w.cell? ⟨b, 0, none⟩ = some (.int .i64 y.1) := by
          rw [cell_of_row w b 0 cs el (0, 0) hh, ← Array.getElem?_toList, hcs, hc0]; rfl
        have hro : roomOf A0 A2 A3 (some j) = (match usedOf A0 A2 A3 (some j) with | some n => if 0 ≤ y.1 ∧ y.1 ≤ BIG then some (y.1 - n) else none | none => none) := by
          simp only [roomOf, show A0[j]? = some y from hy]
          cases usedOf A0 A2 A3 (some j) <;> rfl
        rw [hro] at hF'; cases hu : usedOf A0 A2 A3 (some j) with
        | none => rw [hu] at hF'; cases hF'
        | some n =>
          rw [hu] at hF' hro; by_cases hq : 0 ≤ y.1 ∧ y.1 ≤ BIG
          · have hn := (used_calls hR (x0 := .v 0) (x2 := .v 1) (x3 := .v 2) rfl rfl rfl rfl rfl rfl rfl rfl rfl h1 hu).1
            have hro' : roomOf A0 A2 A3 (some j) = some (y.1 - n) := by rw [hro]; simp only [if_pos hq]
            refine Calls.mono (k19 b n y.1 w hcell hq.1 hq.2 hn fun W hW => ?_) ?_
            · have hRW := hR.grew hW (fun _ _ => False) (fun _ _ h => h.elim)
              have h1W : RepD ((gIn p om).p.more fun _ _ => False) W (.pointer (some ⟨b, 0, none⟩)) ⟨.ref 0, some j⟩ := by
                exact h1
              exact (used_calls hRW (x0 := .v 0) (x2 := .v 1) (x3 := .v 2) rfl rfl rfl rfl rfl rfl rfl rfl rfl h1W hu).2
            · rintro e w' ⟨rfl, hb⟩
              exact fin _ w' hro' (room_fits y.1 n hq.1 hq.2 hn).1 (room_fits y.1 n hq.1 hq.2 hn).2 hb
          · simp only [if_neg hq] at hF'; cases hF'
end Go.Proofs.Ytmglkddddpipgaa

namespace Go.Proofs.Ytmglkddddpipgaa
open Sx Go.RowKit Go.Lib

structure Alike' (X : Nat → Prop) (w w' : World) : Prop where
  os : w'.os = w.os
  tape : w'.tape = w.tape
  output : w'.output = w.output
  size : w.heap.size ≤ w'.heap.size
  block : ∀ b, b < w.heap.size → ¬ X b → w'.heap[b]? = w.heap[b]?

theorem Alike'.refl (X : Nat → Prop) (w : World) : Alike' X w w := ⟨rfl, rfl, rfl, Nat.le_refl _, fun _ _ _ => rfl⟩
theorem Alike'.trans {X Y : Nat → Prop} {a b c : World} (h : Alike' X a b) (k : Alike' Y b c) : Alike' (fun x => X x ∨ Y x) a c :=
  ⟨k.os.trans h.os, k.tape.trans h.tape, k.output.trans h.output, Nat.le_trans h.size k.size, fun i hi hx => (k.block i (Nat.lt_of_lt_of_le hi h.size) (fun h => hx (.inr h))).trans (h.block i hi (fun h => hx (.inl h)))⟩
theorem Alike'.weak {X Y : Nat → Prop} {a b : World} (h : Alike' X a b) (hxy : ∀ x, x < a.heap.size → X x → Y x) : Alike' Y a b :=
  ⟨h.os, h.tape, h.output, h.size, fun i hi hx => h.block i hi fun k => hx (hxy i hi k)⟩
theorem Alike'.of {w w' : World} (h : Below w.heap.size w w') : Alike' (fun _ => False) w w' := ⟨h.os, h.tape, h.output, h.size, fun b hb _ => h.block b hb⟩
theorem setMap_like {w : World} {b : Nat} {es : Array MapEntry} {clock : Nat} : Alike' (fun x => x = b) w { w with heap := w.heap.setIfInBounds b (.map es clock) } :=
  ⟨rfl, rfl, rfl, by simp, fun i _ hx => by simp [Ne.symm hx]⟩

theorem iter_next {P : Program} {wr : World} {it bm since c0 : Nat} {seen : Array Nat} {es : Array MapEntry} {clock : Nat}
    (hr : wr.heap[it]? = some (.mapIter (some bm) since seen c0)) (hb : wr.heap[bm]? = some (.map es clock)) (hold : ∀ x ∈ es.toList, x.born < since) (hn : (es.toList.map (·.born)).Nodup) (hc0 : since ≤ c0) :
    ((leftOf es seen).size = 0 ∧ ∀ ty, (Instr.next (.pointer (some ⟨it, 0, none⟩)) false ty).run P wr = .ok (.tuple #[.bool false]) wr) ∨
    ∃ e ∈ (leftOf es seen).toList, ∃ wn : World, wn.heap[it]? = some (.mapIter (some bm) since (seen.push e.born) clock) ∧ Alike' (fun b => b = it) wr wn ∧ wn.heap.size = wr.heap.size ∧ wn.heap[bm]? = some (.map es clock) ∧
      (∀ ty, (Instr.next (.pointer (some ⟨it, 0, none⟩)) false ty).run P wr = .ok (.tuple #[.bool true, e.key, e.val]) wn) ∧
      (Instr.entry (.pointer (some ⟨it, 0, none⟩))).run P wn = .ok (.tuple #[e.key, e.val]) wn := by
  rcases run_next_at (P := P) wr 0 it bm since c0 seen es clock hr hb hold hc0 with ⟨h0, hrun⟩ | ⟨e, he, w1, hw1, hrun⟩
  · exact .inl ⟨h0, fun ty => hrun⟩
  · have hlt := (Array.getElem?_eq_some_iff.1 hr).1
    have hh : w1.heap = wr.heap := by rcases hw1 with rfl | rfl <;> rfl
    have hset : ∀ b, b ≠ it → (ChangeMaps.setBlock w1 it (.mapIter (some bm) since (seen.push e.born) clock)).heap[b]? = wr.heap[b]? := fun b hne => by
      simp only [ChangeMaps.setBlock, hh]; simp [Ne.symm hne]
    have hit : (ChangeMaps.setBlock w1 it (.mapIter (some bm) since (seen.push e.born) clock)).heap[it]? = some (.mapIter (some bm) since (seen.push e.born) clock) := by
      simp only [ChangeMaps.setBlock, hh]; simp [hlt]
    have hsz : (ChangeMaps.setBlock w1 it (.mapIter (some bm) since (seen.push e.born) clock)).heap.size = wr.heap.size := by simp [ChangeMaps.setBlock, hh]
    have hbm : bm ≠ it := by rintro rfl; rw [hr] at hb; cases hb
    refine .inr ⟨e, he, _, hit, ⟨?_, ?_, ?_, by rw [hsz]; exact Nat.le_refl _, fun k _ hk => hset k hk⟩, hsz, (hset _ hbm).trans hb, fun ty => hrun, ?_⟩
    · rcases hw1 with rfl | rfl <;> rfl
    · rcases hw1 with rfl | rfl <;> rfl
    · rcases hw1 with rfl | rfl <;> rfl
    · exact run_entry_at _ _ _ _ _ _ _ e hit (by rw [hset _ hbm]; exact hb) (mem_left he).1 hn

def KsAt (W : World) (bt : Nat) (K : Int → Prop) : Prop :=
  ∃ es clock, W.heap[bt]? = some (.map es clock) ∧ MapKept.Stamped es clock ∧ (∀ e ∈ es.toList, ∃ i, (IntKind.i64.min ≤ i ∧ i ≤ IntKind.i64.max) ∧ e.key = .int .i64 i ∧ e.val = .bool true) ∧ ∀ i, (∃ e ∈ es.toList, e.key = .int .i64 i) ↔ K i

theorem KsAt.same {W W' : World} {bt : Nat} {K : Int → Prop} (h : KsAt W bt K) (hs : W'.heap[bt]? = W.heap[bt]?) : KsAt W' bt K := by
  obtain ⟨es, clock, h1, h2⟩ := h; exact ⟨es, clock, hs.trans h1, h2⟩

theorem KsAt.weak {W : World} {bt : Nat} {K K' : Int → Prop} (h : KsAt W bt K) (hk : ∀ i, K i ↔ K' i) : KsAt W bt K' := by
  obtain ⟨es, clock, h1, h2, h3, h4⟩ := h; exact ⟨es, clock, h1, h2, h3, fun i => (h4 i).trans (hk i)⟩

def keysOf (es : List MapEntry) : List (Int × Bool) := es.map fun e => (match e.key with | .int _ i => i | _ => 0, true)
theorem keys_rep {w : World} {p : PF} : ∀ (es : List MapEntry), (∀ e ∈ es, ∃ i, (IntKind.i64.min ≤ i ∧ i ≤ IntKind.i64.max) ∧ e.key = .int .i64 i ∧ e.val = .bool true) →
    All2 (fun (e : MapEntry) (kv : Int × Bool) => FRep tI [e.key] kv.1 ∧ Rep p w .bool [e.val] kv.2) es (keysOf es)
  | [], _ => .nil
  | e :: es, h => by
    obtain ⟨i, hi, h1, h2⟩ := h e (by simp)
    refine .cons ⟨?_, ?_⟩ (keys_rep es fun e he => h e (by simp [he]))
    · obtain ⟨ky, vl, br⟩ := e; simp only at h1
      subst h1; exact ⟨rfl, hi⟩
    · rw [h2]; rfl

theorem u148 : Try.prog.underlying 148 = some (.map 3 4) := Try.underlying148
theorem u3 : Try.prog.underlying 3 = some (.int .i64) := Try.underlying3

theorem KsAt.put {W : World} {bt : Nat} {K : Int → Prop} (h : KsAt W bt K) {i : Int} (hi : IntKind.i64.min ≤ i ∧ i ≤ IntKind.i64.max) :
    ∃ W', (Instr.mapUpdate 148 (.map (some bt)) (.int .i64 i) (.bool true)).run Try.prog W = .ok () W' ∧ Alike' (fun b => b = bt) W W' ∧ W'.heap.size = W.heap.size ∧ KsAt W' bt (fun j => K j ∨ j = i) := by
  obtain ⟨es, clock, h1, h2, h3, h4⟩ := h; have hK : KeyTy tI (.int .i64) := .inl ⟨_, rfl, rfl⟩
  have hkf : FRep tI [Value.int .i64 i] i := ⟨rfl, hi⟩
  have hlt := (Array.getElem?_eq_some_iff.1 h1).1
  rcases find_rep (w := W) (p := ⟨fun _ _ => False, fun _ _ _ => False⟩) (V := .bool) hK hkf es.toList _ 0 (keys_rep es.toList h3) with ⟨g1, g2, g3, _, g9⟩ | ⟨n, e, v, g1, g2, g3, g4, g5, g6, g7, _⟩
  · refine ⟨{ W with heap := W.heap.setIfInBounds bt (.map (es.push { key := .int .i64 i, val := .bool true, born := clock }) (clock + 1)) }, ?_, setMap_like, by simp, _, _, (MapKept.heap_set h1).1, MapKept.stamped_push h2 g9, ?_, ?_⟩
    · simp [Instr.mapUpdate, run_underlying u148, MapKept.run_getObj_map h1, MapKept.run_checkKey u3 (hK.isKey hkf), MapKept.run_findKey u3 g2, MapKept.run_setObj_map _ h1, Result.andThen]
    · intro e he; rw [Array.toList_push] at he; rcases List.mem_append.1 he with he | he
      · exact h3 e he
      · simp only [List.mem_singleton] at he; subst he; exact ⟨i, hi, rfl, rfl⟩
    · intro j; show _ ↔ K j ∨ j = i
      rw [← h4 j, Array.toList_push]; constructor
      · rintro ⟨e, he, hk⟩
        rcases List.mem_append.1 he with he | he
        · exact .inl ⟨e, he, hk⟩
        · simp only [List.mem_singleton] at he; subst he; simp only [Value.int.injEq, true_and] at hk; exact .inr hk.symm
      · rintro (⟨e, he, hk⟩ | rfl)
        · exact ⟨e, List.mem_append.2 (.inl he), hk⟩
        · exact ⟨_, List.mem_append.2 (.inr (List.mem_singleton.2 rfl)), rfl⟩
  · have hj : es[n]? = some e := by simpa using g3
    have heq : es.modify n (fun e => { e with key := .int .i64 i, val := .bool true }) = es := by
      obtain ⟨j, _, k1, k2⟩ := h3 e (List.mem_of_getElem? (by simpa using g3))
      apply Array.ext'
      apply List.ext_getElem?
      intro m; rw [Array.getElem?_toList, Array.getElem?_modify]; by_cases hm : n = m
      · subst hm; rw [if_pos rfl, Array.getElem?_toList, hj]; obtain ⟨ky, vl, br⟩ := e; simp only at g5 k2
        subst g5; subst k2; rfl
      · rw [if_neg hm, Array.getElem?_toList]
    refine ⟨{ W with heap := W.heap.setIfInBounds bt (.map es clock) }, ?_, setMap_like, by simp, _, _, (MapKept.heap_set h1).1, h2, h3, fun j => ?_⟩
    · have hrun : (Instr.mapUpdate 148 (.map (some bt)) (.int .i64 i) (.bool true)).run Try.prog W = .ok () { W with heap := W.heap.setIfInBounds bt (.map (es.modify n (fun e => { e with key := .int .i64 i, val := .bool true })) clock) } := by
        simp [Instr.mapUpdate, run_underlying u148, MapKept.run_getObj_map h1, MapKept.run_checkKey u3 (hK.isKey hkf), MapKept.run_findKey u3 g2, hj, g5, MapKept.run_keyThatStays (hK.isKey hkf), MapKept.run_setObj_map _ h1, Result.andThen]
      rw [heq] at hrun; exact hrun
    · show _ ↔ K j ∨ j = i
      rw [← h4 j]; refine ⟨.inl, ?_⟩
      rintro (h | rfl)
      · exact h
      · exact ⟨e, List.mem_of_getElem? (by simpa using g3), g5⟩

theorem KsAt.get {W : World} {bt : Nat} {K : Int → Prop} (h : KsAt W bt K) {i : Int} (hi : IntKind.i64.min ≤ i ∧ i ≤ IntKind.i64.max) :
    ∃ b : Bool, (Instr.lookup 148 (.map (some bt)) (.int .i64 i) false).run Try.prog W = .ok (.bool b) W ∧ (b = true ↔ K i) := by
  obtain ⟨es, clock, h1, h2, h3, h4⟩ := h; have hK : KeyTy tI (.int .i64) := .inl ⟨_, rfl, rfl⟩
  have hkf : FRep tI [Value.int .i64 i] i := ⟨rfl, hi⟩
  rcases find_rep (w := W) (p := ⟨fun _ _ => False, fun _ _ _ => False⟩) (V := .bool) hK hkf es.toList _ 0 (keys_rep es.toList h3) with ⟨g1, g2, g3, _, g9⟩ | ⟨n, e, v, g1, g2, g3, g4, g5, g6, g7, _⟩
  · refine ⟨false, ?_, ⟨fun h => (by cases h), fun hk => ?_⟩⟩
    · simp [Instr.lookup, run_underlying u148, MapKept.run_getObj_map h1, MapKept.run_checkKey u3 (hK.isKey hkf), MapKept.run_findKey u3 g2, Result.andThen, go_sem]
    · obtain ⟨e, he, hk⟩ := (h4 i).2 hk
      exact absurd hk (g9 e he)
  · refine ⟨true, ?_, ⟨fun _ => (h4 i).1 ⟨e, List.mem_of_getElem? g3, g5⟩, fun _ => rfl⟩⟩
    obtain ⟨j, _, k1, k2⟩ := h3 e (List.mem_of_getElem? g3)
    simp [Instr.lookup, run_underlying u148, MapKept.run_getObj_map h1, MapKept.run_checkKey u3 (hK.isKey hkf), MapKept.run_findKey u3 g2, Result.andThen, k2]

set_option maxHeartbeats 4000000 in
set_option maxRecDepth 1000000 in
theorem k89 (W : World) (v : Value) (cv bt : Nat) (i : Int) (K : Int → Prop) (hi : IntKind.i64.min ≤ i ∧ i ≤ IntKind.i64.max) (hc : W.cell? ⟨cv, 0, none⟩ = some (.map (some bt))) (hk : KsAt W bt K) :
    Calls Try.prog 89 #[.int .i64 i, v, .pointer (some ⟨cv, 0, none⟩)] W fun e w' => (∃ b, e = .returned (.bool b) ∧ (b = true ↔ ¬ K i)) ∧ w' = W := by
  obtain ⟨b, hb, hbk⟩ := hk.get hi; have a148 := Try.isAgg148; have z148 := Try.sizeOf148; have v148 := Try.zeroValue148; have t148 := Try.underlying148
  go_enter Try.func89, Try.ntmps89
  go_wp2
  go_ret
  refine ⟨⟨!b, rfl, ?_⟩, rfl⟩
  rw [← hbk]; cases b <;> simp

theorem eraseIdx_filter {τ : Type} (q : τ → Bool) : ∀ (l : List τ) (n : Nat), (∀ m x, l[m]? = some x → (q x = false ↔ m = n)) → l.eraseIdx n = l.filter q
  | [], _, _ => rfl
  | x :: l, 0, h => by
    have h0 : q x = false := (h 0 x rfl).2 rfl
    rw [List.filter_cons_of_neg (by simp [h0]), List.eraseIdx_cons_zero]
    refine (List.filter_eq_self.2 fun y hy => ?_).symm
    obtain ⟨m, hm⟩ := List.getElem?_of_mem hy
    cases hq : q y with
    | true => rfl
    | false => have := (h (m + 1) y (by simpa using hm)).1 hq; omega
  | x :: l, n + 1, h => by
    have h0 : q x = true := by
      cases hq : q x with
      | true => rfl
      | false => have := (h 0 x rfl).1 hq; omega
    rw [List.filter_cons_of_pos h0, List.eraseIdx_cons_succ, eraseIdx_filter q l n fun m y hm => by
      have := h (m + 1) y (by simpa using hm)
      rw [this]; omega]

def keyI (e : MapEntry) : Int := match e.key with | .int _ i => i | _ => 0
def IntKeys (es : List MapEntry) : Prop := ∀ e ∈ es, ∃ i, (IntKind.i64.min ≤ i ∧ i ≤ IntKind.i64.max) ∧ e.key = .int .i64 i
theorem IntKeys.key {es : List MapEntry} (h : IntKeys es) {e : MapEntry} (he : e ∈ es) : e.key = .int .i64 (keyI e) ∧ IntKind.i64.min ≤ keyI e ∧ keyI e ≤ IntKind.i64.max := by
  obtain ⟨i, hi, h1⟩ := h e he; unfold keyI; rw [h1]; exact ⟨rfl, hi⟩

theorem u100 : Try.prog.underlying 100 = some (.map 3 107) := Try.underlying100

theorem del_run {W : World} {bm : Nat} {es : Array MapEntry} {clock : Nat} (hb : W.heap[bm]? = some (.map es clock)) (hst : MapKept.Stamped es clock) (hks : IntKeys es.toList) {i : Int} (hi : IntKind.i64.min ≤ i ∧ i ≤ IntKind.i64.max) :
    ∃ es' : Array MapEntry, (∀ ty, (Builtin.delete_ #[100, 3] ty #[.map (some bm), .int .i64 i]).run Try.prog W = .ok (.tuple #[]) { W with heap := W.heap.setIfInBounds bm (.map es' clock) }) ∧ es'.toList = es.toList.filter (fun e => keyI e != i) ∧ MapKept.Stamped es' clock := by
  have hK : KeyTy tI (.int .i64) := .inl ⟨_, rfl, rfl⟩
  have hkf : FRep tI [Value.int .i64 i] i := ⟨rfl, hi⟩
  have hk := hK.isKey hkf
  rcases MapKept.findNow_spec hk es.toList 0 (fun x hx => by obtain ⟨j, hj, e⟩ := hks x hx; rw [e]; rfl) with ⟨h1, h2⟩ | ⟨n, e, h1, h2, h3⟩
  · refine ⟨es, fun ty => ?_, ?_, hst⟩
    · simp [Builtin.delete_, run_underlying u100, MapKept.run_getObj_map hb, MapKept.run_checkKey u3 hk, MapKept.run_findKey u3 h1, MapKept.run_setObj_map _ hb, Result.andThen]
    · refine (List.filter_eq_self.2 fun y hy => ?_).symm
      have := h2 y hy
      rw [(hks.key hy).1] at this; simp only [ne_eq, Value.int.injEq, true_and] at this; simpa using this
  · have hjl : n < es.size := by rw [← Array.length_toList]; exact (List.getElem?_eq_some_iff.1 h2).1
    refine ⟨es.eraseIdxIfInBounds n, fun ty => ?_, ?_, MapKept.stamped_erase hst n⟩
    · simp [Builtin.delete_, run_underlying u100, MapKept.run_getObj_map hb, MapKept.run_checkKey u3 hk, MapKept.run_findKey u3 h1, MapKept.run_setObj_map _ hb, Result.andThen]
    · have her : (es.eraseIdxIfInBounds n).toList = es.toList.eraseIdx n := by
        unfold Array.eraseIdxIfInBounds; rw [dif_pos hjl]; simp
      rw [her]; refine eraseIdx_filter _ _ _ fun m x hm => ?_
      have hx := (hks.key (List.mem_of_getElem? hm)).1
      have he := (hks.key (List.mem_of_getElem? h2)).1
      rw [h3] at he; simp only [Value.int.injEq, true_and] at he; constructor
      · intro hq; have hq' : keyI x = i := by simpa using hq
        rcases Nat.lt_trichotomy m n with hlt | rfl | hgt
        · obtain ⟨a1, a2⟩ := List.getElem?_eq_some_iff.1 hm
          obtain ⟨b1, b2⟩ := List.getElem?_eq_some_iff.1 h2
          have := List.pairwise_iff_getElem.1 ((MapKept.stamped_iff es clock).1 hst).2.2 m n a1 b1 hlt
          rw [a2, b2, hx, h3, hq'] at this; exact absurd rfl this
        · rfl
        · obtain ⟨a1, a2⟩ := List.getElem?_eq_some_iff.1 hm
          obtain ⟨b1, b2⟩ := List.getElem?_eq_some_iff.1 h2
          have := List.pairwise_iff_getElem.1 ((MapKept.stamped_iff es clock).1 hst).2.2 n m b1 a1 hgt
          rw [a2, b2, hx, h3, hq'] at this; exact absurd rfl this
      · rintro rfl
        rw [h2] at hm; simp only [oi] at hm; subst hm; simp [← he]

theorem born_inj {es : Array MapEntry} {clock : Nat} (h : MapKept.Stamped es clock) {x y : MapEntry} (hx : x ∈ es.toList) (hy : y ∈ es.toList) (hb : x.born = y.born) : x = y := by
  obtain ⟨i, hi⟩ := List.getElem?_of_mem hx
  obtain ⟨j, hj⟩ := List.getElem?_of_mem hy
  have hi' : (es.toList.map (·.born))[i]? = some x.born := by rw [List.getElem?_map, hi]; rfl
  have hj' : (es.toList.map (·.born))[j]? = some y.born := by rw [List.getElem?_map, hj]; rfl
  have hij : i = j := by
    have hil := (List.getElem?_eq_some_iff.1 hi').1
    exact (List.getElem?_inj hil h.2.1).1 (by rw [hi', hj', hb])
  subst hij; rw [hi] at hj; exact Option.some.inj hj

theorem key_inj {es : Array MapEntry} {clock : Nat} (h : MapKept.Stamped es clock) {x y : MapEntry} (hx : x ∈ es.toList) (hy : y ∈ es.toList) (hb : x.key = y.key) : x = y := by
  obtain ⟨i, hi⟩ := List.getElem?_of_mem hx
  obtain ⟨j, hj⟩ := List.getElem?_of_mem hy
  have hp := ((MapKept.stamped_iff es clock).1 h).2.2
  obtain ⟨a1, a2⟩ := List.getElem?_eq_some_iff.1 hi
  obtain ⟨b1, b2⟩ := List.getElem?_eq_some_iff.1 hj
  rcases Nat.lt_trichotomy i j with hlt | rfl | hgt
  · have := List.pairwise_iff_getElem.1 hp i j a1 b1 hlt
    rw [a2, b2] at this; exact absurd hb this
  · rw [hi] at hj; exact Option.some.inj hj
  · have := List.pairwise_iff_getElem.1 hp j i b1 a1 hgt
    rw [a2, b2] at this; exact absurd hb.symm this

def leftQ (q : Int → Bool) (seen : Array Nat) (e : MapEntry) : Bool := !seen.contains e.born || q (keyI e)

set_option maxHeartbeats 4000000 in
set_option maxRecDepth 1000000 in
theorem k88 (W : World) (bm cv bt : Nat) (es : Array MapEntry) (clock : Nat) (q : Int → Bool) (hb : W.heap[bm]? = some (.map es clock)) (hst : MapKept.Stamped es clock) (hne : bm ≠ cv) (hne2 : bm ≠ bt) (hc : W.cell? ⟨cv, 0, none⟩ = some (.map (some bt))) (hk : KsAt W bt (fun i => q i = true))
    (he : IntKeys es.toList) : 
    Calls Try.prog 88 #[.map (some bm), .func (.func 89) #[] #[.pointer (some ⟨cv, 0, none⟩)]] W fun e w' => e = .returned (.tuple #[]) ∧ Alike' (fun b => b = bm) W w' ∧
      ∃ es' : Array MapEntry, w'.heap[bm]? = some (.map es' clock) ∧ es'.toList = es.toList.filter (fun e => q (keyI e)) ∧ MapKept.Stamped es' clock := by
  have hrg := run_range_map (P := Try.prog) W 100 3 107 bm es clock Try.underlying100 hb
  have hbl := (Array.getElem?_eq_some_iff.1 hb).1
  go_enter Try.func88, Try.ntmps88
  go_wp2
  go_loopw [] (fun w' => ∃ (seen : Array Nat) (es' : Array MapEntry) (c0 : Nat), w'.heap[W.heap.size]? = some (.mapIter (some bm) clock seen c0) ∧ clock ≤ c0 ∧ w'.heap[bm]? = some (.map es' clock) ∧ MapKept.Stamped es' clock ∧ es'.toList = es.toList.filter (leftQ q seen) ∧ Alike' (fun b => b = bm) W w') (fun w' => (leftOf es (w'.iterSeen W.heap.size)).size)
  case atStart =>
    refine ⟨#[], es, clock, heap_alloc_new W _, Nat.le_refl _, ?_, hst, ?_, Alike'.weak (Alike'.of ((Below.refl _ W).alloc (Nat.le_refl _) _)) (fun _ _ h => h.elim)⟩
    · rw [← hb]; exact Below.heap_alloc W _ _ hbl
    · exact (List.filter_eq_self.2 fun y hy => by simp [leftQ]).symm
  case round =>
    obtain ⟨seen, es', c0, hit, hc0, hbm, hst', hes', hal⟩ := hrel; have hold : ∀ x ∈ es'.toList, x.born < clock := fun x hx => by
      rw [hes'] at hx; exact hst.1 x (List.mem_filter.1 hx).1
    rcases iter_next (P := Try.prog) hit hbm hold hst'.2.1 hc0 with ⟨h0, hnx⟩ | ⟨e, hel, wn, hitn, haln, hszn, hbmn, hnx, hen⟩
    · go_wp2
      go_end0
      refine ⟨rfl, hal, es', hbm, ?_, hst'⟩
      rw [hes']; have hall := all_seen es' seen h0
      apply List.filter_congr
      intro x hx; cases hq : q (keyI x) with
      | true => simp [leftQ, hq]
      | false =>
        cases hs : seen.contains x.born with
        | true => simp [leftQ, hq]; simpa using hs
        | false =>
          have : x ∈ es'.toList := by
            rw [hes']; refine List.mem_filter.2 ⟨hx, ?_⟩
            simp only [leftQ, hs, Bool.not_false, Bool.true_or]
          rw [hall x this] at hs; cases hs
    · have hmem := (mem_left hel).1
      rw [hes'] at hmem; have hmem0 := (List.mem_filter.1 hmem).1
      obtain ⟨hkey, hki⟩ := he.key hmem0; rw [hkey] at hnx hen; have hal2 : Alike' (fun b => b = bm) W wn := (hal.trans haln).weak (fun x hx h => by
        rcases h with h | rfl
        · exact h
        · omega)
      have hcw : wn.cell? ⟨cv, 0, none⟩ = some (.map (some bt)) := by
        have hlt : cv < W.heap.size := by
          rcases Nat.lt_or_ge cv W.heap.size with h' | h'
          · exact h'
          · simp [World.cell?, Array.getElem?_eq_none h'] at hc
        rw [World.cell?_of_block (w := W) (hal2.block cv hlt (Ne.symm hne)), hc]
      have hkw : KsAt wn bt (fun i => q i = true) := by
        have hlt : bt < W.heap.size := by
          obtain ⟨e1, c1, h1, _⟩ := hk; exact (Array.getElem?_eq_some_iff.1 h1).1
        exact hk.same (hal2.block bt hlt (Ne.symm hne2))
      have hseen : seen.contains e.born = false := (mem_left hel).2
      have hnd := hst.2.1
      have hit2 : wn.iterSeen W.heap.size = seen.push e.born := by unfold World.iterSeen; rw [hitn]
      have hit1 : wr.iterSeen W.heap.size = seen := by unfold World.iterSeen; rw [hit]
      have hmeas : (leftOf es (seen.push e.born)).size < (leftOf es seen).size := by
        refine left_shrinks es seen e ?_
        unfold leftOf; rw [Array.mem_toList_iff, Array.mem_filter]; exact ⟨Array.mem_toList_iff.1 hmem0, by rw [hseen]; rfl⟩
      cases hq : q (keyI e) with
      | true =>
        go_wp2_with (first | (go_at_call 89; refine (k89 wn _ cv bt _ _ hki hcw hkw).mono ?_; rintro e2 w2 ⟨⟨b, rfl, hbq⟩, rfl⟩; have hb2 : b = false := (by cases b with | false => rfl | true => exact absurd hq (hbq.1 rfl)); subst hb2; clear hbq))
        go_roundw
        case rel =>
          refine ⟨seen.push e.born, es', clock, hitn, Nat.le_refl _, hbmn, hst', ?_, hal2⟩
          rw [hes']; apply List.filter_congr
          intro x hx; unfold leftQ; rw [contains_push]; cases hxe : x.born == e.born with
          | false => simp
          | true =>
            have : x = e := born_inj hst hx hmem0 (beq_iff_eq.1 hxe)
            subst this; simp [hq]
        case measure => rw [hit1, hit2]; exact hmeas
      | false =>
        have hik : IntKeys es'.toList := fun x hx => he x (by rw [hes'] at hx; exact (List.mem_filter.1 hx).1)
        obtain ⟨es2, hdr, hes2, hst2⟩ := del_run hbmn hst' hik hki
        go_wp2_with (first | (go_at_call 89; refine (k89 wn _ cv bt _ _ hki hcw hkw).mono ?_; rintro e2 w2 ⟨⟨b, rfl, hbq⟩, rfl⟩; have hb2 : b = true := (hbq.2 (by rw [hq]; exact Bool.false_ne_true)); subst hb2; clear hbq))
        have hitn' : ({ w2 with heap := w2.heap.setIfInBounds bm (.map es2 clock) } : World).heap[W.heap.size]? = some (.mapIter (some bm) clock (seen.push e.born) clock) := by
          rw [← hitn]; exact (MapKept.heap_set hbmn).2 _ (by omega)
        go_roundw
        case rel =>
          refine ⟨seen.push e.born, es2, clock, hitn', Nat.le_refl _, (MapKept.heap_set hbmn).1, hst2, ?_, (hal2.trans (setMap_like (es := es2) (clock := clock))).weak (fun x hx h => h.elim id id)⟩
          rw [hes2, hes', List.filter_filter]; apply List.filter_congr
          intro x hx; unfold leftQ; rw [contains_push]; cases hxe : x.born == e.born with
          | false =>
            have hne' : keyI x ≠ keyI e := by
              intro hk2; have h3 := (he.key hx).1
              have h4 := (he.key hmem0).1
              rw [hk2, ← h4] at h3; have := key_inj hst hx hmem0 h3
              rw [this] at hxe; simp at hxe
            simp [hne']
          | true =>
            have : x = e := born_inj hst hx hmem0 (beq_iff_eq.1 hxe)
            subst this; simp [hq]
        case measure =>
          rw [hit1]; unfold World.iterSeen; rw [hitn']; exact hmeas
end Go.Proofs.Ytmglkddddpipgaa

namespace Go.Proofs.Ytmglkddddpipgaa
open Sx Go.RowKit Go.Lib

theorem run_makeMap (w : World) : (Instr.makeMap 148 none).run Try.prog w = .ok (.map (some w.heap.size)) (w.alloc (.map #[] 0)) := by
  simp [Instr.makeMap, Result.andThen, Sem.run_bind]

structure Fg (w W : World) (bl : Nat) (K : Int → Prop) : Prop where
  bel : Below w.heap.size w W
  cv : W.cell? ⟨w.heap.size + 1, 0, none⟩ = some (.map (some w.heap.size))
  ks : KsAt W w.heap.size K
  sz : bl ≤ W.heap.size

theorem Fg.start (w : World) : Fg w ((w.alloc (Obj.map #[] 0)).alloc (Obj.cells #[Value.map (some w.heap.size)] 148)).drew (w.heap.size + 2) (fun _ => False) := by
  refine ⟨(((Below.refl _ w).alloc (Nat.le_refl _) _).alloc (by simp) _).drew, ?_, ⟨#[], 0, ?_, MapKept.stamped_empty 0, by simp, by simp⟩, by simp⟩
  · show ((w.alloc (Obj.map #[] 0)).alloc (Obj.cells #[Value.map (some w.heap.size)] 148)).cell? _ = _
    have : ((w.alloc (Obj.map #[] 0)).alloc (Obj.cells #[Value.map (some w.heap.size)] 148)).heap[w.heap.size + 1]? = some (Obj.cells #[Value.map (some w.heap.size)] 148) := by
      have := heap_alloc_new (w.alloc (Obj.map #[] 0)) (Obj.cells #[Value.map (some w.heap.size)] 148)
      simpa using this
    unfold World.cell?
    rw [this]; rfl
  · show ((w.alloc (Obj.map #[] 0)).alloc (Obj.cells #[Value.map (some w.heap.size)] 148)).heap[w.heap.size]? = _
    rw [Below.heap_alloc _ _ _ (by simp)]; exact heap_alloc_new w _

theorem Fg.alloc {w W : World} {n : Nat} {K : Int → Prop} (h : Fg w W n K) (hn : w.heap.size + 2 ≤ n) (o : Obj) : Fg w (W.alloc o) (n + 1) K := by
  have hb := (Below.refl _ W).alloc (Nat.le_refl _) o
  refine ⟨h.bel.alloc h.bel.size o, cell_below hb h.cv, h.ks.same (hb.block _ ?_), by simpa using h.sz⟩
  have := h.sz
  omega

theorem Fg.weak {w W : World} {n n' : Nat} {K K' : Int → Prop} (h : Fg w W n K) (hn : n' ≤ n) (hk : ∀ i, K i ↔ K' i) : Fg w W n' K' := ⟨h.bel, h.cv, h.ks.weak hk, Nat.le_trans hn h.sz⟩

def KK (eK : Nat → Array MapEntry) (k : Nat) (i : Int) : Prop := ∃ m, m < k ∧ ∃ e ∈ (eK m).toList, e.val = .int .i64 i
theorem KK_zero (eK : Nat → Array MapEntry) (i : Int) : False ↔ KK eK 0 i := ⟨fun h => h.elim, fun ⟨m, h, _⟩ => by omega⟩

theorem Fg.alloc' {w W : World} {n : Nat} {K : Int → Prop} (h : Fg w W n K) (o : Obj) : Fg w (W.alloc o) (W.heap.size + 1) K := by
  have hb := (Below.refl _ W).alloc (Nat.le_refl _) o
  refine ⟨h.bel.alloc h.bel.size o, cell_below hb h.cv, h.ks.same (hb.block _ ?_), by simp⟩
  obtain ⟨_, _, h1, _⟩ := h.ks; exact (Array.getElem?_eq_some_iff.1 h1).1

def Vals (es : Array MapEntry) (seen : Array Nat) (i : Int) : Prop := ∃ e ∈ es.toList, seen.contains e.born = true ∧ e.val = .int .i64 i
theorem Vals_none (es : Array MapEntry) (K : Int → Prop) (i : Int) : K i ↔ (K i ∨ Vals es #[] i) := ⟨.inl, fun h => h.elim id fun ⟨e, _, h, _⟩ => by simp at h⟩
theorem Vals_push {es : Array MapEntry} {clock : Nat} (hs : MapKept.Stamped es clock) {seen : Array Nat} {e : MapEntry} (he : e ∈ es.toList) {j : Int} (hv : e.val = .int .i64 j) (K : Int → Prop) (i : Int) : ((K i ∨ Vals es seen i) ∨ i = j) ↔ (K i ∨ Vals es (seen.push e.born) i) := by
  constructor
  · rintro ((h | ⟨x, h1, h2, h3⟩) | rfl)
    · exact .inl h
    · exact .inr ⟨x, h1, by rw [contains_push, h2]; rfl, h3⟩
    · exact .inr ⟨e, he, by rw [contains_push]; simp, hv⟩
  · rintro (h | ⟨x, h1, h2, h3⟩)
    · exact .inl (.inl h)
    · rw [contains_push] at h2; cases hq : x.born == e.born with
      | true =>
        have := born_inj hs h1 he (beq_iff_eq.1 hq)
        subst this; rw [hv] at h3; simp only [Value.int.injEq, true_and] at h3; exact .inr h3.symm
      | false =>
        rw [hq, Bool.or_false] at h2; exact .inl (.inr ⟨x, h1, h2, h3⟩)
theorem Vals_all {eK : Nat → Array MapEntry} {k : Nat} {seen : Array Nat} (h : ∀ x ∈ (eK k).toList, seen.contains x.born = true) (i : Int) : (KK eK k i ∨ Vals (eK k) seen i) ↔ KK eK (k + 1) i := by
  constructor
  · rintro (⟨m, h1, h2⟩ | ⟨e, h1, _, h2⟩)
    · exact ⟨m, by omega, h2⟩
    · exact ⟨k, by omega, e, h1, h2⟩
  · rintro ⟨m, h1, e, h2, h3⟩
    rcases Nat.lt_or_ge m k with hl | hg
    · exact .inl ⟨m, hl, e, h2, h3⟩
    · have : m = k := by omega
      subst this; exact .inr ⟨e, h2, h e h2, h3⟩

theorem Fg.iter {w W W' : World} {n it : Nat} {K : Int → Prop} (h : Fg w W n K) (ha : Alike' (fun b => b = it) W W') (hit : w.heap.size + 2 ≤ it) : Fg w W' n K := by
  have hc : W.cell? ⟨w.heap.size + 1, 0, none⟩ = some (.map (some w.heap.size)) := h.cv
  refine ⟨h.bel.trans ⟨ha.os, ha.tape, ha.output, ha.size, fun b hb => ha.block b (Nat.lt_of_lt_of_le hb h.bel.size) (by omega)⟩, ?_, h.ks.same (ha.block _ ?_ (by omega)), Nat.le_trans h.sz ha.size⟩
  · rw [← hc]; refine World.cell?_of_block (ha.block _ ?_ (by show w.heap.size + 1 ≠ it; omega))
    rcases Nat.lt_or_ge (w.heap.size + 1) W.heap.size with h' | h'
    · exact h'
    · simp [World.cell?, Array.getElem?_eq_none h'] at hc
  · obtain ⟨_, _, h1, _⟩ := h.ks; exact (Array.getElem?_eq_some_iff.1 h1).1

theorem Fg.put {w W W' : World} {n : Nat} {K K' : Int → Prop} (h : Fg w W n K) (ha : Alike' (fun b => b = w.heap.size) W W') (hk : KsAt W' w.heap.size K') : Fg w W' n K' := by
  have hc : W.cell? ⟨w.heap.size + 1, 0, none⟩ = some (.map (some w.heap.size)) := h.cv
  refine ⟨h.bel.trans ⟨ha.os, ha.tape, ha.output, ha.size, fun b hb => ha.block b (Nat.lt_of_lt_of_le hb h.bel.size) (by omega)⟩, ?_, hk, Nat.le_trans h.sz ha.size⟩
  rw [← hc]; refine World.cell?_of_block (ha.block _ ?_ (by show w.heap.size + 1 ≠ _; omega))
  rcases Nat.lt_or_ge (w.heap.size + 1) W.heap.size with h' | h'
  · exact h'
  · simp [World.cell?, Array.getElem?_eq_none h'] at hc

def KT (ts : List (ByteArray × ByteArray × Int)) (k : Nat) (i : Int) : Prop := ∃ m t, m < k ∧ ts[m]? = some t ∧ t.2.1.toList.isEmpty = false ∧ t.2.2 = i
theorem KT_not {K : Int → Prop} {ts : List (ByteArray × ByteArray × Int)} {k : Nat} {t : ByteArray × ByteArray × Int} (h : t.2.1.toList.isEmpty = true) (hk : ts[k]? = some t) (i : Int) : (K i ∨ KT ts k i) ↔ (K i ∨ KT ts (k + 1) i) := by
  refine or_congr Iff.rfl ⟨fun ⟨m, t, h1, h2⟩ => ⟨m, t, by omega, h2⟩, fun ⟨m, t', h1, h2, h3⟩ => ?_⟩
  rcases Nat.lt_or_ge m k with hl | hg
  · exact ⟨m, t', hl, h2, h3⟩
  · have : m = k := by omega
    subst this; rw [hk] at h2; simp only [oi] at h2; subst h2; rw [h] at h3; cases h3.1
theorem KT_put {K : Int → Prop} {ts : List (ByteArray × ByteArray × Int)} {k : Nat} {t : ByteArray × ByteArray × Int} (h : t.2.1.toList.isEmpty = false) (hk : ts[k]? = some t) (i : Int) : ((K i ∨ KT ts k i) ∨ i = t.2.2) ↔ (K i ∨ KT ts (k + 1) i) := by
  constructor
  · rintro ((h1 | ⟨m, t, h1, h2⟩) | rfl)
    · exact .inl h1
    · exact .inr ⟨m, t, by omega, h2⟩
    · exact .inr ⟨k, t, by omega, hk, h, rfl⟩
  · rintro (h1 | ⟨m, t', h1, h2, h3⟩)
    · exact .inl (.inl h1)
    · rcases Nat.lt_or_ge m k with hl | hg
      · exact .inl (.inr ⟨m, t', hl, h2, h3⟩)
      · have : m = k := by omega
        subst this; rw [hk] at h2; simp only [oi] at h2; subst h2; exact .inr h3.2.symm
theorem wrap_succ {n k : Nat} (h : n ≤ BIG) (hk : k < n) : RowKit.wrap64 ((k : Int) + 1) = ((k + 1 : Nat) : Int) := by
  unfold RowKit.wrap64; unfold BIG at h; omega
theorem KT_zero (K : Int → Prop) (ts : List (ByteArray × ByteArray × Int)) (i : Int) : K i ↔ (K i ∨ KT ts 0 i) := ⟨.inl, fun h => h.elim id fun ⟨m, t, h, _⟩ => by omega⟩

set_option maxHeartbeats 4000000 in
set_option maxRecDepth 1000000 in
theorem k52 (b0 bm : Nat) (bK : Nat → Nat) (eK : Nat → Array MapEntry) (cK : Nat → Nat) (w : World) (ad : Option Addr) (cap : Nat) (ts : List (ByteArray × ByteArray × Int))
  (hcap : ts.length ≤ BIG)
  (hts : ∀ m t, ts[m]? = some t → ∃ b off, ad = some ⟨b, off, none⟩ ∧ (IntKind.i64.min ≤ t.2.2 ∧ t.2.2 ≤ IntKind.i64.max) ∧ ∀ j v, [Value.string t.1, .string t.2.1, .int .i64 t.2.2][j]? = some v → w.cell? ⟨b, off + m * 3 + j, none⟩ = some v)
  (hm : ∀ k, k < 2 → w.heap[bK k]? = some (.map (eK k) (cK k)) ∧ MapKept.Stamped (eK k) (cK k) ∧ ∀ e ∈ (eK k).toList, ∃ i, (IntKind.i64.min ≤ i ∧ i ≤ IntKind.i64.max) ∧ e.val = .int .i64 i)
  (em : Array MapEntry) (cm : Nat) (q : Int → Bool) (hbm : w.heap[bm]? = some (.map em cm)) (hsm : MapKept.Stamped em cm) (him : IntKeys em.toList) (hq : ∀ i, (KK eK 2 i ∨ KT ts ts.length i) ↔ q i = true)
  (c1 : w.cell? ⟨b0, 1, none⟩ = some (.map (some bm)))
  (c2 : w.cell? ⟨b0, 2, none⟩ = some (.map (some (bK 0))))
  (c3 : w.cell? ⟨b0, 3, none⟩ = some (.map (some (bK 1))))
  (c4 : w.cell? ⟨b0, 4, none⟩ = some (.slice ad ts.length cap)) :
    Calls Try.prog 52 #[.pointer (some ⟨b0, 0, none⟩)] w fun e w' => e = .returned (.tuple #[]) ∧ Alike' (fun b => b = bm) w w' ∧ ∃ es' : Array MapEntry, w'.heap[bm]? = some (.map es' cm) ∧ es'.toList = em.toList.filter (fun e => q (keyI e)) ∧ MapKept.Stamped es' cm := by
  have hbml := (Array.getElem?_eq_some_iff.1 hbm).1
  have a101 := Try.isAgg101; have z101 := Try.sizeOf101; have v101 := Try.zeroValue101; have a148 := Try.isAgg148; have z148 := Try.sizeOf148; have v148 := Try.zeroValue148; have t101 := Try.underlying101; have t148 := Try.underlying148
  have hmk := run_makeMap
  have a115 := Try.isAgg115; have z115 := Try.sizeOf115; have v115 := Try.zeroValue115; have t115 := Try.underlying115; have a102 := Try.isAgg102; have z102 := Try.sizeOf102; have t102 := Try.underlying102
  have hmf : ∀ (W : World) (f : Fn) (x y : Array Value), (Instr.makeFunc f x y).run Try.prog W = .ok (.func f x y) W := fun _ _ _ _ => rfl
  have hst := Fg.start w
  have h2 := cell_below hst.bel c2
  have h3 := cell_below hst.bel c3
  have hst2 : Fg w (((w.alloc (Obj.map #[] 0)).alloc (Obj.cells #[Value.map (some w.heap.size)] 148)).alloc (Obj.cells #[Value.map (some (bK 0)), Value.map (some (bK 1))] 101)).drew (w.heap.size + 3) (fun _ => False) := hst.alloc (Nat.le_refl _) _
  have h22 := cell_below hst2.bel c2
  have h32 := cell_below hst2.bel c3
  go_enter Try.func52, Try.ntmps52
  go_wp2
  go_region_held3 (fun W => W.cell? ⟨b0, 2, none⟩ = some (.map (some (bK 0))) ∧ W.cell? ⟨b0, 3, none⟩ = some (.map (some (bK 1))) ∧ Below w.heap.size w W) (first | exact ⟨h2, h3, hst.bel⟩ | exact ⟨h22, h32, hst2.bel⟩) (fail)
  have hsl : (((w.alloc (Obj.map #[] 0)).alloc (Obj.cells #[Value.map (some w.heap.size)] 148)).alloc (Obj.cells #[Value.map (some (bK 0)), Value.map (some (bK 1))] 101)).drew.heap[w.heap.size + 1 + 1]? = some (Obj.cells #[Value.map (some (bK 0)), Value.map (some (bK 1))] 101) := by
    have := heap_alloc_new ((w.alloc (Obj.map #[] 0)).alloc (Obj.cells #[Value.map (some w.heap.size)] 148)) (Obj.cells #[Value.map (some (bK 0)), Value.map (some (bK 1))] 101)
    show _ = _
    have e : ((w.alloc (Obj.map #[] 0)).alloc (Obj.cells #[Value.map (some w.heap.size)] 148)).heap.size = w.heap.size + 1 + 1 := by simp
    rw [e] at this; exact this
  clear hst h2 h3 h22 h32 hmk; generalize (((w.alloc (Obj.map #[] 0)).alloc (Obj.cells #[Value.map (some w.heap.size)] 148)).alloc (Obj.cells #[Value.map (some (bK 0)), Value.map (some (bK 1))] 101)).drew = W0 at hst2 hsl
  go_wp2
  go_loopw [20] (fun s W => ∃ k : Nat, k ≤ 2 ∧ s = .int .i64 k ∧ Fg w W (w.heap.size + 3) (KK eK k) ∧ W.heap[w.heap.size + 1 + 1]? = some (Obj.cells #[Value.map (some (bK 0)), Value.map (some (bK 1))] 101)) (fun s _ => 2 - (RowKit.intOf s).toNat)
  case atStart => exact ⟨0, by omega, rfl, hst2.weak (Nat.le_refl _) (KK_zero eK), hsl⟩
  case round =>
    obtain ⟨k, hk, rfl, hfg, hcs⟩ := hrel; obtain ⟨W1, rfl⟩ : ∃ W1, W1 = wr := ⟨wr, rfl⟩
    have hbm0 : ∀ m, m < 2 → W1.heap[bK m]? = some (.map (eK m) (cK m)) := fun m hm2 => by
      obtain ⟨h1, _⟩ := hm m hm2; rw [hfg.bel.block _ (Array.getElem?_eq_some_iff.1 h1).1]; exact h1
    by_cases hk2 : k = 2
    · subst hk2; have c4' := cell_below hfg.bel c4
      clear hm hbm0
      go_wp2
      go_loopw [38] (fun s W => ∃ k : Nat, k ≤ ts.length ∧ s = .int .i64 k ∧ Fg w W (w.heap.size + 3) (fun i => KK eK 2 i ∨ KT ts k i)) (fun s _ => ts.length - (RowKit.intOf s).toNat)
      case atStart => exact ⟨0, by omega, rfl, hfg.weak (Nat.le_refl _) (KT_zero (KK eK 2) ts)⟩
      case round =>
        obtain ⟨k, hk, rfl, hft⟩ := hrel; have c1' := cell_below hft.bel c1
        by_cases hke : k = ts.length
        · subst hke
          go_wp2_with fail
          refine Calls.mono (k88 wr bm (w.heap.size + 1) w.heap.size em cm q ?_ hsm ?_ ?_ hft.cv (hft.ks.weak hq) him) ?_
          · rw [hft.bel.block _ hbml]; exact hbm
          · omega
          · omega
          · rintro e w2 ⟨rfl, hal, es', h1, h2, h3⟩
            go_wp2_with fail
            go_end0
            refine ⟨rfl, ⟨?_, ?_, ?_, ?_, fun b hb hx => ?_⟩, es', h1, h2, h3⟩
            · exact hal.os.trans hft.bel.os
            · exact hal.tape.trans hft.bel.tape
            · exact hal.output.trans hft.bel.output
            · exact Nat.le_trans hft.bel.size hal.size
            · exact (hal.block b (Nat.lt_of_lt_of_le hb hft.bel.size) hx).trans (hft.bel.block b hb)
        · have hkl : k < ts.length := by omega
          obtain ⟨b, off, rfl, hti, htc⟩ := hts k _ (List.getElem?_eq_getElem hkl)
          have htk := List.getElem?_eq_getElem hkl
          generalize ts[k] = t at hti htc htk
          have hx0 := cell_below hft.bel (htc 0 _ rfl)
          have hx1 := cell_below hft.bel (htc 1 _ rfl)
          have hx2 := cell_below hft.bel (htc 2 _ rfl)
          simp only [Nat.add_zero] at hx0; have hfa := hft.alloc' (.cells #[Value.string t.1, Value.string t.2.1, Value.int .i64 t.2.2] 115)
          have hcva := hfa.cv
          have hszt := hft.sz
          cases hemp : t.2.1.toList.isEmpty with
          | true =>
            go_wp2_with fail
            have hwr := wrap_succ hcap hkl
            generalize RowKit.wrap64 ((k : Int) + 1) = z at hwr ⊢
            subst hwr; go_roundw
            case rel =>
              exact ⟨k + 1, by omega, rfl, hfa.weak (by omega) (KT_not hemp htk)⟩
            case measure =>
              show ts.length - ((k + 1 : Nat) : Int).toNat < ts.length - (k : Int).toNat
              omega
          | false =>
            obtain ⟨wp, hput, halp, hszp, hkp⟩ := hfa.ks.put hti
            go_wp2_with fail
            have hwr := wrap_succ hcap hkl
            generalize RowKit.wrap64 ((k : Int) + 1) = z at hwr ⊢
            subst hwr; go_roundw
            case rel =>
              exact ⟨k + 1, by omega, rfl, (hfa.put halp hkp).weak (by omega) (KT_put hemp htk)⟩
            case measure =>
              show ts.length - ((k + 1 : Nat) : Int).toNat < ts.length - (k : Int).toNat
              omega
    · have hlt : (k : Int) < 2 := by omega
      obtain ⟨_, hstk, hvk⟩ := hm k (by omega)
      have hbk := hbm0 k (by omega)
      have hck : W1.cell? ⟨w.heap.size + 1 + 1, k, none⟩ = some (.map (some (bK k))) := by
        have : k = 0 ∨ k = 1 := by omega
        unfold World.cell?
        rw [hcs]; rcases this with rfl | rfl <;> rfl
      have hrg := run_range_map (P := Try.prog) W1 101 9 3 (bK k) (eK k) (cK k) Try.underlying101 hbk
      have hszk := (Array.getElem?_eq_some_iff.1 hbk).1
      have hszs := (Array.getElem?_eq_some_iff.1 hcs).1
      have hal0 := (Below.refl W1.heap.size W1).alloc (Nat.le_refl _) (.mapIter (some (bK k)) (cK k) #[] (cK k))
      go_wp2
      go_loopw [] (fun W => ∃ (seen : Array Nat) (c0 : Nat), W.heap[W1.heap.size]? = some (.mapIter (some (bK k)) (cK k) seen c0) ∧ cK k ≤ c0 ∧ Fg w W (W1.heap.size + 1) (fun i => KK eK k i ∨ Vals (eK k) seen i) ∧ W.heap[w.heap.size + 1 + 1]? = some (Obj.cells #[Value.map (some (bK 0)), Value.map (some (bK 1))] 101)) (fun W => (leftOf (eK k) (W.iterSeen W1.heap.size)).size)
      case atStart =>
        refine ⟨#[], cK k, heap_alloc_new W1 _, Nat.le_refl _, (hfg.alloc' _).weak (Nat.le_refl _) (Vals_none (eK k) (KK eK k)), ?_⟩
        rw [hal0.block _ hszs]; exact hcs
      case round =>
        obtain ⟨seen, c0, hit, hc0, hfi, hcsi⟩ := hrel; have hbki : wr.heap[bK k]? = some (.map (eK k) (cK k)) := by
          obtain ⟨h1, _⟩ := hm k (by omega)
          rw [hfi.bel.block _ (Array.getElem?_eq_some_iff.1 h1).1]; exact h1
        rcases iter_next (P := Try.prog) hit hbki hstk.1 hstk.2.1 hc0 with ⟨h0, hnx⟩ | ⟨e, hel, wn, hitn, haln, hszn, hbmn, hnx, hen⟩
        · go_wp2
          go_roundw
          case rel =>
            exact ⟨k + 1, by omega, by push_cast; rfl, hfi.weak (by omega) (Vals_all (all_seen (eK k) seen h0)), hcsi⟩
          case measure =>
            show 2 - ((k : Int) + 1).toNat < 2 - (k : Int).toNat
            omega
        · have hmem := (mem_left hel).1
          obtain ⟨j, hj, hvj⟩ := hvk e hmem; rw [hvj] at hnx hen; have hfn := hfi.iter haln (by omega)
          obtain ⟨wp, hput, halp, hszp, hkp⟩ := hfn.ks.put hj; have hsz1 := (Array.getElem?_eq_some_iff.1 hcsi).1
          have hsz2 := hfi.sz
          have hcvn := hfn.cv
          go_wp2
          have hitp : wp.heap[W1.heap.size]? = some (.mapIter (some (bK k)) (cK k) (seen.push e.born) (cK k)) := by
            rw [halp.block _ (Array.getElem?_eq_some_iff.1 hitn).1 (by omega)]; exact hitn
          go_roundw
          case rel =>
            refine ⟨seen.push e.born, cK k, hitp, Nat.le_refl _, (hfn.put halp hkp).weak (Nat.le_refl _) (Vals_push hstk hmem hvj (KK eK k)), ?_⟩
            rw [halp.block _ (by omega) (by omega), haln.block _ (by omega) (by omega)]; exact hcsi
          case measure =>
            have e1 : wr.iterSeen W1.heap.size = seen := by unfold World.iterSeen; rw [hit]
            have e2 : wp.iterSeen W1.heap.size = seen.push e.born := by unfold World.iterSeen; rw [hitp]
            rw [e1, e2]; exact left_shrinks _ _ _ hel
end Go.Proofs.Ytmglkddddpipgaa

namespace Go.Proofs.Ytmglkddddpipgaa
open Sx Go.RowKit Go.Lib

abbrev TurnD := List Int × List Int × Int
def keepB (nm sm : List (List Int × Int)) (ts : List TurnD) (i : Int) : Bool :=
  nm.any (fun x => x.2 == i) || sm.any (fun x => x.2 == i) || ts.any (fun t => !t.2.1.isEmpty && t.2.2 == i)

def forgetOf (A0 : List DiskD) (A1 : List (List (List Int × Int))) (A3 : List (List (Int × Option Nat))) : Option Nat → Option (List (List (Int × Option Nat)))
  | none => none
  | some j => match A0[j]? with
    | some (_, some jf, some jn, some js, ts, _) => match A3[jf]?, A1[jn]?, A1[js]? with
      | some fm, some nm, some sm => if ts.length ≤ BIG then some (A3.set jf (fm.filter fun x => keepB nm sm ts x.1)) else none
      | _, _, _ => none
    | _ => none

def sig52 : Sig := { id := 52, ins := [(false, .ref 0)], outs := [], ars := [(0, T0), (1, T1), (2, T2), (3, T3)] }
def F52 : List D → Option (List D) := fun ds => match ds with
  | [⟨.ref 0, d⟩, a0, a1, a2, a3] => match a0.get (.sl T0.t), a1.get (.sl T1.t), a2.get (.sl T2.t), a3.get (.sl T3.t) with
    | some A0, some A1, some A2, some A3 => match forgetOf A0 A1 A3 d with
      | some A3' => some [D0 A0, D1 A1, D2 A2, D3 A3']
      | none => none
    | _, _, _, _ => none
  | _ => none

open Classical in
noncomputable def bytesOf (s : List Int) : ByteArray := if h : ∃ ba, bytesI ba = s then Classical.choose h else ⟨#[]⟩
theorem bytesOf_eq (ba : ByteArray) : bytesOf (bytesI ba) = ba := by
  unfold bytesOf; have h : ∃ b, bytesI b = bytesI ba := ⟨ba, rfl⟩
  rw [dif_pos h]; have h2 := bytesI_inj.1 (Classical.choose_spec h)
  generalize Classical.choose h = b at h2
  cases b; cases ba; simp at h2; rw [h2]

theorem bytesI_empty (ba : ByteArray) : (ba.toList.isEmpty = false) ↔ (bytesI ba).isEmpty = false := by
  rw [← decide_eq_emptyBytes]; obtain ⟨⟨l⟩⟩ := ba; cases l with
  | nil => exact ⟨fun h => absurd rfl (of_decide_eq_false h), fun h => by simp [bytesI] at h⟩
  | cons a l => exact ⟨fun h => by simp [bytesI], fun h => decide_eq_false fun h2 => by
      have h3 : (a :: l).length = 0 := congrArg (fun b : ByteArray => b.data.toList.length) h2
      simp at h3⟩

noncomputable def turnsV (xs : List TurnD) : List (ByteArray × ByteArray × Int) := xs.map fun x => (bytesOf x.1, bytesOf x.2.1, x.2.2)

theorem turns_rep {p : PF} {w : World} {v : Value} {xs : List TurnD} (h : Rep p w (.sl (.pair .str (.pair .str tI))) [v] xs) :
    ∃ ad cap, v = .slice ad (turnsV xs).length cap ∧ (∀ m t, (turnsV xs)[m]? = some t → ∃ b off, ad = some ⟨b, off, none⟩ ∧ (IntKind.i64.min ≤ t.2.2 ∧ t.2.2 ≤ IntKind.i64.max) ∧ ∀ j v, [Value.string t.1, .string t.2.1, .int .i64 t.2.2][j]? = some v → w.cell? ⟨b, off + m * 3 + j, none⟩ = some v) ∧
      (∀ (m : Nat) (t : ByteArray × ByteArray × Int), (turnsV xs)[m]? = some t → ∃ x : TurnD, xs[m]? = some x ∧ bytesI t.2.1 = x.2.1 ∧ t.2.2 = x.2.2) := by
  have hl : (turnsV xs).length = xs.length := by simp [turnsV]
  have key : ∀ b off, (∀ i x, xs[i]? = some x → ∃ cs, CellsAt p w b (off + i * 3) cs ∧ Rep p w (.pair .str (.pair .str tI)) cs x) → ∀ m t, (turnsV xs)[m]? = some t → ((IntKind.i64.min ≤ t.2.2 ∧ t.2.2 ≤ IntKind.i64.max) ∧ ∀ j v, [Value.string t.1, .string t.2.1, .int .i64 t.2.2][j]? = some v → w.cell? ⟨b, off + m * 3 + j, none⟩ = some v) ∧ ∃ x, xs[m]? = some x ∧ bytesI t.2.1 = x.2.1 ∧ t.2.2 = x.2.2 := by
    intro b off hx m t ht; simp only [turnsV, List.getElem?_map, Option.map_eq_some_iff] at ht; obtain ⟨x, h1, rfl⟩ := ht; obtain ⟨cs, h2, va, vb, rfl, ⟨ba, rfl, h4, _⟩, vc, vd, rfl, ⟨bb, rfl, h6, _⟩, rfl, h8⟩ := hx m x h1; refine ⟨⟨h8, fun j v hj => ?_⟩, x, h1, ?_, rfl⟩
    · refine (h2 j v ?_).2
      simp only [h4, h6, bytesOf_eq] at hj; exact hj
    · simp only [h6, bytesOf_eq]
  rcases h with ⟨h1, rfl⟩ | ⟨b, off, cap, h1, _, _, h4⟩ | ⟨ad, h1, rfl⟩
  · simp only [List.cons.injEq, and_true] at h1; subst h1; exact ⟨none, 0, rfl, fun m t h => by simp [turnsV] at h, fun m t h => by simp [turnsV] at h⟩
  · simp only [List.cons.injEq, and_true] at h1; subst h1; refine ⟨some ⟨b, off, none⟩, cap, by rw [hl], fun m t ht => ⟨b, off, rfl, (key b off h4 m t ht).1⟩, fun m t ht => (key b off h4 m t ht).2⟩
  · simp only [List.cons.injEq, and_true] at h1; subst h1; exact ⟨some ad, 0, rfl, fun m t h => by simp [turnsV] at h, fun m t h => by simp [turnsV] at h⟩

theorem int_vals {p : PF} {w : World} : ∀ {es : List MapEntry} {y : List (List Int × Int)}, All2 (fun (e : MapEntry) (kv : List Int × Int) => FRep .str [e.key] kv.1 ∧ Rep p w tI [e.val] kv.2) es y →
    (∀ e ∈ es, ∃ i, (IntKind.i64.min ≤ i ∧ i ≤ IntKind.i64.max) ∧ e.val = .int .i64 i) ∧ ∀ i, (∃ e ∈ es, e.val = .int .i64 i) ↔ y.any (fun x => x.2 == i) = true
  | [], _, h => by cases h; simp
  | e :: es, _, h => by
    cases h with
    | cons h1 h2 =>
      rename_i kv y; obtain ⟨i1, i2⟩ := int_vals h2; obtain ⟨_, hv, hr⟩ := h1; simp only [List.cons.injEq, and_true] at hv; refine ⟨fun e' he => ?_, fun i => ?_⟩
      · rcases List.mem_cons.1 he with rfl | he
        · exact ⟨kv.2, hr, hv⟩
        · exact i1 e' he
      · rw [List.any_cons, Bool.or_eq_true, ← i2 i]; constructor
        · rintro ⟨e', he, hk⟩
          rcases List.mem_cons.1 he with rfl | he
          · rw [hv] at hk; simp only [Value.int.injEq, true_and] at hk; exact .inl (by simpa using hk)
          · exact .inr ⟨e', he, hk⟩
        · rintro (hk | ⟨e', he, hk⟩)
          · exact ⟨e, by simp, by rw [hv]; simpa using hk⟩
          · exact ⟨e', by simp [he], hk⟩

theorem filter_rep {p : PF} {w : World} (q : Int → Bool) : ∀ {es : List MapEntry} {y : List (Int × Option Nat)}, All2 (fun (e : MapEntry) (kv : Int × Option Nat) => FRep tI [e.key] kv.1 ∧ Rep p w (.ref 2) [e.val] kv.2) es y →
    IntKeys es ∧ All2 (fun (e : MapEntry) (kv : Int × Option Nat) => FRep tI [e.key] kv.1 ∧ Rep p w (.ref 2) [e.val] kv.2) (es.filter fun e => q (keyI e)) (y.filter fun x => q x.1)
  | [], _, h => by cases h; exact ⟨fun e he => by simp at he, .nil⟩
  | e :: es, _, h => by
    cases h with
    | cons h1 h2 =>
      rename_i kv y; obtain ⟨i1, i2⟩ := filter_rep q h2; obtain ⟨⟨hk, hr⟩, hv⟩ := h1; simp only [List.cons.injEq, and_true] at hk; have hki : keyI e = kv.1 := by unfold keyI; rw [hk]
      refine ⟨fun e' he => ?_, ?_⟩
      · rcases List.mem_cons.1 he with rfl | he
        · exact ⟨kv.1, hr, hk⟩
        · exact i1 e' he
      · rw [List.filter_cons, List.filter_cons, hki]; split
        · exact .cons ⟨⟨by rw [hk], hr⟩, hv⟩ i2
        · exact i2

theorem get4 {R : Nat × ArT → D → Prop} {q1 q2 q3 q4 : Nat × ArT} {ds : List D} (h : All2 R [q1, q2, q3, q4] ds) : ∃ a b c d, ds = [a, b, c, d] ∧ R q1 a ∧ R q2 b ∧ R q3 c ∧ R q4 d := by
  cases h with
  | cons h1 h => cases h with
    | cons h2 h => cases h with
      | cons h3 h => cases h with
        | cons h4 h => cases h; exact ⟨_, _, _, _, rfl, h1, h2, h3, h4⟩

theorem map_at {B : Base} {ρ : List D} {α : AS} {a : Act} {bs : List Act} {w : World} {g : G} (hR : RelG B ρ α a bs w g) {k : Nat} {x0 : A} {K V : Ty} {xs : List (List (K.den × V.den))} {v : Value} {j : Nat} (har : α.ar k = some (⟨.sl (.pair K V), []⟩, x0)) (hout : α.out k = none) (hk : k % 2 = 1)
    (hx0 : x0.ev ρ = some ⟨.sl (.sl (.pair K V)), xs⟩) (h3 : Rep g.p w (.ref k) [v] (some j)) :
    ∃ (b : Nat) (y : List (K.den × V.den)) (es : Array MapEntry) (clock : Nat), v = .map (some b) ∧ xs[j]? = some y ∧ g.p.ad k j b ∧ g.ow b = some (.obj k j) ∧ (∀ o, ¬ g.p b o) ∧
        w.heap[b]? = some (.map es clock) ∧ All2 (fun (e : MapEntry) (kv : K.den × V.den) => FRep K [e.key] kv.1 ∧ Rep g.p w V [e.val] kv.2) es.toList y ∧ MapKept.Stamped es clock := by
  have hRd := hR.env (ρ' := ρ ++ [⟨.ref k, some j⟩]) (fun i e h => nth_app (outs := [(⟨.ref k, some j⟩ : D)]) h)
  have f0 : x0.ev (ρ ++ [⟨.ref k, some j⟩]) = some ⟨.sl (.sl (.pair K V)), xs⟩ := A.ev_mono (fun i e h => nth_app (outs := [(⟨.ref k, some j⟩ : D)]) h) hx0
  obtain ⟨ys, f1, hc⟩ := map_of (K := K) (V := V) (T := ⟨.sl (.pair K V), []⟩) (x0 := x0) (x := .v ρ.length) (d := ⟨.ref k, some j⟩) (v := v) hRd har hout hk rfl (by simp [A.ev, nth_eq]) rfl h3
  have f2 : xs = ys := eq_of_heq (D.mk.inj (Option.some.inj (f0.symm.trans f1))).2
  subst f2; rcases hc with ⟨_, h4⟩ | ⟨j', b, y, es, clock, h1, h4, h5⟩
  · have := eq_of_heq (D.mk.inj h4).2
    cases this
  · have hj : some j = some j' := eq_of_heq (D.mk.inj h4).2
    simp only [oi] at hj; subst hj; exact ⟨b, y, es, clock, h1, h5⟩

theorem ok52 : FnOkX Try.prog 52 sig52 F52 := by
  refine ⟨fun h => (by cases h), fun _ => ⟨⟨Try.f52, (Try.f52.body).getD .skip, Try.func52, by kernel_rfl, by kernel_rfl⟩, ?_⟩⟩
  intro w p om vs cs ds aa rs hpw hlab hpart hrep hty has hF; obtain ⟨v, rfl, rfl⟩ := part1 hpart; cases hrep with
  | cons h1 h2 =>
    cases h2; rename_i d; have hd : d.t = .ref 0 := by simpa [inL, sig52, Ty.cells] using hty
    have hR := entryRel hpw hlab has
    obtain ⟨a0, a1, a2, a3, rfl, g0, g1, g2, g3⟩ := get4 has; obtain ⟨A0, rfl⟩ : ∃ A0 : List DiskD, a0 = D0 A0 := by obtain ⟨x, h, _⟩ := g0; exact ⟨x, h⟩
    obtain ⟨A1, rfl⟩ : ∃ A1 : List (List (List Int × Int)), a1 = D1 A1 := by obtain ⟨x, h, _⟩ := g1; exact ⟨x, h⟩
    obtain ⟨A2, rfl⟩ : ∃ A2 : List FileD, a2 = D2 A2 := by obtain ⟨x, h, _⟩ := g2; exact ⟨x, h⟩
    obtain ⟨A3, rfl⟩ : ∃ A3 : List (List (Int × Option Nat)), a3 = D3 A3 := by obtain ⟨x, h, _⟩ := g3; exact ⟨x, h⟩
    clear g0 g1 g2 g3; obtain ⟨t, r⟩ := d; simp only at hd
    subst hd; have hF' : (match forgetOf A0 A1 A3 r with | some A3' => some [D0 A0, D1 A1, D2 A2, D3 A3'] | none => none) = some rs := by
      have : F52 [⟨.ref 0, r⟩, D0 A0, D1 A1, D2 A2, D3 A3] = some rs := hF
      have g0 : (D0 A0).get (.sl T0.t) = some A0 := D.get_self _ _
      have g1 : (D1 A1).get (.sl T1.t) = some A1 := D.get_self _ _
      have g2 : (D2 A2).get (.sl T2.t) = some A2 := D.get_self _ _
      have g3 : (D3 A3).get (.sl T3.t) = some A3 := D.get_self _ _
      simpa only [F52, g0, g1, g2, g3] using this
    rcases obj_of hR (T := T0) (d := ⟨.ref 0, r⟩) (xs := A0) (x0 := .v 0) rfl rfl rfl rfl rfl h1 with ⟨rfl, h3⟩ | ⟨j, b, y, cs, el, rfl, h3, hy, _, _, _, hh, hrep, _⟩
    · have hr : r = none := eq_of_heq (D.mk.inj h3).2
      subst hr; cases hF'
    · have hr : r = some j := eq_of_heq (D.mk.inj h3).2
      subst hr; obtain ⟨y, rfl⟩ : ∃ y' : DiskD, y' = y := ⟨y, rfl⟩
      obtain ⟨q, mf, mn, ms, ts, rest⟩ := y; have hyj : A0[j]? = some (q, mf, mn, ms, ts, rest) := hy
      cases mf with
      | none => simp [forgetOf, hyj] at hF'
      | some jf => cases mn with
        | none => simp [forgetOf, hyj] at hF'
        | some jn => cases ms with
          | none => simp [forgetOf, hyj] at hF'
          | some js =>
            obtain ⟨v0, r0, hcs, hr0, v1, r1, rfl, hr1, v2, r2, rfl, hr2, v3, r3, rfl, hr3, v4, r4, rfl, hr4, _⟩ : ∃ v0 r0, cs.toList = v0 ++ r0 ∧ Rep (gIn p om).p w tI v0 q ∧ ∃ v1 r1, r0 = v1 ++ r1 ∧ Rep (gIn p om).p w (.ref 3) v1 (some jf) ∧ ∃ v2 r2, r1 = v2 ++ r2 ∧ Rep (gIn p om).p w (.ref 1) v2 (some jn) ∧ ∃ v3 r3, r2 = v3 ++ r3 ∧ Rep (gIn p om).p w (.ref 1) v3 (some js) ∧ ∃ v4 r4, r3 = v4 ++ r4 ∧ Rep (gIn p om).p w (.sl (.pair .str (.pair .str tI))) v4 ts ∧ True := by
              obtain ⟨v0, r0, e0, hr0, v1, r1, e1, hr1, v2, r2, e2, hr2, v3, r3, e3, hr3, v4, r4, e4, hr4, _⟩ := hrep; exact ⟨v0, r0, e0, hr0, v1, r1, e1, hr1, v2, r2, e2, hr2, v3, r3, e3, hr3, v4, r4, e4, hr4, trivial⟩
            have l0 := Rep.len _ _ _ hr0
            have l1 := Rep.len _ _ _ hr1
            have l2 := Rep.len _ _ _ hr2
            have l3 := Rep.len _ _ _ hr3
            have l4 := Rep.len _ _ _ hr4
            match v0, v1, v2, v3, v4, l0, l1, l2, l3, l4 with
            | [c0], [c1], [c2], [c3], [c4], _, _, _, _, _ =>
              obtain ⟨bm, fm, em, cm, rfl, m1, m2, m3, m4, m5, m6, m7⟩ := map_at hR (k := 3) (x0 := .v 3) (K := tI) (V := .ref 2) (xs := A3) rfl rfl rfl rfl hr1
              obtain ⟨bn, nm, en, cn, rfl, n1, n2, n3, n4, n5, n6, n7⟩ := map_at hR (k := 1) (x0 := .v 1) (K := .str) (V := tI) (xs := A1) rfl rfl rfl rfl hr2
              obtain ⟨bs, sm, es, cS, rfl, s1, s2, s3, s4, s5, s6, s7⟩ := map_at hR (k := 1) (x0 := .v 1) (K := .str) (V := tI) (xs := A1) rfl rfl rfl rfl hr3
              obtain ⟨ad, cap, rfl, ht1, ht2⟩ := turns_rep hr4; have k1 : A3[jf]? = some fm := m1
              have k2 : A1[jn]? = some nm := n1
              have k3 : A1[js]? = some sm := s1
              have hbl : ts.length ≤ BIG := by
                by_cases hb : ts.length ≤ BIG
                · exact hb
                · simp [forgetOf, hyj, k1, k2, k3, hb] at hF'
              have hfo : forgetOf A0 A1 A3 (some j) = some (A3.set jf (fm.filter fun x => keepB nm sm ts x.1)) := by
                simp only [forgetOf, hyj, k1, k2, k3, if_pos hbl]
              rw [hfo] at hF'; simp only [oi] at hF'; subst hF'; have hcell : ∀ i, w.cell? ⟨b, i, none⟩ = cs.toList[i]? := fun i => by
                rw [cell_of_row w b i cs el (0, 0) hh, ← Array.getElem?_toList]
              obtain ⟨vn1, vn2⟩ := int_vals n6; obtain ⟨vs1, vs2⟩ := int_vals s6; obtain ⟨ik, hfl⟩ := filter_rep (keepB nm sm ts) m6
              have hq : ∀ i, (KK (fun k => if k = 0 then en else es) 2 i ∨ KT (turnsV ts) (turnsV ts).length i) ↔ keepB nm sm ts i = true := by
                intro i; unfold keepB; rw [Bool.or_eq_true, Bool.or_eq_true, ← vn2 i, ← vs2 i, List.any_eq_true]; refine or_congr ⟨?_, ?_⟩ ⟨?_, ?_⟩
                · rintro ⟨m, hm, e, he, hv⟩
                  have : m = 0 ∨ m = 1 := by omega
                  rcases this with rfl | rfl
                  · exact .inl ⟨e, he, hv⟩
                  · exact .inr ⟨e, he, hv⟩
                · rintro (⟨e, he, hv⟩ | ⟨e, he, hv⟩)
                  · exact ⟨0, by omega, e, he, hv⟩
                  · exact ⟨1, by omega, e, he, hv⟩
                · rintro ⟨m, t, _, hmt, z1, z2⟩
                  obtain ⟨x, hx, y1, y2⟩ := ht2 m t hmt; refine ⟨x, List.mem_of_getElem? hx, ?_⟩
                  have := (bytesI_empty _).1 z1
                  rw [y1] at this; rw [this, ← y2, z2]; simp
                · rintro ⟨x, hx, hc⟩
                  obtain ⟨m, hm⟩ := List.getElem?_of_mem hx
                  have hml := (List.getElem?_eq_some_iff.1 hm).1
                  have hmt : ∃ t, (turnsV ts)[m]? = some t := ⟨_, List.getElem?_eq_getElem (by simpa [turnsV] using hml)⟩
                  obtain ⟨t, hmt⟩ := hmt; obtain ⟨x', hx', y1, y2⟩ := ht2 m t hmt; rw [hm] at hx'; simp only [oi] at hx'; subst hx'; simp only [Bool.and_eq_true, Bool.not_eq_true', beq_iff_eq] at hc; refine ⟨m, t, by simpa [turnsV] using hml, hmt, (bytesI_empty _).2 (by rw [y1]; exact hc.1), y2.trans hc.2⟩
              refine Calls.mono (k52 b bm (fun k => if k = 0 then bn else bs) (fun k => if k = 0 then en else es) (fun k => if k = 0 then cn else cS) w ad cap (turnsV ts) (by simpa [turnsV] using hbl) ht1 ?_ em cm (keepB nm sm ts) m5 m7 ik hq ?_ ?_ ?_ ?_) ?_
              · intro k hk; have : k = 0 ∨ k = 1 := by omega
                rcases this with rfl | rfl
                · exact ⟨n5, n7, vn1⟩
                · exact ⟨s5, s7, vs1⟩
              · rw [hcell, hcs]; rfl
              · rw [hcell, hcs]; rfl
              · rw [hcell, hcs]; rfl
              · rw [hcell, hcs]; rfl
              · rintro e w' ⟨rfl, hal, es', z1, z2, z3⟩
                have hbml := (Array.getElem?_eq_some_iff.1 m5).1
                have hR1 := hR.env (ρ' := [D0 A0, D1 A1, D2 A2, D3 A3, D3 (A3.set jf (fm.filter fun x => keepB nm sm ts x.1))]) (fun i d h => nth_app (outs := [D3 (A3.set jf (fm.filter fun x => keepB nm sm ts x.1))]) h)
                have hR2 := hR1.setMap (k := 3) (j := jf) (b := bm) (T := T3) (x0 := .v 3) (xn := .v 4) (xs := A3) (y' := fm.filter fun x => keepB nm sm ts x.1) (es' := es') (clock' := cm) rfl rfl rfl rfl rfl m2 m3 m4 m5 (by show All2 _ _ _; rw [z2]; exact hfl) z3
                have hR3 := hR2.grew (w' := w') ?_ (fun _ _ => False) (fun _ _ h => h.elim)
                · obtain ⟨r1, r2⟩ := hR3.retA (sig := sig52) rfl (us := []) (cs := []) (ds := []) (das := [D0 A0, D1 A1, D2 A2, D3 (A3.set jf (fm.filter fun x => keepB nm sm ts x.1))])
                    rfl .nil rfl ⟨fun j v e sz h => by simp [ownList, outL, sig52] at h, fun i j x y b h => by simp [ownList, outL, sig52] at h⟩ (fun j x b h => by simp [ownList, outL, sig52] at h)
                    (.cons ⟨.v 0, rfl, rfl, rfl⟩ (.cons ⟨.v 1, rfl, rfl, rfl⟩ (.cons ⟨.v 2, rfl, rfl, rfl⟩ (.cons ⟨.v 4, rfl, rfl, rfl⟩ .nil))))
                  exact ⟨_, rfl, _, _, _, _, r1, r2⟩
                · refine ⟨hal.os, hal.tape, hal.output, ?_, fun k hk => ?_⟩
                  · show (w.heap.setIfInBounds bm _).size ≤ _
                    simpa using hal.size
                  · have hk' : k < w.heap.size := by
                      have : k < (w.heap.setIfInBounds bm (Obj.map es' cm)).size := hk
                      simpa using this
                    by_cases hkb : k = bm
                    · subst hkb; rw [z1]; exact (MapKept.heap_set m5).1.symm
                    · rw [hal.block k hk' hkb]; exact ((MapKept.heap_set m5).2 k hkb).symm
end Go.Proofs.Ytmglkddddpipgaa
