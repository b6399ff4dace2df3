/-
  Contracts proved by hand of functions over maps: Clone, Used, Room, and what a map's walk keeps.
-/
import Derived.Test.YtmglkddddpipgaaK6
import Derived.Test.YtmglkddddpipgaaProg
import Derived.Lib.Walk
import Derived.Lib.Small
import Derived.ProofKit
import Derived.Laws.Externs
import Derived.Laws.IdiomRangeMap
import Derived.Maps.RangeRun
set_option linter.unusedVariables false
set_option linter.unusedSimpArgs false
namespace Go.Proofs.Ytmglkddddpipgaa.Sx
instance arnYt : Arn := ⟨fun t => match t with | 104 => some 0 | 109 => some 2 | 101 => some 1 | 100 => some 3 | 148 => some 5 | 99 => some 4 | 37 => some 6 | _ => none⟩

abbrev tI : Ty := .int .i64
abbrev tB : Ty := .sl (.int .u8)
end Go.Proofs.Ytmglkddddpipgaa.Sx

namespace Go.Proofs.Ytmglkddddpipgaa
open Sx Go.RowKit Go.Lib

def T0 : ArT := ⟨.pair tI (.pair (.ref 3) (.pair (.ref 1) (.pair (.ref 1) (.pair (.sl (.pair .str (.pair .str tI))) (.pair tI (.pair tI (.pair tI .bool))))))), [(4, 115)]⟩
def T1 : ArT := ⟨.sl (.pair .str tI), []⟩
def T2 : ArT := ⟨.pair tB tI, [(0, 5)]⟩
def T3 : ArT := ⟨.sl (.pair tI (.ref 2)), []⟩

def sig50 : Sig := { id := 50, ins := [(false, .ref 1)], outs := [(false, [(.ref 1, none)])], ars := [(1, T1)] }
def F50 : List D → Option (List D)
  | [⟨.ref 1, r⟩, ⟨.sl (.sl (.pair .str (.int .i64))), xs⟩] => match r with
    | none => some [⟨.ref 1, none⟩, ⟨.sl (.sl (.pair .str (.int .i64))), xs⟩]
    | some j => match xs[j]? with
      | some y => some [⟨.ref 1, some xs.length⟩, ⟨.sl (.sl (.pair .str (.int .i64))), xs ++ [y]⟩]
      | none => none
  | _ => none

section
variable {P : Program} (w : World)
theorem run_equalIn_map_nil (d : Nat) (t k e : TypeId) (p : Option Nat) (h : P.underlying t = some (.map k e)) :
    (Op.equalIn (d + 1) t (.map p) (.map none)).run P w = .ok p.isNone w := by
  cases p <;> simp [Op.equalIn, run_underlying h]
theorem run_eql_map_nil (t k e : TypeId) (p : Option Nat) (h : P.underlying t = some (.map k e)) :
    (binOp .eql t (.map p) (.map none)).run P w = .ok (.bool p.isNone) w := by
  simp only [binOp]; simp [show Op.equal t (.map p) (.map none) = Op.equalIn (9999 + 1) t (.map p) (.map none) from rfl, run_equalIn_map_nil w 9999 t k e p h]
theorem run_typeAssert_map (t xT k e : TypeId) (v : Value) (h : P.underlying t = some (.map k e)) : (Instr.typeAssert (.iface t v) xT t false).run P w = .ok v w := by
  simp [Instr.typeAssert, run_underlying h, go_sem, Result.andThen]
theorem run_makeInterface_map (t k e : TypeId) (v : Value) (h : P.underlying t = some (.map k e)) : (Instr.makeInterface t v).run P w = .ok (.iface t v) w := by
  simp [Instr.makeInterface, run_underlying h, Result.andThen]
theorem run_maps_clone {r : Nat} {es : Array MapEntry} {clock : Nat} (t : TypeId) (hb : w.heap[r]? = some (.map es clock)) :
    (Extern.MapsClone.clone #[.iface t (.map (some r))]).run P w = .ok (.iface t (.map (some w.heap.size))) (w.alloc (.map es clock)) := by
  have e : Extern.MapsClone.clone #[.iface t (.map (some r))] = (getObj r >>= fun o => match o with
      | .map entries clock => (newObj (.map entries clock) >>= fun n => pure (.iface t (.map (some n))))
      | _ => stuck "maps.clone: a map expected") := rfl
  rw [e]; simp [MapKept.run_getObj_map hb, Result.andThen, go_sem]
end

set_option maxHeartbeats 2000000 in
set_option maxRecDepth 100000 in
theorem k50 (b : Nat) (es : Array MapEntry) (clock : Nat) (w : World) (hb : w.heap[b]? = some (.map es clock)) :
    Calls Try.prog 50 #[.map (some b)] w fun e w' => e = .returned (.map (some w.heap.size)) ∧ w' = w.alloc (.map es clock) := by
  have hq := fun w => run_eql_map_nil (P := Try.prog) w 101 _ _ (some b) Try.underlying101
  have a20 := Try.isAgg20; have z20 := Try.sizeOf20; have v20 := Try.zeroValue20; have a101 := Try.isAgg101; have z101 := Try.sizeOf101; have v101 := Try.zeroValue101; have t101 := Try.underlying101; have t20 := Try.underlying20
  go_enter Try.func50, Try.ntmps50
  have hmi := fun w v => run_makeInterface_map (P := Try.prog) w 101 _ _ v Try.underlying101
  go_wp2
  rw [run_callFunc_extern Try.func87 (by kernel_rfl) (by kernel_rfl) (by kernel_rfl) (e := Extern.MapsClone.clone) (by kernel_rfl), run_maps_clone w 101 hb]; simp only [Result.andThen]; rw [Oper.upon_value]
  go_wp2
  rw [run_typeAssert_map _ 101 20 _ _ _ Try.underlying101]; simp only [Result.andThen]; rw [Oper.upon_value]
  go_wp2
  go_ret
  exact ⟨rfl, rfl⟩

set_option maxHeartbeats 2000000 in
set_option maxRecDepth 100000 in
theorem k50n (w : World) :
    Calls Try.prog 50 #[.map none] w fun e w' => e = .returned (.map none) ∧ w' = w := by
  have hq := fun w => run_eql_map_nil (P := Try.prog) w 101 _ _ none Try.underlying101
  go_enter Try.func50, Try.ntmps50
  go_wp2
  go_ret
  exact ⟨rfl, rfl⟩

theorem part1 {vs cs : List Value} {n : Nat} (h : partVals [(false, n)] vs cs) : ∃ v, vs = [v] ∧ cs = [v] := by
  match vs, h with
  | [v], h =>
    simp only [partVals] at h; obtain ⟨c1, c2, rfl, _, h1, rfl⟩ := h; rcases h1 with ⟨h, _⟩ | ⟨_, rfl⟩
    · cases h
    · exact ⟨v, rfl, rfl⟩
  | _ :: _ :: _, h =>
    simp only [partVals] at h; obtain ⟨_, _, _, _, _, h⟩ := h; exact h.elim

theorem ok50 : FnOkX Try.prog 50 sig50 F50 := by
  refine ⟨fun h => (by cases h), fun _ => ⟨⟨Try.f50, (Try.f50.body).getD .skip, Try.func50, by kernel_rfl, by kernel_rfl⟩, ?_⟩⟩
  intro w p om vs cs ds aa rs hpw hlab hpart hrep hty has hF; obtain ⟨v, rfl, rfl⟩ := part1 hpart; cases hrep with
  | cons h1 h2 =>
    cases h2; rename_i d; have hd : d.t = .ref 1 := by simpa [inL, sig50, Ty.cells] using hty
    have hR := entryRel hpw hlab has
    cases has with
    | cons ha1 ha2 =>
      cases ha2; rename_i A; obtain ⟨xs, hA⟩ : ∃ xs : List (List (List Int × Int)), A = (⟨.sl (.sl (.pair .str (.int .i64))), xs⟩ : D) := by
        obtain ⟨xs, hA, _⟩ := ha1; exact ⟨xs, hA⟩
      subst hA; have hRd := hR.env (ρ' := [⟨.sl (.sl (.pair .str (.int .i64))), xs⟩, d]) (fun i e h => nth_app (outs := [d]) h)
      obtain ⟨ys, f1, hc⟩ := map_of (K := .str) (V := .int .i64) (k := 1) (T := T1) (x0 := .v 0) (x := .v 1) hRd rfl rfl rfl rfl rfl hd h1
      have f1' : (⟨.sl (.sl (.pair .str (.int .i64))), xs⟩ : D) = ⟨.sl (.sl (.pair .str (.int .i64))), ys⟩ := by
        exact Option.some.inj f1
      have f2 : xs = ys := eq_of_heq (D.mk.inj f1').2
      subst f2; rcases hc with ⟨rfl, rfl⟩ | ⟨j, b, y, es, clock, rfl, rfl, q1, q2, q3, q4, q5, q6, q7⟩
      · have hF' : some [(⟨.ref 1, none⟩ : D), ⟨.sl (.sl (.pair .str (.int .i64))), xs⟩] = some rs := hF
        cases hF'; refine Calls.mono (k50n w) ?_
        rintro e w' ⟨rfl, rfl⟩
        obtain ⟨r1, r2⟩ := hR.retA (sig := sig50) rfl (us := [.map none]) (cs := [.map none]) (ds := [⟨.ref 1, none⟩]) (das := [⟨.sl (.sl (.pair .str (.int .i64))), xs⟩])
          ⟨[.map none], [], rfl, rfl, .inr ⟨rfl, rfl⟩, rfl⟩ (.cons (.inl ⟨rfl, rfl⟩) .nil) rfl ⟨fun j v e sz h => by simp [ownList, outL, sig50] at h, fun i j x y b h => by simp [ownList, outL, sig50] at h⟩ (fun j x b h => by simp [ownList, outL, sig50] at h)
          (.cons ⟨.v 0, rfl, rfl, rfl⟩ .nil)
        exact ⟨_, rfl, _, _, _, _, r1, r2⟩
      · have hF' : (match xs[j]? with | some y => some [(⟨.ref 1, some xs.length⟩ : D), ⟨.sl (.sl (.pair .str (.int .i64))), xs ++ [y]⟩] | none => none) = some rs := hF
        rw [show xs[j]? = some y from q1] at hF'
        cases hF'; refine Calls.mono (k50 b es clock w q5) ?_
        rintro e w' ⟨rfl, rfl⟩
        have hR1 := hR.env (ρ' := [⟨.sl (.sl (.pair .str (.int .i64))), xs⟩, ⟨.sl (.sl (.pair .str (.int .i64))), xs ++ [y]⟩]) (fun i d h => by
          have := nth_app (outs := [(⟨.sl (.sl (.pair .str (.int .i64))), xs ++ [y]⟩ : D)]) h
          exact this)
        obtain ⟨g', hR2, had⟩ := hR1.newMap (k := 1) (T := T1) (x0 := .v 0) (xn := .v 1) (xs := xs) (y := y) rfl rfl rfl rfl (es := es) (clock := clock) q6 q7
        obtain ⟨r1, r2⟩ := hR2.retA (sig := sig50) rfl (us := [.map (some w.heap.size)]) (cs := [.map (some w.heap.size)]) (ds := [⟨.ref 1, some xs.length⟩]) (das := [⟨.sl (.sl (.pair .str (.int .i64))), xs ++ [y]⟩])
          ⟨[_], [], rfl, rfl, .inr ⟨rfl, rfl⟩, rfl⟩ (.cons (.inr ⟨w.heap.size, xs.length, rfl, rfl, had⟩) .nil) rfl ⟨fun j v e sz h => by simp [ownList, outL, sig50] at h, fun i j x y b h => by simp [ownList, outL, sig50] at h⟩ (fun j x b h => by simp [ownList, outL, sig50] at h)
          (.cons ⟨.v 1, rfl, rfl, rfl⟩ .nil)
        exact ⟨_, rfl, _, _, _, _, r1, r2⟩

end Go.Proofs.Ytmglkddddpipgaa

namespace Go.Proofs.Ytmglkddddpipgaa
open Sx Go.RowKit Go.Lib

def seenS (f : MapEntry → Nat) : List MapEntry → Array Nat → Nat
  | [], _ => 0
  | x :: l, seen => (if seen.contains x.born then f x else 0) + seenS f l seen

theorem seenS_none (f : MapEntry → Nat) : ∀ (l : List MapEntry), seenS f l #[] = 0
  | [] => rfl
  | x :: l => by
    have : (#[] : Array Nat).contains x.born = false := by simp
    simp only [seenS, this, Bool.false_eq_true, if_false, seenS_none f l]

theorem seenS_full (f : MapEntry → Nat) (seen : Array Nat) : ∀ (l : List MapEntry), (∀ x ∈ l, seen.contains x.born = true) → seenS f l seen = (l.map f).sum
  | [], _ => rfl
  | x :: l, h => by
    simp only [seenS, h x (by simp), if_true, List.map_cons, List.sum_cons, seenS_full f seen l (fun y hy => h y (by simp [hy]))]

theorem seenS_le (f : MapEntry → Nat) (seen : Array Nat) : ∀ (l : List MapEntry), seenS f l seen ≤ (l.map f).sum
  | [] => Nat.le_refl _
  | x :: l => by
    have := seenS_le f seen l
    simp only [seenS, List.map_cons, List.sum_cons]; split <;> omega

theorem seenS_push (f : MapEntry → Nat) (seen : Array Nat) (e : MapEntry) (hs : seen.contains e.born = false) : ∀ (l : List MapEntry), (l.map (·.born)).Nodup → e ∈ l → seenS f l (seen.push e.born) = seenS f l seen + f e
  | x :: l, hn, he => by
    have hn' : x.born ∉ l.map (·.born) ∧ (l.map (·.born)).Nodup := List.nodup_cons.1 hn
    have other : ∀ (l : List MapEntry), e.born ∉ l.map (·.born) → seenS f l (seen.push e.born) = seenS f l seen := by
      intro l; induction l with
      | nil => intro _; rfl
      | cons y l ih =>
        intro hl; have hx : (y.born == e.born) = false := by
          cases hc : y.born == e.born with
          | false => rfl
          | true => exact absurd (List.mem_cons.2 (Or.inl (beq_iff_eq.1 hc).symm)) hl
        simp only [seenS, contains_push, hx, Bool.or_false, ih (fun e => hl (List.mem_cons.2 (Or.inr e)))]
    rcases List.mem_cons.1 he with rfl | h
    · simp only [seenS, contains_push, hs, beq_self_eq_true, Bool.or_true, if_true, Bool.false_eq_true, if_false, other l hn'.1]; omega
    · have hx : (x.born == e.born) = false := by
        cases hc : x.born == e.born with
        | false => rfl
        | true => exact absurd (List.mem_map.2 ⟨e, h, (beq_iff_eq.1 hc).symm⟩) hn'.1
      simp only [seenS, contains_push, hx, Bool.or_false, seenS_push f seen e hs l hn'.2 h]; omega

structure Rng (w wr : World) (bm since : Nat) (seen : Array Nat) : Prop where
  bel : Below w.heap.size w wr
  it : ∃ c0, wr.heap[w.heap.size]? = some (.mapIter (some bm) since seen c0) ∧ since ≤ c0

theorem Rng.iter {w wr : World} {bm since : Nat} {seen : Array Nat} (h : Rng w wr bm since seen) : wr.iterSeen w.heap.size = seen := by
  obtain ⟨c0, h1, _⟩ := h.it; unfold World.iterSeen; rw [h1]

theorem Rng.start (w : World) (bm since : Nat) : Rng w (w.alloc (.mapIter (some bm) since #[] since)) bm since #[] :=
  ⟨(Below.refl _ w).alloc (Nat.le_refl _) _, since, heap_alloc_new w _, Nat.le_refl _⟩

theorem Rng.cell {w wr : World} {bm since : Nat} {seen : Array Nat} (h : Rng w wr bm since seen) {b off : Nat} {v : Value} (hc : w.cell? ⟨b, off, none⟩ = some v) : wr.cell? ⟨b, off, none⟩ = some v := by
  have hlt : b < w.heap.size := by
    rcases Nat.lt_or_ge b w.heap.size with h' | h'
    · exact h'
    · simp [World.cell?, Array.getElem?_eq_none h'] at hc
  rw [World.cell?_of_block (h.bel.block b hlt), hc]

theorem Rng.block {w wr : World} {bm since : Nat} {seen : Array Nat} (h : Rng w wr bm since seen) {b : Nat} {o : Obj} (hc : w.heap[b]? = some o) : wr.heap[b]? = some o := by
  rw [h.bel.block b (Array.getElem?_eq_some_iff.1 hc).1]; exact hc

theorem Rng.next {P : Program} {w wr : World} {bm since : Nat} {seen : Array Nat} (h : Rng w wr bm since seen) {es : Array MapEntry} {clock : Nat} (hb : wr.heap[bm]? = some (.map es clock)) (hold : ∀ x ∈ es.toList, x.born < since) (hn : (es.toList.map (·.born)).Nodup) (hsc : since ≤ clock) :
    ((leftOf es seen).size = 0 ∧ ∀ ty, (Instr.next (.pointer (some ⟨w.heap.size, 0, none⟩)) false ty).run P wr = .ok (.tuple #[.bool false]) wr) ∨
    ∃ e ∈ (leftOf es seen).toList, ∃ wn : World, Rng w wn bm since (seen.push e.born) ∧ (∀ b, b ≠ w.heap.size → wn.heap[b]? = wr.heap[b]?) ∧ wn.heap.size = wr.heap.size ∧
      (∀ ty, (Instr.next (.pointer (some ⟨w.heap.size, 0, none⟩)) false ty).run P wr = .ok (.tuple #[.bool true, e.key, e.val]) wn) ∧
      (Instr.entry (.pointer (some ⟨w.heap.size, 0, none⟩))).run P wn = .ok (.tuple #[e.key, e.val]) wn := by
  obtain ⟨c0, hr, hc0⟩ := h.it; rcases run_next_at (P := P) wr 0 w.heap.size bm since c0 seen es clock hr hb hold hc0 with ⟨h0, hrun⟩ | ⟨e, he, w1, hw1, hrun⟩
  · exact .inl ⟨h0, fun ty => hrun⟩
  · have hlt := (Array.getElem?_eq_some_iff.1 hr).1
    have hh : w1.heap = wr.heap := by rcases hw1 with rfl | rfl <;> rfl
    have hset : ∀ b, b ≠ w.heap.size → (ChangeMaps.setBlock w1 w.heap.size (.mapIter (some bm) since (seen.push e.born) clock)).heap[b]? = wr.heap[b]? := fun b hne => by
      simp only [ChangeMaps.setBlock, hh]; simp [Ne.symm hne]
    have hit : (ChangeMaps.setBlock w1 w.heap.size (.mapIter (some bm) since (seen.push e.born) clock)).heap[w.heap.size]? = some (.mapIter (some bm) since (seen.push e.born) clock) := by
      simp only [ChangeMaps.setBlock, hh]; simp [hlt]
    have hsz : (ChangeMaps.setBlock w1 w.heap.size (.mapIter (some bm) since (seen.push e.born) clock)).heap.size = wr.heap.size := by simp [ChangeMaps.setBlock, hh]
    have hbm : bm ≠ w.heap.size := by rintro rfl; rw [hr] at hb; cases hb
    refine .inr ⟨e, he, _, ⟨⟨?_, ?_, ?_, by rw [hsz]; exact h.bel.size, fun k hk => (hset k (by omega)).trans (h.bel.block k hk)⟩, clock, hit, hsc⟩, hset, hsz, fun ty => hrun, ?_⟩
    · rcases hw1 with rfl | rfl <;> exact h.bel.os
    · rcases hw1 with rfl | rfl <;> exact h.bel.tape
    · rcases hw1 with rfl | rfl <;> exact h.bel.output
    · exact run_entry_at _ _ _ _ _ _ _ e hit (by rw [hset _ hbm]; exact hb) (mem_left he).1 hn

set_option maxHeartbeats 4000000 in
set_option maxRecDepth 1000000 in
theorem k18 (b0 bm : Nat) (es : Array MapEntry) (clock : Nat) (w : World) (hb : w.heap[bm]? = some (.map es clock)) (hst : MapKept.Stamped es clock) (hc : w.cell? ⟨b0, 1, none⟩ = some (.map (some bm))) (wt : MapEntry → Nat)
    (hv : ∀ x ∈ es.toList, ∃ (bf : Nat) (base : Option Addr) (cap : Nat), x.val = .pointer (some ⟨bf, 0, none⟩) ∧ w.cell? ⟨bf, 0, none⟩ = some (.slice base (wt x) cap)) (hsum : (es.toList.map wt).sum ≤ BIG) :
    Calls Try.prog 18 #[.pointer (some ⟨b0, 0, none⟩)] w fun e w' => e = .returned (.int .i64 ((es.toList.map wt).sum : Nat)) ∧ Below w.heap.size w w' := by
  have hrg := run_range_map (P := Try.prog) w 100 3 107 bm es clock Try.underlying100 hb
  go_enter Try.func18, Try.ntmps18
  go_wp2
  go_loopw [3] (fun s w' => ∃ (seen : Array Nat), Rng w w' bm clock seen ∧ s = .int .i64 ((seenS wt es.toList seen : Nat) : Int)) (fun _ w' => (leftOf es (w'.iterSeen w.heap.size)).size)
  case atStart => exact ⟨#[], Rng.start w bm clock, by rw [seenS_none]; rfl⟩
  case round =>
    obtain ⟨seen, hrng, rfl⟩ := hrel; rcases hrng.next (P := Try.prog) (hrng.block hb) hst.1 hst.2.1 (Nat.le_refl _) with ⟨h0, hnx⟩ | ⟨e, he, wn, hrn, hot, hsz, hnx, hen⟩
    · go_wp2
      go_ret
      rw [seenS_full wt seen es.toList (all_seen es seen h0)]; exact ⟨rfl, hrng.bel⟩
    · obtain ⟨bf, base, cap, hval, hcell⟩ := hv e (mem_left he).1
      rw [hval] at hnx hen; have hcf := hrn.cell hcell
      have hle := seenS_le wt (seen.push e.born) es.toList
      have hps := seenS_push wt seen e (mem_left he).2 es.toList hst.2.1 (mem_left he).1
      go_wp2
      go_roundw
      case rel =>
        refine ⟨seen.push e.born, hrn, ?_⟩
        rw [hps]; rw [hps] at hle; unfold BIG at hsum; have h63 : seenS wt es.toList seen + wt e ≤ 549755813888 := Nat.le_trans hle hsum
        refine congrArg (Value.int IntKind.i64) ?_
        omega
      case measure =>
        rw [hrn.iter, hrng.iter]; exact left_shrinks es seen e he

set_option maxHeartbeats 4000000 in
set_option maxRecDepth 1000000 in
theorem k18n (w : World) : Calls Try.prog 18 #[.pointer none] w fun e w' => e = .returned (.int .i64 0) ∧ w' = w := by
  go_enter Try.func18, Try.ntmps18
  go_wp2
  go_ret
  exact ⟨rfl, rfl⟩

set_option maxHeartbeats 4000000 in
set_option maxRecDepth 1000000 in
theorem k18m (b0 : Nat) (w : World) (hc : w.cell? ⟨b0, 1, none⟩ = some (.map none)) :
    Calls Try.prog 18 #[.pointer (some ⟨b0, 0, none⟩)] w fun e w' => e = .returned (.int .i64 0) ∧ w' = w.alloc (.mapIter none 0 #[] 0) := by
  have hrg := run_range_nilMap (P := Try.prog) w 100 3 107 Try.underlying100
  have hnx : ∀ ty, (Instr.next (.pointer (some ⟨w.heap.size, 0, none⟩)) false ty).run Try.prog (w.alloc (.mapIter none 0 #[] 0)) = _ := fun ty => run_next_nilMap w ty 0 0 #[]
  go_enter Try.func18, Try.ntmps18
  go_wp2
  refine wp_loop_rounds 1 ?_
  rw [rounds_succ]
  go_wp2
  go_ret
  exact ⟨rfl, rfl⟩
end Go.Proofs.Ytmglkddddpipgaa

namespace Go.Proofs.Ytmglkddddpipgaa
open Sx Go.RowKit Go.Lib

abbrev DiskD := Int × Option Nat × Option Nat × Option Nat × List (List Int × List Int × Int) × Int × Int × Int × Bool
abbrev FileD := List Int × Int
abbrev D0 (l : List DiskD) : D := ⟨.sl T0.t, l⟩
abbrev D1 (l : List (List (List Int × Int))) : D := ⟨.sl T1.t, l⟩
abbrev D2 (l : List FileD) : D := ⟨.sl T2.t, l⟩
abbrev D3 (l : List (List (Int × Option Nat))) : D := ⟨.sl T3.t, l⟩

def lens (A2 : List FileD) : List (Int × Option Nat) → Option Nat
  | [] => some 0
  | (_, some k) :: r => match A2[k]?, lens A2 r with
    | some f, some n => some (f.1.length + n)
    | _, _ => none
  | (_, none) :: _ => none

def usedOf (A0 : List DiskD) (A2 : List FileD) (A3 : List (List (Int × Option Nat))) : Option Nat → Option Nat
  | none => some 0
  | some j => match A0[j]? with
    | some x => match x.2.1 with
      | none => some 0
      | some jf => match A3[jf]? with
        | some fm => match lens A2 fm with
          | some n => if n ≤ BIG then some n else none
          | none => none
        | none => none
    | none => none

def sig18 : Sig := { id := 18, ins := [(false, .ref 0)], outs := [(false, [(tI, none)])], ars := [(0, T0), (2, T2), (3, T3)] }
def F18 : List D → Option (List D) := fun ds => match ds with
  | [⟨.ref 0, d⟩, a0, a2, a3] => match a0.get (.sl T0.t), a2.get (.sl T2.t), a3.get (.sl T3.t) with
    | some A0, some A2, some A3 => match usedOf A0 A2 A3 d with
      | some n => some [⟨tI, (n : Int)⟩, D0 A0, D2 A2, D3 A3]
      | none => none
    | _, _, _ => none
  | _ => none

def wtOf (w : World) (e : MapEntry) : Nat := match e.val with
  | .pointer (some ⟨bf, 0, none⟩) => match w.cell? ⟨bf, 0, none⟩ with
    | some (.slice _ n _) => n
    | _ => 0
  | _ => 0

theorem lens_rep {B : Base} {ρ : List D} {α : AS} {a : Act} {bs : List Act} {w : World} {g : G} (h : RelG B ρ α a bs w g) {x2 : A} {A2 : List FileD} (har : α.ar 2 = some (T2, x2)) (hout : α.out 2 = none) (hx2 : x2.ev ρ = some (D2 A2)) :
    ∀ (es : List MapEntry) (fm : List (Int × Option Nat)) (n : Nat), All2 (fun (e : MapEntry) (kv : Int × Option Nat) => FRep tI [e.key] kv.1 ∧ Rep g.p w (.ref 2) [e.val] kv.2) es fm → lens A2 fm = some n →
      (∀ e ∈ es, ∃ (bf : Nat) (base : Option Addr) (cap : Nat), e.val = .pointer (some ⟨bf, 0, none⟩) ∧ w.cell? ⟨bf, 0, none⟩ = some (.slice base (wtOf w e) cap)) ∧ (es.map (wtOf w)).sum = n
  | [], fm, n, ha, hl => by
    cases ha; simp only [lens, oi] at hl; exact ⟨by simp, by simpa using hl⟩
  | e :: es, fm, n, ha, hl => by
    cases ha with
    | cons h1 h2 =>
      rename_i kv fm; obtain ⟨i, r⟩ := kv; cases r with
      | none => simp [lens] at hl
      | some k =>
        simp only [lens] at hl; split at hl
        · rename_i f m hf hm; simp only [oi] at hl; obtain ⟨i1, i2⟩ := lens_rep h har hout hx2 es fm m h2 hm; rcases obj_of h (T := T2) (d := ⟨.ref 2, some k⟩) (xs := A2) har hout rfl hx2 rfl h1.2 with ⟨_, h3⟩ | ⟨j, b, y, cs, el, hv, hd, hy, _, _, _, hh, hrep, _⟩
          · have := eq_of_heq (D.mk.inj h3).2
            cases this
          · have hj : some k = some j := eq_of_heq (D.mk.inj hd).2
            simp only [oi] at hj; subst hj; have hyf : f = y := Option.some.inj ((show A2[k]? = some f from hf).symm.trans hy)
            subst hyf; obtain ⟨va, vb, hcs, hra, hrb⟩ : ∃ va vb, cs.toList = va ++ vb ∧ Rep g.p w tB va f.1 ∧ Rep g.p w tI vb f.2 := hrep
            have hl1 := Rep.len _ _ _ hra
            match va, hl1 with
            | [c0], _ =>
              obtain ⟨base, cap, hc0, _⟩ := sl_len hra; have hcell : w.cell? ⟨b, 0, none⟩ = some c0 := by
                rw [cell_of_row w b 0 cs el (0, 0) hh, ← Array.getElem?_toList, hcs]; rfl
              have hwt : wtOf w e = f.1.length := by
                simp only [wtOf, hv, hcell, hc0]
              refine ⟨fun e' he' => ?_, by simp only [List.map_cons, List.sum_cons, hwt, i2]; exact hl⟩
              rcases List.mem_cons.1 he' with rfl | he'
              · exact ⟨b, base, cap, hv, by rw [hcell, hc0, hwt]⟩
              · exact i1 e' he'
        · cases hl

theorem get3 {R : Nat × ArT → D → Prop} {q1 q2 q3 : Nat × ArT} {ds : List D} (h : All2 R [q1, q2, q3] ds) : ∃ a b c, ds = [a, b, c] ∧ R q1 a ∧ R q2 b ∧ R q3 c := by
  cases h with
  | cons h1 h => cases h with
    | cons h2 h => cases h with
      | cons h3 h => cases h; exact ⟨_, _, _, rfl, h1, h2, h3⟩

theorem noOwn18 {sig : Sig} {cs : List Value} (h : ownList (outL sig) cs = []) {w : World} {p : PF} : Owned 0 w p (ownList (outL sig) cs) := by
  rw [h]; exact ⟨fun j v e sz h => by simp at h, fun i j x y b h => by simp at h⟩

theorem used_calls {B : Base} {ρ : List D} {α : AS} {a : Act} {bs : List Act} {w : World} {g : G} (hR : RelG B ρ α a bs w g) {x0 x2 x3 : A} {A0 : List DiskD} {A2 : List FileD} {A3 : List (List (Int × Option Nat))}
    (r0 : α.ar 0 = some (T0, x0)) (r2 : α.ar 2 = some (T2, x2)) (r3 : α.ar 3 = some (T3, x3)) (o0 : α.out 0 = none) (o2 : α.out 2 = none) (o3 : α.out 3 = none) (e0 : x0.ev ρ = some (D0 A0)) (e2 : x2.ev ρ = some (D2 A2)) (e3 : x3.ev ρ = some (D3 A3))
    {r : Option Nat} {v : Value} (h1 : RepD g.p w v ⟨.ref 0, r⟩) {n : Nat} (hu : usedOf A0 A2 A3 r = some n) :
    n ≤ BIG ∧ Calls Try.prog 18 #[v] w fun e w' => e = .returned (.int .i64 n) ∧ Below w.heap.size w w' := by
  rcases obj_of hR (T := T0) (d := ⟨.ref 0, r⟩) (xs := A0) (x0 := x0) r0 o0 rfl e0 rfl h1 with ⟨rfl, h3⟩ | ⟨j, b, y, cs, el, rfl, h3, hy, _, _, _, hh, hrep, _⟩
  · have hr : r = none := eq_of_heq (D.mk.inj h3).2
    subst hr; have : n = 0 := by simpa [usedOf] using hu.symm
    subst this; refine ⟨Nat.zero_le _, Calls.mono (k18n w) ?_⟩
    rintro e w' ⟨rfl, rfl⟩
    exact ⟨rfl, Below.refl _ _⟩
  · have hr : r = some j := eq_of_heq (D.mk.inj h3).2
    subst hr; obtain ⟨va, vb, hcs, hra, vc, vd, rfl, hrc, _⟩ : ∃ va vb, cs.toList = va ++ vb ∧ Rep g.p w tI va y.1 ∧ ∃ vc vd, vb = vc ++ vd ∧ Rep g.p w (.ref 3) vc y.2.1 ∧ True := by
      obtain ⟨va, vb, hcs, hra, vc, vd, hvb, hrc, _⟩ := hrep; exact ⟨va, vb, hcs, hra, vc, vd, hvb, hrc, trivial⟩
    have l1 := Rep.len _ _ _ hra
    have l2 := Rep.len _ _ _ hrc
    match va, vc, l1, l2 with
    | [c0], [c1], _, _ =>
      have hcell : w.cell? ⟨b, 1, none⟩ = some c1 := by
        rw [cell_of_row w b 1 cs el (0, 0) hh, ← Array.getElem?_toList, hcs]; rfl
      have hu0 : usedOf A0 A2 A3 (some j) = (match y.2.1 with
          | none => some 0
          | some jf => match A3[jf]? with
            | some fm => match lens A2 fm with
              | some n => if n ≤ BIG then some n else none
              | none => none
            | none => none) := by
        simp only [usedOf, show A0[j]? = some y from hy]
        rfl
      have hRd := hR.env (ρ' := ρ ++ [⟨.ref 3, y.2.1⟩]) (fun i e h => nth_app (outs := [(⟨.ref 3, y.2.1⟩ : D)]) h)
      have f0 : x3.ev (ρ ++ [⟨.ref 3, y.2.1⟩]) = some (D3 A3) := A.ev_mono (fun i e h => nth_app (outs := [(⟨.ref 3, y.2.1⟩ : D)]) h) e3
      obtain ⟨ys, f1, hc⟩ := map_of (K := tI) (V := .ref 2) (k := 3) (T := T3) (x0 := x3) (x := .v ρ.length) (d := ⟨.ref 3, y.2.1⟩) (v := c1) hRd r3 o3 rfl rfl (by simp [A.ev, nth_eq]) rfl hrc
      have f2 : A3 = ys := eq_of_heq (D.mk.inj (Option.some.inj (f0.symm.trans f1))).2
      subst f2; rcases hc with ⟨rfl, h4⟩ | ⟨jf, bm, fm, es, clock, rfl, h4, q1, _, _, _, q5, q6, q7⟩
      · have hm : y.2.1 = none := eq_of_heq (D.mk.inj h4).2
        rw [hu0, hm] at hu; simp only [oi] at hu; subst hu; refine ⟨Nat.zero_le _, Calls.mono (k18m b w hcell) ?_⟩
        rintro e w' ⟨rfl, rfl⟩
        exact ⟨rfl, (Below.refl _ w).alloc (Nat.le_refl _) _⟩
      · have hm : y.2.1 = some jf := eq_of_heq (D.mk.inj h4).2
        rw [hu0, hm] at hu; simp only [show A3[jf]? = some fm from q1] at hu
        cases hl : lens A2 fm with
        | none => rw [hl] at hu; cases hu
        | some m =>
          rw [hl] at hu; simp only at hu
          by_cases hn : m ≤ BIG
          · rw [if_pos hn] at hu; simp only [oi] at hu; subst hu; obtain ⟨i1, i2⟩ := lens_rep hR (x2 := x2) (A2 := A2) r2 o2 e2 es.toList fm m q6 hl
            refine ⟨hn, Calls.mono (k18 b bm es clock w q5 q7 hcell (wtOf w) i1 (by rw [i2]; exact hn)) ?_⟩
            rintro e w' ⟨rfl, hb⟩
            rw [i2]; exact ⟨rfl, hb⟩
          · rw [if_neg hn] at hu; cases hu

end Go.Proofs.Ytmglkddddpipgaa
