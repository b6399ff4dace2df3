/-
  From the executor's word to a contract and to a row; laws for reckoning a text.
-/
import Derived.Test.YtolcekkcenedjaaGreatK5
import Derived.ProofKit
import Derived.Deep.Slices
import Derived.JoinedCond
import Derived.IntWalk
set_option linter.unusedVariables false
set_option linter.unusedSimpArgs false
namespace Go.Proofs.YtolcekkcenedjaaGreat.Sx
open Go.RowKit

def Ty.wpos : Ty → Bool
  | .sl e => decide (0 < e.width) && e.wpos
  | .pair a b => a.wpos && b.wpos
  | .pt _ => false
  | .nd _ => false
  | _ => true

def Wf : (t : Ty) → t.den → Prop
  | .unit, _ => True
  | .bool, _ => True
  | .int k, n => k.min ≤ n ∧ n ≤ k.max
  | .str, s => (s : List Int).length ≤ maxLen ∧ ∀ c ∈ (s : List Int), 0 ≤ c ∧ c ≤ 255
  | .sl e, xs => (xs : List e.den).length ≤ maxLen ∧ ∀ x ∈ (xs : List e.den), Wf e x
  | .pair a b, x => Wf a x.1 ∧ Wf b x.2
  | .pt _, _ => True
  | .nd _, _ => True

theorem Rep.wf {p : Nat → Nat → Prop} {w : World} : ∀ (t : Ty) (vs : List Value) (x : t.den), Rep p w t vs x → Wf t x
  | .unit, _, _, _ => trivial
  | .bool, _, _, _ => trivial
  | .pt _, _, _, _ => trivial
  | .nd _, _, _, _ => trivial
  | .int _, _, _, h => h.2
  | .str, _, _, h => by
    obtain ⟨ba, _, rfl, hs⟩ := h
    refine ⟨by rw [bytesI_len]; exact hs, fun c hc => ?_⟩
    obtain ⟨b, _, rfl⟩ := List.mem_map.1 hc
    have := b.toNat_lt
    omega
  | .pair a b, _, _, h => by
    obtain ⟨va, vb, _, h1, h2⟩ := h
    exact ⟨Rep.wf a _ _ h1, Rep.wf b _ _ h2⟩
  | .sl e, vs, xs, h => by
    rcases h with ⟨_, h⟩ | ⟨b, off, cap, _, h1, h2, h3⟩ | ⟨_, _, h⟩
    · have h' : (xs : List e.den) = [] := h
      subst h'; exact ⟨Nat.zero_le _, fun x hx => by cases hx⟩
    · refine ⟨Nat.le_trans h1 h2, fun x hx => ?_⟩
      obtain ⟨i, hi⟩ := List.getElem?_of_mem hx
      obtain ⟨cs, _, hr⟩ := h3 i x hi
      exact Rep.wf e _ _ hr
    · have h' : (xs : List e.den) = [] := h
      subst h'; exact ⟨Nat.zero_le _, fun x hx => by cases hx⟩

theorem Rep.split {p : Nat → Nat → Prop} {w : World} : ∀ (t : Ty) (vs : List Value) (x : t.den), Rep p w t vs x →
    ∃ ds : List D, All2 (fun d v => RepD p w v d) ds vs ∧ ds.map (·.t) = t.cells ∧ ∀ d ∈ ds, Wf d.t d.x
  | .unit, _, _, h => by simp only [Rep] at h; subst h; exact ⟨[], .nil, rfl, fun d hd => by cases hd⟩
  | .bool, _, x, h => by
    have h' := h
    simp only [Rep] at h'; subst h'; exact ⟨[⟨.bool, x⟩], .cons h .nil, rfl, fun d hd => by simp only [List.mem_singleton] at hd; subst hd; exact Rep.wf _ _ _ h⟩
  | .int k, _, x, h => by
    have h' := h
    simp only [Rep] at h'; obtain ⟨rfl, _⟩ := h'; exact ⟨[⟨.int k, x⟩], .cons h .nil, rfl, fun d hd => by simp only [List.mem_singleton] at hd; subst hd; exact Rep.wf _ _ _ h⟩
  | .str, _, x, h => by
    have h' := h
    simp only [Rep] at h'; obtain ⟨_, rfl, _⟩ := h'; exact ⟨[⟨.str, x⟩], .cons h .nil, rfl, fun d hd => by simp only [List.mem_singleton] at hd; subst hd; exact Rep.wf _ _ _ h⟩
  | .sl e, vs, x, h => by
    have h1 := Rep.len _ _ _ h
    match vs, h1 with
    | [v], _ => exact ⟨[⟨.sl e, x⟩], .cons h .nil, rfl, fun d hd => by simp only [List.mem_singleton] at hd; subst hd; exact Rep.wf _ _ _ h⟩
  | .pt e, vs, x, h => by
    have h1 := Rep.len _ _ _ h
    match vs, h1 with
    | [v], _ => exact ⟨[⟨.pt e, x⟩], .cons h .nil, rfl, fun d hd => by simp only [List.mem_singleton] at hd; subst hd; exact Rep.wf _ _ _ h⟩
  | .nd e, vs, x, h => by
    have h1 := Rep.len _ _ _ h
    match vs, h1 with
    | [v], _ => exact ⟨[⟨.nd e, x⟩], .cons h .nil, rfl, fun d hd => by simp only [List.mem_singleton] at hd; subst hd; exact Rep.wf _ _ _ h⟩
  | .pair a b, vs, x, h => by
    simp only [Rep] at h
    obtain ⟨va, vb, rfl, h1, h2⟩ := h
    obtain ⟨d1, k1, k2, k3⟩ := Rep.split a _ _ h1
    obtain ⟨d2, j1, j2, j3⟩ := Rep.split b _ _ h2
    refine ⟨d1 ++ d2, k1.app j1, by simp [Ty.cells, k2, j2], fun d hd => ?_⟩
    rcases List.mem_append.1 hd with hd | hd
    · exact k3 d hd
    · exact j3 d hd

theorem pairs_wpos : ∀ (ts : List Ty), (pairs ts).wpos = true → ∀ t ∈ ts, t.wpos = true
  | [], _, t, h => by cases h
  | [t], h, u, hu => by simp only [List.mem_singleton] at hu; subst hu; exact h
  | t :: u :: ts, h, v, hv => by
    simp only [pairs, Ty.wpos, Bool.and_eq_true] at h
    rcases List.mem_cons.1 hv with rfl | hv
    · exact h.1
    · exact pairs_wpos (u :: ts) h.2 v hv

section
variable {H : Type} {enc : TypeId × Value → H} {P : Program} {W : World} {held : Bool}

theorem fields_rep {p : Nat → Nat → Prop} {f : TypeId → Option Ty} {r : TypeId → List Value → Option (DataW H × List MemPlace)} {cs : List Value} :
    ∀ (fs : List Field) (ts : List Ty) (o : Nat) (xs : List (DataW H × List MemPlace)), tysOf f fs = some ts → offsOk o fs ts = true → (∀ x ∈ fs, ∀ t, f x.type = some t → P.cellsOf x.type = t.width) →
      (∀ t ∈ ts, t.wpos = true) → (∀ x ∈ fs, ∀ t, f x.type = some t → t.wpos = true → ∀ c y, r x.type c = some y → ∃ z, Rep p W t c z) →
      fs.mapM (fun x => r x.type ((cs.drop x.offset).take (P.cellsOf x.type))) = some xs → (cs.drop o).length = (pairs ts).width → ∃ y, Rep p W (pairs ts) (cs.drop o) y
  | [], ts, o, xs, h1, h2, h3, h4, h5, h6, h7 => by
    simp only [tysOf, Option.some.injEq] at h1
    subst h1
    have : cs.drop o = [] := List.length_eq_zero_iff.1 h7
    rw [this]; exact ⟨(), rfl⟩
  | x :: fs, ts, o, xs, h1, h2, h3, h4, h5, h6, h7 => by
    simp only [tysOf] at h1
    split at h1
    · rename_i t ts' e1 e2
      simp only [Option.some.injEq] at h1
      subst h1
      simp only [offsOk, Bool.and_eq_true, beq_iff_eq] at h2
      obtain ⟨ho, h2⟩ := h2
      have hw := h3 x (by simp) t e1
      rw [List.mapM_cons] at h6
      cases hx : r x.type ((cs.drop x.offset).take (P.cellsOf x.type)) with
      | none => simp [hx] at h6
      | some y =>
        cases hxs : fs.mapM (fun x => r x.type ((cs.drop x.offset).take (P.cellsOf x.type))) with
        | none => simp [hx, hxs] at h6
        | some ys =>
          rw [ho, hw] at hx
          obtain ⟨z, hz⟩ := h5 x (by simp) t e1 (h4 t (by simp)) _ _ hx
          cases ts' with
          | nil =>
            have : (cs.drop o).take t.width = cs.drop o := List.take_of_length_le (by rw [h7]; simp [pairs])
            rw [this] at hz
            exact ⟨z, hz⟩
          | cons u us =>
            have hl : (cs.drop (o + t.width)).length = (pairs (u :: us)).width := by
              simp only [pairs, Ty.width] at h7
              rw [List.length_drop] at h7 ⊢
              omega
            obtain ⟨z', hz'⟩ := fields_rep fs (u :: us) (o + t.width) ys e2 h2 (fun x hx => h3 x (by simp [hx])) (fun t ht => h4 t (by simp [ht])) (fun x hx => h5 x (by simp [hx])) hxs hl
            refine ⟨(z, z'), (cs.drop o).take t.width, cs.drop (o + t.width), ?_, hz, hz'⟩
            rw [← List.drop_drop, List.take_append_drop]
    · cases h1

theorem list_of {α : Type} {Q : Nat → α → Prop} : ∀ (n : Nat), (∀ i, i < n → ∃ y, Q i y) → ∃ ys : List α, ys.length = n ∧ ∀ i y, ys[i]? = some y → Q i y
  | 0, _ => ⟨[], rfl, fun i y h => by simp at h⟩
  | n + 1, h => by
    obtain ⟨ys, h1, h2⟩ := list_of n (fun i hi => h i (by omega))
    obtain ⟨y, hy⟩ := h n (by omega)
    refine ⟨ys ++ [y], by simp [h1], fun i z hz => ?_⟩
    by_cases hi : i < n
    · rw [List.getElem?_append_left (by omega)] at hz; exact h2 i z hz
    · rw [List.getElem?_append_right (by omega)] at hz
      have : i - ys.length = 0 := by
        have := (List.getElem?_eq_some_iff.1 hz).1
        simp at this; omega
      rw [this] at hz
      simp at hz; subst hz
      rwa [show i = n by omega]

theorem spot_none {b : Nat} {a : Addr} {n i : Nat} {cs : List Value} (h : W.cells? b (a.add (i * n)) n = some cs) (hn : 0 < n) (hi : i = 0 ) : a.spot = none := by
  subst hi
  obtain ⟨_, _, h3⟩ := World.cells?_some h
  have h4 := h3 0 hn
  have hl : 0 < cs.length := by obtain ⟨_, h, _⟩ := World.cells?_some h; omega
  rw [List.getElem?_eq_getElem hl] at h4
  simp only [Nat.zero_mul] at h4
  have e : (a.add 0).add 0 = a := by simp [Addr.add]
  rw [e] at h4
  unfold World.cell? at h4
  split at h4
  · split at h4
    · cases h4
    · rename_i hs; simpa using hs
  · cases h4

theorem trod_rep : ∀ (m n : Nat) (t : TypeId) (ty : Ty) (cs : List Value) (x : DataW H × List MemPlace), tyOf P n t = some ty → ty.wpos = true →
    DataW.trod enc P W 0 (fun _ => true) held m t cs = some x → ∃ y, Rep (fun b _ => b < W.heap.size) W ty cs y
  | 0, _, _, _, _, _, _, _, h => by simp [DataW.trod] at h
  | m + 1, 0, _, _, _, _, h, _, _ => by simp [tyOf] at h
  | m + 1, n + 1, t, ty, cs, x, ht, hp, h => by
    simp only [tyOf] at ht
    split at ht
    · rename_i k hu
      split at ht
      · cases ht
        simp only [DataW.trod, hu] at h
        split at h
        all_goals first | (rename_i hh; cases hh; done) | skip
        · rename_i k1 k2 nn hh
          cases hh
          split at h
          · rename_i hc
            obtain ⟨rfl, hwf⟩ := hc
            simp only [Lit.wf, Bool.and_eq_true, decide_eq_true_eq] at hwf
            exact ⟨nn, rfl, hwf⟩
          · cases h
        all_goals simp_all
      · cases ht
    · rename_i hu
      split at ht
      · cases ht
        simp only [DataW.trod, hu] at h
        split at h
        · exact ⟨_, rfl⟩
        all_goals simp_all
      · cases ht
    · rename_i hu
      split at ht
      · cases ht
        simp only [DataW.trod, hu] at h
        split at h
        all_goals first | (rename_i hh; cases hh; done) | skip
        · split at h
          · rename_i hs
            exact ⟨_, _, rfl, rfl, hs⟩
          · cases h
        all_goals simp_all
      · cases ht
    · rename_i e hu
      split at ht
      · split at ht
        · rename_i u he
          cases ht
          simp only [Ty.wpos, Bool.and_eq_true, decide_eq_true_eq] at hp
          have hw : P.cellsOf e = u.width := tyOf_width _ _ _ he
          rcases DataW.trod_slice hu h with ⟨rfl, _⟩ | ⟨a, len, cap, elems, rest, n', hf, rfl, rfl, _, hl, hm, hlen, hel, hsp, _⟩
          · exact ⟨[], .inl ⟨rfl, rfl⟩⟩
          · cases hf
            obtain ⟨hr, hrest⟩ := hsp rfl
            have each : ∀ i, i < len → ∃ y c, W.cells? 0 (a.add (i * P.cellsOf e)) (P.cellsOf e) = some c ∧ Rep (fun b _ => b < W.heap.size) W u c y := fun i hi => by
              have := hel i hi
              have hlt : i < elems.length := by omega
              rw [List.getElem?_eq_getElem hlt] at this
              obtain ⟨c, h1, h2⟩ := Option.bind_eq_some_iff.1 this
              obtain ⟨y, hy⟩ := trod_rep m n e u c _ he hp.2 h2
              exact ⟨y, c, h1, hy⟩
            by_cases hc0 : cap = 0
            · subst hc0
              have : len = 0 := by omega
              subst this
              exact ⟨[], .inr (.inr ⟨a, rfl, rfl⟩)⟩
            · have hspot : a.spot = none := by
                by_cases h0 : 0 < len
                · obtain ⟨y, c, h1, _⟩ := each 0 h0
                  exact spot_none h1 (by omega) rfl
                · have h00 : len = 0 := by omega
                  subst h00
                  have := hrest 0 (by omega)
                  have hlt : 0 < rest.length := by omega
                  rw [List.getElem?_eq_getElem hlt] at this
                  obtain ⟨c, h1, h2⟩ := Option.bind_eq_some_iff.1 this
                  exact spot_none (i := 0) h1 (by omega) rfl
              obtain ⟨b, off, spot⟩ := a
              simp only at hspot
              subst hspot
              obtain ⟨ys, hys, hY⟩ := list_of len (Q := fun i y => ∃ c, W.cells? 0 (Addr.add ⟨b, off, none⟩ (i * P.cellsOf e)) (P.cellsOf e) = some c ∧ Rep (fun b _ => b < W.heap.size) W u c y) each
              refine ⟨ys, .inr (.inl ⟨b, off, cap, by rw [hys], by rw [hys]; exact hl, hm, fun i y hy => ?_⟩)⟩
              obtain ⟨c, h1, h2⟩ := hY i y hy
              refine ⟨c, fun j v hv => ?_, h2⟩
              obtain ⟨_, h4, h5⟩ := World.cells?_some h1
              have hj : j < P.cellsOf e := by rw [← h4]; exact (List.getElem?_eq_some_iff.1 hv).1
              have h6 := h5 j hj
              rw [Addr.add_mid, Addr.add_mid, hv, hw] at h6
              refine ⟨?_, h6⟩
              unfold World.cell? at h6
              split at h6
              · rename_i h7; exact (Array.getElem?_eq_some_iff.1 h7).1
              · cases h6
        · cases ht
      · cases ht
    · rename_i fs hu
      split at ht
      · rename_i ts hts
        split at ht
        · rename_i hc
          cases ht
          simp only [Bool.and_eq_true, beq_iff_eq] at hc
          simp only [DataW.trod, hu] at h
          split at h
          · rename_i hlen
            simp only [Option.map_eq_some_iff] at h
            obtain ⟨xs, hxs, rfl⟩ := h
            have := fields_rep (P := P) (W := W) (p := fun b _ => b < W.heap.size) (f := tyOf P n) (r := DataW.trod enc P W 0 (fun _ => true) held m) (cs := cs) fs.toList ts 0 xs hts hc.1 (fun x _ t h => tyOf_width _ _ _ h) (pairs_wpos ts hp)
              (fun x _ t h1 h2 c y h3 => trod_rep m n x.type t c y h1 h2 h3) hxs (by rw [List.drop_zero, hlen, ← hc.2]; rfl)
            simpa using this
          · cases h
        · cases ht
      · cases ht
    · obtain ⟨_, _, _, _, rfl | rfl⟩ := ptrOf_some ht <;> cases hp

def insOk (P : Program) : List TypeId → List (Bool × Ty) → Bool
  | [], [] => true
  | t :: ts, (ag, ty) :: r => (match tyOf P 9 t with | some u => decide (u = ty) | none => false) && (ag == isAgg' P t) && ty.wpos && P.readableRec t && decide (t < P.types.size) && insOk P ts r
  | _, _ => false

theorem cell_form {n : Nat} {t : TypeId} {ty : Ty} {base : Nat} {v : Value} (ht : tyOf P (n + 1) t = some ty) (ha : isAgg' P t = false) (hv : Value.okWide P W .any base t v) : v.cells.toList = [v] := by
  simp only [tyOf] at ht
  unfold isAgg' at ha
  unfold Value.okWide at hv
  cases v
  case agg cs =>
    split at ht
    case h_6 =>
      obtain ⟨_, _, hu, _⟩ := ptrOf_some ht
      simp_all [Cell.okWide, Cell.ok]
    all_goals simp_all [Cell.okWide, Cell.ok]
  all_goals rfl

theorem argsRep {base : Nat} : ∀ (ts : List TypeId) (ins : List (Bool × Ty)) (vs : List Value) (ds : List (DataW H)) (ps : List MemPlace), insOk P ts ins = true → DataW.TrodAll enc P W 0 (fun _ => true) true ts vs ds ps →
    (∀ (j : Nat) (t : TypeId) (v : Value), ts[j]? = some t → vs[j]? = some v → Value.okWide P W .any base t v) →
    ∃ cs dd, partVals (ins.map fun q => (q.1, q.2.cells.length)) vs cs ∧ All2 (fun d v => RepD (fun b _ => b < W.heap.size) W v d) dd cs ∧ dd.map (·.t) = (ins.map (·.2.cells)).flatten ∧ ∀ d ∈ dd, Wf d.t d.x
  | [], [], vs, ds, ps, h, hA, hv => by
    cases vs with
    | nil => exact ⟨[], [], rfl, .nil, rfl, fun d hd => by cases hd⟩
    | cons => simp [DataW.TrodAll] at hA
  | [], _ :: _, _, _, _, h, _, _ => by simp [insOk] at h
  | _ :: _, [], _, _, _, h, _, _ => by simp [insOk] at h
  | t :: ts, (ag, ty) :: r, vs, ds, ps, h, hA, hv => by
    match vs, ds, hA with
    | [], _, hA => simp [DataW.TrodAll] at hA
    | v :: vs, [], hA => simp [DataW.TrodAll] at hA
    | v :: vs, d :: ds, hA =>
      obtain ⟨p1, q1, ⟨m, h1⟩, h2, _⟩ := hA
      simp only [insOk, Bool.and_eq_true] at h
      obtain ⟨⟨⟨⟨⟨k1, k2⟩, k3⟩, _⟩, _⟩, k6⟩ := h
      split at k1
      · rename_i u hu
        simp only [decide_eq_true_eq] at k1
        subst k1
        obtain ⟨y, hy⟩ := trod_rep m 9 t u _ _ hu k3 h1
        obtain ⟨d1, j1, j2, j3⟩ := Rep.split _ _ _ hy
        obtain ⟨cs, dd, e1, e2, e3, e4⟩ := argsRep ts r vs ds q1 k6 h2 (fun j t v ht hv' => hv (j + 1) t v (by simpa using ht) (by simpa using hv'))
        have hv0 := hv 0 t v rfl rfl
        have hlen : v.cells.toList.length = u.cells.length := by rw [← j1.len, ← j2, List.length_map]
        refine ⟨v.cells.toList ++ cs, d1 ++ dd, ⟨v.cells.toList, cs, rfl, hlen, ?_, e1⟩, j1.app e2, by simp [j2, e3], fun d hd => ?_⟩
        · cases hag : isAgg' P t with
          | false =>
            rw [hag] at k2
            exact .inr ⟨by simpa using k2, cell_form (n := 8) hu hag hv0⟩
          | true =>
            rw [hag] at k2
            refine .inl ⟨by simpa using k2, ?_⟩
            unfold isAgg' at hag
            unfold Value.okWide at hv0
            split at hag
            · rename_i e; rw [e] at hv0; obtain ⟨c, rfl, _⟩ := hv0; simp [Value.cells]
            · rename_i e; rw [e] at hv0; obtain ⟨c, rfl, _⟩ := hv0; simp [Value.cells]
            · cases hag
        · rcases List.mem_append.1 hd with hd | hd
          · exact j3 d hd
          · exact e4 d hd
      · cases k1

theorem args_below {W' : World} (hl : laidOutB P = true) (hb : Below W.heap.size W W') : ∀ (ts : List TypeId) (ins : List (Bool × Ty)) (vs : List Value) (ds : List (DataW H)) (ps : List MemPlace), insOk P ts ins = true →
    DataW.TrodAll enc P W 0 (fun _ => true) true ts vs ds ps → (∀ x ∈ ps, x.block < W.heap.size) → DataW.TrodAll enc P W' 0 (fun b => decide (b < W.heap.size)) true ts vs ds ps
  | [], [], vs, ds, ps, h, hA, hp => by
    match vs, ds, hA with
    | [], [], hA => exact hA
    | [], _ :: _, hA => simp [DataW.TrodAll] at hA
    | _ :: _, _, hA => simp [DataW.TrodAll] at hA
  | [], _ :: _, _, _, _, h, _, _ => by simp [insOk] at h
  | _ :: _, [], _, _, _, h, _, _ => by simp [insOk] at h
  | t :: ts, (ag, ty) :: r, vs, ds, ps, h, hA, hp => by
    match vs, ds, hA with
    | [], _, hA => simp [DataW.TrodAll] at hA
    | v :: vs, [], hA => simp [DataW.TrodAll] at hA
    | v :: vs, d :: ds, hA =>
      obtain ⟨p1, q1, h1, h2, rfl⟩ := hA
      simp only [insOk, Bool.and_eq_true, decide_eq_true_eq] at h
      obtain ⟨⟨⟨⟨⟨_, _⟩, _⟩, k4⟩, k5⟩, k6⟩ := h
      exact ⟨p1, q1, Below.trod hl k4 k5 h1 hb (fun x hx => hp x (by simp [hx])), args_below hl hb ts r vs ds q1 k6 h2 (fun x hx => hp x (by simp [hx])), rfl⟩

theorem law_contract {f : FuncId} {fn : Func} {sig : Sig} {F : List D → Option (List D)} {rt : TypeId} {s : ChangeSpec} (hok : FnOk P f sig F) (hl : laidOutB P = true) (hin : insOk P fn.params.toList sig.ins = true)
    (hout : sig.outs = [(false, [(.bool, none)])]) (hres : fn.resultTypes = #[rt]) (hrt : P.underlying rt = some .bool)
    (hF : ∀ ds : List D, ds.map (·.t) = inL sig → (∀ d ∈ ds, Wf d.t d.x) → F ds = some [⟨.bool, true⟩])
    (hs : s.vars = []) (hfn : ∀ ds : List (DataW H), ds.length = fn.params.toList.length → s.fn H ds = { results := [.lit (.bool true)], args := ds })
    (base : Nat) (args : Array Value) (ds gs : List (DataW H)) (before : List MemPlace)
    (hval : ∀ (j : Nat) t v, fn.params[j]? = some t → args[j]? = some v → Value.okWide P W .any base t v)
    (hW : DataW.Whole enc P fn.params.toList s.vars false W args.toList ds gs before) :
    Calls P f args W fun e W' => ∃ v, e = .returned v ∧ s.post enc P fn false true false false W args v W' := by
  have hW' := hW
  obtain ⟨p, q, hA, hV, rfl, hfz, hnd⟩ := hW
  have hlt : ∀ x ∈ p, x.block < W.heap.size := fun x hx => hW'.lt x (by simp [hx])
  have hgs : gs = [] ∧ q = [] := by
    rw [hs] at hV
    cases gs with
    | nil => exact ⟨rfl, hV⟩
    | cons => simp [DataW.TrodVars] at hV
  obtain ⟨rfl, rfl⟩ := hgs
  have hlen : ds.length = fn.params.toList.length := by
    have : ∀ (ts : List TypeId) (vs : List Value) (ds : List (DataW H)) (ps : List MemPlace), DataW.TrodAll enc P W 0 (fun _ => true) true ts vs ds ps → ds.length = ts.length := by
      intro ts
      induction ts with
      | nil => intro vs ds ps h; cases vs <;> cases ds <;> simp_all [DataW.TrodAll]
      | cons t ts ih => 
        intro vs ds ps h
        cases vs with
        | nil => simp [DataW.TrodAll] at h
        | cons v vs =>
          cases ds with
          | nil => simp [DataW.TrodAll] at h
          | cons d ds =>
            obtain ⟨_, _, _, h2, _⟩ := h
            simp [ih _ _ _ h2]
    exact this _ _ _ _ hA
  obtain ⟨cs, dd, h1, h2, h3, h4⟩ := argsRep fn.params.toList sig.ins args.toList ds p hin hA (fun j t v ht hv => hval j t v (by simpa using ht) (by simpa using hv))
  have hcall := hok.2 W (fun b _ => b < W.heap.size) args.toList cs dd _ (fun b o h => h) h1 h2 h3 (hF dd h3 h4)
  rw [Array.toArray_toList] at hcall
  refine hcall.mono fun e W' ⟨v, he, p', us, cs', hr⟩ => ⟨v, he, ?_⟩
  obtain rfl : v = .bool true := by
    have hp := hr.parts
    rw [hout] at hp
    have hrep := hr.rep
    cases hrep with
    | cons k1 k2 =>
      cases k2
      rename_i u
      match us, hp with
      | [], hp => simp [partVals] at hp
      | u' :: us, hp =>
        simp only [List.map_cons, List.map_nil, partVals] at hp
        obtain ⟨c1, c2, e1, e2, e3, e4⟩ := hp
        rcases e3 with ⟨h, _⟩ | ⟨_, rfl⟩
        · cases h
        · match us, e4 with
          | [], e4 =>
            subst e4
            simp only [List.append_nil, List.cons.injEq, and_true] at e1
            subst e1
            have hval := hr.val
            simp only [resVal] at hval
            have k3 : Rep p' W' .bool [u] true := k1
            simp only [Rep, List.cons.injEq, and_true] at k3
            rw [hval, k3]
          | _ :: _, e4 => simp [partVals] at e4
  have hle := hfn (ds ++ []) (by simpa using hlen)
  refine ⟨ds, [], p ++ [], [], p, [], hW', ?_, ?_, ?_, hr.bel.frame _, fun h => by cases h⟩
  · rw [hle, hres]
    exact ⟨[], [], ⟨1, by simp [Value.cells, DataW.trod, hrt]⟩, rfl, rfl⟩
  · rw [hle, List.append_nil]
    exact args_below hl hr.bel _ _ _ _ _ hin hA hlt
  · rw [hle, hs]; rfl
end
end Go.Proofs.YtolcekkcenedjaaGreat.Sx

namespace Go.Proofs.YtolcekkcenedjaaGreat.Sx
open Go.RowKit

structure Ct where
  sig : Sig
  F : List D → Option (List D)

noncomputable def Phi (l : List Ct) : Nat → Cont := fun id R ds κ =>
  match look (l.map fun c => (c.sig.id, c)) id with
  | some c => match c.F ds with
    | some outs => if outs.map (·.t) = (outL c.sig).map (·.1) then κ outs else none
    | none => none
  | none => none

noncomputable def Fof (l : List Ct) (ir : IR) : List D → Option (List D) := fun ds => den (Phi l) ir (List D) 0 ds some (fun _ _ => none)

noncomputable def Gam (l : List (FuncId × Sig)) : FuncId → Option Sig := fun f => look l f

section
variable {P : Program}

theorem FnOk.mono {f : FuncId} {sig : Sig} {F G : List D → Option (List D)} (h : FnOk P f sig F) (hg : ∀ ds rs, G ds = some rs → F ds = some rs) : FnOk P f sig G :=
  ⟨h.1, fun w p vs cs ds rs h1 h2 h3 h4 h5 => h.2 w p vs cs ds rs h1 h2 h3 h4 (hg _ _ h5)⟩

inductive Good (P : Program) : List (FuncId × Ct) → Prop
  | nil : Good P []
  | cons {f : FuncId} {c : Ct} {l : List (FuncId × Ct)} : FnOk P f c.sig c.F → (∀ q ∈ l, q.2.sig.id ≠ c.sig.id) → Good P l → Good P ((f, c) :: l)

theorem look_mem' {α : Type} : ∀ (l : List (Nat × α)) (i : Nat) (x : α), look l i = some x → (i, x) ∈ l
  | [], i, x, h => by cases h
  | p :: l, i, x, h => by
    rw [look_cons] at h
    split at h
    · rename_i e; simp only [Option.some.injEq] at h; subst h; subst e; simp
    · exact List.mem_cons_of_mem _ (look_mem' l i x h)

theorem Good.fn {l : List (FuncId × Ct)} (h : Good P l) : ∀ q ∈ l, FnOk P q.1 q.2.sig q.2.F := by
  induction h with
  | nil => intro q hq; cases hq
  | cons h1 _ _ ih =>
    intro q hq
    rcases List.mem_cons.1 hq with rfl | hq
    · exact h1
    · exact ih q hq

theorem Good.lk {l : List (FuncId × Ct)} (h : Good P l) : ∀ q ∈ l, look (l.map fun c => (c.2.sig.id, c.2)) q.2.sig.id = some q.2 := by
  induction h with
  | nil => intro q hq; cases hq
  | cons h1 h2 _ ih =>
    rename_i f c l
    intro q hq
    rw [List.map_cons, look_cons]
    rcases List.mem_cons.1 hq with rfl | hq
    · rw [if_pos rfl]
    · rw [if_neg (fun e => h2 q hq e.symm)]; exact ih q hq

theorem Good.ok {l : List (FuncId × Ct)} (h : Good P l) {inl : FuncId → Bool} {nop : Bool} {unr : Nat → Bool} {mt : FuncId → Bool} : ΦOk ⟨P, Gam (l.map fun q => (q.1, q.2.sig)), inl, nop, unr, mt, fun _ _ => none⟩ (Phi (l.map (·.2))) := by
  refine ⟨?_, fun f g id h => by cases h⟩
  intro f sig hs
  have hs' : look (l.map fun q => (q.1, q.2.sig)) f = some sig := hs
  obtain ⟨q, hq, e⟩ := List.mem_map.1 (look_mem' _ _ _ hs')
  simp only [Prod.mk.injEq] at e
  obtain ⟨rfl, rfl⟩ := e
  have hl := h.lk q hq
  have hP : ∀ (R : Type) (ds : List D) (κ : List D → Option R), Phi (l.map (·.2)) q.2.sig.id R ds κ = match q.2.F ds with
      | some outs => if outs.map (·.t) = (outL q.2.sig).map (·.1) then κ outs else none
      | none => none := by
    intro R ds κ
    unfold Phi
    rw [List.map_map]
    simp only [Function.comp_def]
    rw [hl]
  refine ⟨(h.fn q hq).mono fun ds rs hr => ?_, fun R ds κ r hr => ?_⟩
  · rw [hP] at hr
    split at hr
    · rename_i outs ho
      split at hr
      · rw [ho]; exact hr
      · cases hr
    · cases hr
  · rw [hP] at hr
    simp only [hP]
    split at hr
    · rename_i outs ho
      split at hr
      · rename_i ht
        exact ⟨outs, by rw [if_pos ht], hr, ht⟩
      · cases hr
    · cases hr

theorem ok_of (hm : P.follows .mixedOrders = true) {l : List (FuncId × Ct)} (h : Good P l) {inl : FuncId → Bool} {f : FuncId} {sig : Sig} {ir : IR} {nop : Bool} {unr : Nat → Bool} {mt : FuncId → Bool}
    (hs : sx ⟨P, Gam (l.map fun q => (q.1, q.2.sig)), inl, nop, unr, mt, fun _ _ => none⟩ f sig = some ir) : FnOk P f sig (Fof (l.map (·.2)) ir) := by
  have h1 := h.ok (inl := inl) (nop := nop) (unr := unr) (mt := mt)
  have h2 := sx_ok h1 hm hs
  unfold Fof
  exact h2

structure MFn (P : Program) (f g : FuncId) (c : Ct) : Prop where
  fn : ∃ fn b, P.funcs[f]? = some fn ∧ fn.body = some b ∧ (fn.name == "runtime.NumGoroutine") = false
  out : (outL c.sig).length = 1
  ok : ∀ (w : World) (B : Nat) (e : TypeId) (t : Ty) (v : Value) (n : Nat) (xs : List Value) (ys : List t.den) (outs : List D), w.ownsRow B e t.width v n xs → Flats t xs ys → ys.length = n →
    c.F [⟨.sl t, ys⟩] = some outs →
    Calls P f #[v, .func (.func g) #[] #[]] w fun en w' => en = .returned (.tuple #[]) ∧ w.grownBy w' v.ownBlock ∧
      ∃ (zs : List t.den) (xs' : List Value), outs = [⟨.sl t, zs⟩] ∧ w'.ownsRow B e t.width v n xs' ∧ zs.length = n ∧ Flats t xs' zs

noncomputable def Frec (sig : Sig) (l : List Ct) (ir : IR) : Nat → List D → Option (List D)
  | 0 => fun _ => none
  | n + 1 => Fof (⟨sig, Frec sig l ir n⟩ :: l) ir

theorem ok_rec (hm : P.follows .mixedOrders = true) {l : List (FuncId × Ct)} (h : Good P l) {inl : FuncId → Bool} {f : FuncId} {sig : Sig} {ir : IR} (hn : ∀ q ∈ l, q.2.sig.id ≠ sig.id)
    (hb : ∃ fn c, P.funcs[f]? = some fn ∧ fn.body = some c ∧ (fn.name == "runtime.NumGoroutine") = false)
    (hs : sx ⟨P, Gam ((f, sig) :: l.map fun q => (q.1, q.2.sig)), inl, false, fun _ => false, fun _ => false, fun _ _ => none⟩ f sig = some ir) : ∀ n, FnOk P f sig (Frec sig (l.map (·.2)) ir n)
  | 0 => ⟨hb, fun w p vs cs ds rs _ _ _ _ h => by cases h⟩
  | n + 1 => by
    have h1 : Good P ((f, ⟨sig, Frec sig (l.map (·.2)) ir n⟩) :: l) := .cons (ok_rec hm h hn hb hs n) hn h
    have h2 := ok_of hm h1 (inl := inl) (sig := sig) (ir := ir) (nop := false) (unr := fun _ => false) (mt := fun _ => false) hs
    simp only [Frec]
    exact h2

theorem FnOk.any {f : FuncId} {sig : Sig} {F : Nat → List D → Option (List D)} (h : ∀ n, FnOk P f sig (F n)) {G : List D → Option (List D)} (hg : ∀ ds rs, G ds = some rs → ∃ n, F n ds = some rs) : FnOk P f sig G :=
  ⟨(h 0).1, fun w p vs cs ds rs h1 h2 h3 h4 h5 => by
    obtain ⟨n, hn⟩ := hg _ _ h5
    exact (h n).2 w p vs cs ds rs h1 h2 h3 h4 hn⟩
end

theorem Good.add {P : Program} {f : FuncId} {c : Ct} {l : List (FuncId × Ct)} (h : FnOk P f c.sig c.F) (hn : (l.all fun q => !Nat.beq q.2.sig.id c.sig.id) = true) (hl : Good P l) : Good P ((f, c) :: l) := by
  refine .cons h (fun q hq e => ?_) hl
  have := List.all_eq_true.1 hn q hq
  rw [e] at this
  simp at this

theorem iter_meas {σ R : Type} {step : σ → Option (LS σ R)} (μ : σ → Nat) (f : σ → R) (I : σ → Prop) {s : σ} (hI : I s)
    (h : ∀ s, I s → (∃ s', step s = some (.again s') ∧ I s' ∧ μ s' < μ s ∧ f s' = f s) ∨ step s = some (.out (f s))) : iter step s = some (f s) := by
  have key : ∀ n s, μ s ≤ n → I s → iter step s = some (f s) := by
    intro n
    induction n with
    | zero =>
      intro s hs hI
      rw [iter_eq]
      rcases h s hI with ⟨s', h1, h2, h3, h4⟩ | h1
      · omega
      · rw [h1]
    | succ n ih =>
      intro s hs hI
      rw [iter_eq]
      rcases h s hI with ⟨s', h1, h2, h3, h4⟩ | h1
      · rw [h1]; simp only; rw [← h4]; exact ih s' (by omega) h2
      · rw [h1]
  exact key _ s (Nat.le_refl _) hI

theorem iter_again {σ R : Type} {step : σ → Option (LS σ R)} {s s' : σ} (h : step s = some (.again s')) : iter step s = iter step s' := by rw [iter_eq, h]
theorem iter_out {σ R : Type} {step : σ → Option (LS σ R)} {s : σ} {r : R} (h : step s = some (.out r)) : iter step s = some r := by rw [iter_eq, h]

theorem Phi_call {l : List Ct} {id : Nat} {c : Ct} (hl : look (l.map fun c => (c.sig.id, c)) id = some c) {R : Type} {ds outs : List D} {κ : List D → Option R} (hF : c.F ds = some outs)
    (ht : outs.map (·.t) = (outL c.sig).map (·.1)) : Phi l id R ds κ = κ outs := by
  unfold Phi; rw [hl]; simp only [hF, if_pos ht]
end Go.Proofs.YtolcekkcenedjaaGreat.Sx

namespace Go.Proofs.YtolcekkcenedjaaGreat.Sx

def lkE : List (Nat × D) → Nat → Option D
  | [], _ => none
  | (j, d) :: r, i => if j = i then some d else lkE r i
def pushL : Nat → List (Nat × D) → List D → List (Nat × D)
  | _, ρ, [] => ρ
  | n, ρ, d :: r => pushL (n + 1) ((n, d) :: ρ) r
def evC (ρ : List (Nat × D)) : A → Option D
  | .v i => lkE ρ i | .l c => some c.d
def evB (ρ : List (Nat × D)) : List A → Option (List D)
  | [] => some []
  | a :: r => match evC ρ a with
    | some d => (match evB ρ r with
      | some ds => some (d :: ds)
      | none => none)
    | none => none

noncomputable def deb (Φ : Nat → Cont) : IR → (R : Type) → Nat → Nat → List (Nat × D) → (List D → Option R) → (Nat → List D → Option R) → Option R
  | .ret outs, R, lv, n, ρ, kr, kj => match evB ρ outs with | some ds => kr ds | none => none
  | .jump l outs, R, lv, n, ρ, kr, kj => match evB ρ outs with | some ds => kj l ds | none => none
  | .op p xs k, R, lv, n, ρ, kr, kj => match evB ρ xs with
    | some ds => evalPr Φ p ds fun out => deb Φ k R lv (n + out.length) (pushL n ρ out) kr kj
    | none => none
  | .ite c a b, R, lv, n, ρ, kr, kj => match evC ρ c with
    | some ⟨.bool, x⟩ => if x = true then deb Φ a R lv n ρ kr kj else deb Φ b R lv n ρ kr kj
    | _ => none
  | .loop init tys body, R, lv, n, ρ, kr, kj => match evB ρ init with
    | some ds => match toTup tys ds with
      | some s => iter (fun s => deb Φ body (LS (pairs tys).den R) (lv + 1) (n + (split (pairs tys) s).length) (pushL n ρ (split (pairs tys) s))
          (fun ds => (kr ds).map .out)
          (fun l ds => if l = lv then (toTup tys ds).map .again else (kj l ds).map .out)) s
      | none => none
    | none => none
  | .nilc c a b, R, lv, n, ρ, kr, kj => match evC ρ c with
    | some ⟨.sl _, xs⟩ => if xs.isEmpty = true then eqO (deb Φ a R lv n ρ kr kj) (deb Φ b R lv n ρ kr kj) else deb Φ b R lv n ρ kr kj
    | _ => none
  | .fail, R, lv, n, ρ, kr, kj => none

structure EnvB (n : Nat) (ρ : List (Nat × D)) (L : List D) : Prop where
  len : n = L.length
  get : ∀ i, lkE ρ i = nth L i

theorem EnvB.push : ∀ (out : List D) {n : Nat} {ρ : List (Nat × D)} {L : List D}, EnvB n ρ L → EnvB (n + out.length) (pushL n ρ out) (L ++ out)
  | [], n, ρ, L, h => by simpa [pushL] using h
  | d :: out, n, ρ, L, h => by
    have h1 : EnvB (n + 1) ((n, d) :: ρ) (L ++ [d]) := by
      refine ⟨by simp [h.len], fun i => ?_⟩
      rw [lkE, nth_eq, h.get, nth_eq]
      split
      · rename_i e
        rw [← e, h.len, List.getElem?_append_right (Nat.le_refl _)]; simp
      · rename_i e
        rw [h.len] at e
        rw [List.getElem?_append]
        split
        · rfl
        · rw [List.getElem?_eq_none (by omega), List.getElem?_eq_none (by simp; omega)]
    have := EnvB.push out h1
    simp only [List.length_cons, pushL]
    rw [show n + (out.length + 1) = n + 1 + out.length by omega, show L ++ d :: out = L ++ [d] ++ out by simp]
    exact this

theorem EnvB.evC {n : Nat} {ρ : List (Nat × D)} {L : List D} (h : EnvB n ρ L) (a : A) : evC ρ a = a.ev L := by
  cases a with
  | v i => exact h.get i
  | l c => rfl
theorem EnvB.evB {n : Nat} {ρ : List (Nat × D)} {L : List D} (h : EnvB n ρ L) : ∀ xs : List A, evB ρ xs = evs L xs
  | [] => rfl
  | a :: r => by
    simp only [Sx.evB, evs, h.evC, h.evB r]
    rfl

theorem deb_den (Φ : Nat → Cont) : ∀ (ir : IR) (R : Type) (lv n : Nat) (ρ : List (Nat × D)) (L : List D) (kr : List D → Option R) (kj : Nat → List D → Option R), EnvB n ρ L → deb Φ ir R lv n ρ kr kj = den Φ ir R lv L kr kj
  | .ret outs, R, lv, n, ρ, L, kr, kj, h => by simp only [deb, den, h.evB]; rfl
  | .jump l outs, R, lv, n, ρ, L, kr, kj, h => by simp only [deb, den, h.evB]; rfl
  | .op p xs k, R, lv, n, ρ, L, kr, kj, h => by
    simp only [deb, den, h.evB]
    cases evs L xs with
    | none => rfl
    | some ds =>
      show evalPr Φ p ds _ = evalPr Φ p ds _
      congr 1
      funext out
      exact deb_den Φ k R lv _ _ _ kr kj (h.push out)
  | .ite c a b, R, lv, n, ρ, L, kr, kj, h => by
    simp only [deb, den, h.evC, deb_den Φ a R lv n ρ L kr kj h, deb_den Φ b R lv n ρ L kr kj h]
    rfl
  | .loop init tys body, R, lv, n, ρ, L, kr, kj, h => by
    simp only [deb, den, h.evB]
    cases evs L init with
    | none => rfl
    | some ds =>
      show (match toTup tys ds with | some s => iter _ s | none => none) = (match toTup tys ds with | some s => iter _ s | none => none)
      cases toTup tys ds with
      | none => rfl
      | some s =>
        show iter _ s = iter _ s
        congr 1
        funext s
        exact deb_den Φ body _ _ _ _ _ _ _ (h.push _)
  | .nilc c a b, R, lv, n, ρ, L, kr, kj, h => by
    simp only [deb, den, h.evC, deb_den Φ a R lv n ρ L kr kj h, deb_den Φ b R lv n ρ L kr kj h]
    rfl
  | .fail, R, lv, n, ρ, L, kr, kj, h => rfl

theorem den_start (Φ : Nat → Cont) (ir : IR) (R : Type) (L : List D) (kr : List D → Option R) (kj : Nat → List D → Option R) : den Φ ir R 0 L kr kj = deb Φ ir R 0 L.length (pushL 0 [] L) kr kj := by
  have h0 : EnvB 0 [] [] := ⟨rfl, fun i => rfl⟩
  have := h0.push L
  simp only [Nat.zero_add, List.nil_append] at this
  exact (deb_den Φ ir R 0 _ _ L kr kj this).symm

noncomputable def debP (Φ : Nat → Cont) (k : IR) (R : Type) (lv n : Nat) (ρ : List (Nat × D)) (out : List D) (kr : List D → Option R) (kj : Nat → List D → Option R) : Option R := deb Φ k R lv (n + out.length) (pushL n ρ out) kr kj
noncomputable def opD (Φ : Nat → Cont) (p : Pr) (ds : List D) (k : IR) (R : Type) (lv n : Nat) (ρ : List (Nat × D)) (kr : List D → Option R) (kj : Nat → List D → Option R) : Option R :=
  evalPr Φ p ds fun out => debP Φ k R lv n ρ out kr kj
noncomputable def opE (Φ : Nat → Cont) (p : Pr) (o : Option (List D)) (k : IR) (R : Type) (lv n : Nat) (ρ : List (Nat × D)) (kr : List D → Option R) (kj : Nat → List D → Option R) : Option R :=
  match o with | some ds => opD Φ p ds k R lv n ρ kr kj | none => none
noncomputable def nilE {R : Type} (c : Option D) (a b : Option R) : Option R := match c with | some ⟨.sl _, xs⟩ => if xs.isEmpty = true then eqO a b else b | _ => none
noncomputable def retE {R : Type} (o : Option (List D)) (kr : List D → Option R) : Option R := match o with | some ds => kr ds | none => none
noncomputable def iteE {R : Type} (c : Option D) (a b : Option R) : Option R := match c with | some ⟨.bool, x⟩ => if x = true then a else b | _ => none
noncomputable def consE (a : Option D) (b : Option (List D)) : Option (List D) := match a with | some d => (match b with | some ds => some (d :: ds) | none => none) | none => none
noncomputable def loopE {R : Type} (Φ : Nat → Cont) (o : Option (List D)) (tys : List Ty) (body : IR) (lv n : Nat) (ρ : List (Nat × D)) (kr : List D → Option R) (kj : Nat → List D → Option R) : Option R :=
  match o with
  | some ds => match toTup tys ds with
    | some s => iter (fun s => deb Φ body (LS (pairs tys).den R) (lv + 1) (n + (split (pairs tys) s).length) (pushL n ρ (split (pairs tys) s))
          (fun ds => (kr ds).map .out)
          (fun l ds => if l = lv then (toTup tys ds).map .again else (kj l ds).map .out)) s
    | none => none
  | none => none

section
variable {Φ : Nat → Cont} {R : Type} {lv n : Nat} {ρ : List (Nat × D)} {kr : List D → Option R} {kj : Nat → List D → Option R} {k : IR}

@[congr] theorem iteE_cg {c c' : Option D} {a b : Option R} (h : c = c') : iteE c a b = iteE c' a b := by rw [h]
@[congr] theorem nilE_cg {c c' : Option D} {a b : Option R} (h : c = c') : nilE c a b = nilE c' a b := by rw [h]
@[congr] theorem opE_cg {p : Pr} {o o' : Option (List D)} (h : o = o') : opE Φ p o k R lv n ρ kr kj = opE Φ p o' k R lv n ρ kr kj := by rw [h]
@[congr] theorem opD_cg {p : Pr} {ds ds' : List D} (h : ds = ds') : opD Φ p ds k R lv n ρ kr kj = opD Φ p ds' k R lv n ρ kr kj := by rw [h]
@[congr] theorem debP_cg {o o' : List D} (h : o = o') : debP Φ k R lv n ρ o kr kj = debP Φ k R lv n ρ o' kr kj := by rw [h]
@[congr] theorem retE_cg {o o' : Option (List D)} (h : o = o') : retE o kr = retE o' kr := by rw [h]
@[congr] theorem loopE_cg {o o' : Option (List D)} {tys : List Ty} {body : IR} (h : o = o') : loopE Φ o tys body lv n ρ kr kj = loopE Φ o' tys body lv n ρ kr kj := by rw [h]
theorem deb_op (p : Pr) (xs : List A) : deb Φ (.op p xs k) R lv n ρ kr kj = opE Φ p (evB ρ xs) k R lv n ρ kr kj := rfl
theorem deb_ret (xs : List A) : deb Φ (.ret xs) R lv n ρ kr kj = retE (evB ρ xs) kr := rfl
theorem deb_jump (l : Nat) (xs : List A) : deb Φ (.jump l xs) R lv n ρ kr kj = retE (evB ρ xs) (kj l) := rfl
theorem deb_itev (i : Nat) (a b : IR) : deb Φ (.ite (.v i) a b) R lv n ρ kr kj = iteE (lkE ρ i) (deb Φ a R lv n ρ kr kj) (deb Φ b R lv n ρ kr kj) := rfl
theorem deb_loop (init : List A) (tys : List Ty) (body : IR) : deb Φ (.loop init tys body) R lv n ρ kr kj = loopE Φ (evB ρ init) tys body lv n ρ kr kj := rfl
theorem deb_nilcv (i : Nat) (a b : IR) : deb Φ (.nilc (.v i) a b) R lv n ρ kr kj = nilE (lkE ρ i) (deb Φ a R lv n ρ kr kj) (deb Φ b R lv n ρ kr kj) := rfl
theorem nilE_some (e : Ty) (xs : List e.den) (a b : Option R) : nilE (some ⟨.sl e, xs⟩) a b = if xs = [] then eqO a b else b := by
  cases xs <;> simp [nilE]
theorem opE_some (p : Pr) (ds : List D) : opE Φ p (some ds) k R lv n ρ kr kj = opD Φ p ds k R lv n ρ kr kj := rfl
theorem debP_nil : debP Φ k R lv n ρ [] kr kj = deb Φ k R lv n ρ kr kj := rfl
theorem debP_cons (d : D) (out : List D) : debP Φ k R lv n ρ (d :: out) kr kj = debP Φ k R lv (n + 1) ((n, d) :: ρ) out kr kj := by
  simp only [debP, List.length_cons, pushL, Nat.add_assoc, Nat.add_comm 1]
theorem pushL_nil : pushL n ρ [] = ρ := rfl
theorem pushL_cons (d : D) (r : List D) : pushL n ρ (d :: r) = pushL (n + 1) ((n, d) :: ρ) r := rfl
theorem retE_some (ds : List D) : retE (some ds) kr = kr ds := rfl
theorem iteE_some (x : Bool) (a b : Option R) : iteE (some ⟨.bool, x⟩) a b = if x = true then a else b := rfl
theorem evB_nil : evB ρ [] = some [] := rfl
theorem evB_v (i : Nat) (r : List A) : evB ρ (.v i :: r) = consE (lkE ρ i) (evB ρ r) := rfl
theorem evB_l (c : L) (r : List A) : evB ρ (.l c :: r) = consE (some c.d) (evB ρ r) := rfl
theorem lkE_cons (j i : Nat) (d : D) : lkE ((j, d) :: ρ) i = if j = i then some d else lkE ρ i := rfl
theorem consE_some (d : D) (ds : List D) : consE (some d) (some ds) = some (d :: ds) := rfl
theorem d_int (i : IntKind) (n : Int) : (L.int i n).d = ⟨.int i, n⟩ := rfl
theorem d_bool (b : Bool) : (L.bool b).d = ⟨.bool, b⟩ := rfl
theorem d_str (l : List Int) : (L.str l).d = ⟨.str, l⟩ := rfl
theorem d_nil (e : Ty) : (L.nil e).d = ⟨.sl e, ([] : List e.den)⟩ := rfl

variable {k1 k2 k3 : IntKind}
theorem o_add (i : IntKind) (x y : Int) : opD Φ (.ibin .add i) [⟨.int k1, x⟩, ⟨.int k2, y⟩] k R lv n ρ kr kj = deb Φ k R lv (n + 1) ((n, ⟨.int i, i.wrap (x + y)⟩) :: ρ) kr kj := rfl
theorem o_sub (i : IntKind) (x y : Int) : opD Φ (.ibin .sub i) [⟨.int k1, x⟩, ⟨.int k2, y⟩] k R lv n ρ kr kj = deb Φ k R lv (n + 1) ((n, ⟨.int i, i.wrap (x - y)⟩) :: ρ) kr kj := rfl
theorem o_mul (i : IntKind) (x y : Int) : opD Φ (.ibin .mul i) [⟨.int k1, x⟩, ⟨.int k2, y⟩] k R lv n ρ kr kj = deb Φ k R lv (n + 1) ((n, ⟨.int i, i.wrap (x * y)⟩) :: ρ) kr kj := rfl
theorem o_and (i : IntKind) (x y : Int) : opD Φ (.ibin .and i) [⟨.int k1, x⟩, ⟨.int k2, y⟩] k R lv n ρ kr kj = deb Φ k R lv (n + 1) ((n, ⟨.int i, bAnd i x y⟩) :: ρ) kr kj := rfl
theorem o_or (i : IntKind) (x y : Int) : opD Φ (.ibin .or i) [⟨.int k1, x⟩, ⟨.int k2, y⟩] k R lv n ρ kr kj = deb Φ k R lv (n + 1) ((n, ⟨.int i, bOr i x y⟩) :: ρ) kr kj := rfl
theorem o_xor (i : IntKind) (x y : Int) : opD Φ (.ibin .xor i) [⟨.int k1, x⟩, ⟨.int k2, y⟩] k R lv n ρ kr kj = deb Φ k R lv (n + 1) ((n, ⟨.int i, bXor i x y⟩) :: ρ) kr kj := rfl
theorem o_andNot (i : IntKind) (x y : Int) : opD Φ (.ibin .andNot i) [⟨.int k1, x⟩, ⟨.int k2, y⟩] k R lv n ρ kr kj = deb Φ k R lv (n + 1) ((n, ⟨.int i, bAndNot i x y⟩) :: ρ) kr kj := rfl
theorem o_quo (i : IntKind) (x y : Int) : opD Φ (.ibin .quo i) [⟨.int k1, x⟩, ⟨.int k2, y⟩] k R lv n ρ kr kj = if y = 0 then none else deb Φ k R lv (n + 1) ((n, ⟨.int i, i.wrap (x.tdiv y)⟩) :: ρ) kr kj := rfl
theorem o_rem (i : IntKind) (x y : Int) : opD Φ (.ibin .rem i) [⟨.int k1, x⟩, ⟨.int k2, y⟩] k R lv n ρ kr kj = if y = 0 then none else deb Φ k R lv (n + 1) ((n, ⟨.int i, x.tmod y⟩) :: ρ) kr kj := rfl
theorem o_shl (i : IntKind) (x y : Int) : opD Φ (.ibin .shl i) [⟨.int k1, x⟩, ⟨.int k2, y⟩] k R lv n ρ kr kj = if y < 0 then none else deb Φ k R lv (n + 1) ((n, ⟨.int i, i.wrap (x * 2 ^ (Nat.min y.toNat i.bits))⟩) :: ρ) kr kj := rfl
theorem o_shr (i : IntKind) (x y : Int) : opD Φ (.ibin .shr i) [⟨.int k1, x⟩, ⟨.int k2, y⟩] k R lv n ρ kr kj = if y < 0 then none else deb Φ k R lv (n + 1) ((n, ⟨.int i, x.fdiv (2 ^ (Nat.min y.toNat i.bits))⟩) :: ρ) kr kj := rfl
theorem o_eql (x y : Int) : opD Φ (.icmp .eql) [⟨.int k1, x⟩, ⟨.int k2, y⟩] k R lv n ρ kr kj = deb Φ k R lv (n + 1) ((n, ⟨.bool, decide (x = y)⟩) :: ρ) kr kj := rfl
theorem o_neq (x y : Int) : opD Φ (.icmp .neq) [⟨.int k1, x⟩, ⟨.int k2, y⟩] k R lv n ρ kr kj = deb Φ k R lv (n + 1) ((n, ⟨.bool, !decide (x = y)⟩) :: ρ) kr kj := rfl
theorem o_lss (x y : Int) : opD Φ (.icmp .lss) [⟨.int k1, x⟩, ⟨.int k2, y⟩] k R lv n ρ kr kj = deb Φ k R lv (n + 1) ((n, ⟨.bool, decide (x < y)⟩) :: ρ) kr kj := rfl
theorem o_leq (x y : Int) : opD Φ (.icmp .leq) [⟨.int k1, x⟩, ⟨.int k2, y⟩] k R lv n ρ kr kj = deb Φ k R lv (n + 1) ((n, ⟨.bool, decide (x ≤ y)⟩) :: ρ) kr kj := rfl
theorem o_gtr (x y : Int) : opD Φ (.icmp .gtr) [⟨.int k1, x⟩, ⟨.int k2, y⟩] k R lv n ρ kr kj = deb Φ k R lv (n + 1) ((n, ⟨.bool, decide (y < x)⟩) :: ρ) kr kj := rfl
theorem o_geq (x y : Int) : opD Φ (.icmp .geq) [⟨.int k1, x⟩, ⟨.int k2, y⟩] k R lv n ρ kr kj = deb Φ k R lv (n + 1) ((n, ⟨.bool, decide (y ≤ x)⟩) :: ρ) kr kj := rfl
theorem o_seql (x y : List Int) : opD Φ (.scmp .eql) [⟨.str, x⟩, ⟨.str, y⟩] k R lv n ρ kr kj = deb Φ k R lv (n + 1) ((n, ⟨.bool, decide (x = y)⟩) :: ρ) kr kj := rfl
theorem o_sneq (x y : List Int) : opD Φ (.scmp .neq) [⟨.str, x⟩, ⟨.str, y⟩] k R lv n ρ kr kj = deb Φ k R lv (n + 1) ((n, ⟨.bool, !decide (x = y)⟩) :: ρ) kr kj := rfl
theorem o_slss (x y : List Int) : opD Φ (.scmp .lss) [⟨.str, x⟩, ⟨.str, y⟩] k R lv n ρ kr kj = deb Φ k R lv (n + 1) ((n, ⟨.bool, ltL x y⟩) :: ρ) kr kj := rfl
theorem o_sleq (x y : List Int) : opD Φ (.scmp .leq) [⟨.str, x⟩, ⟨.str, y⟩] k R lv n ρ kr kj = deb Φ k R lv (n + 1) ((n, ⟨.bool, ltL x y || decide (x = y)⟩) :: ρ) kr kj := rfl
theorem o_sgeq (x y : List Int) : opD Φ (.scmp .geq) [⟨.str, x⟩, ⟨.str, y⟩] k R lv n ρ kr kj = deb Φ k R lv (n + 1) ((n, ⟨.bool, !ltL x y⟩) :: ρ) kr kj := rfl
theorem o_beql (x y : Bool) : opD Φ (.bcmp .eql) [⟨.bool, x⟩, ⟨.bool, y⟩] k R lv n ρ kr kj = deb Φ k R lv (n + 1) ((n, ⟨.bool, x == y⟩) :: ρ) kr kj := rfl
theorem o_scat (x y : List Int) : opD Φ .scat [⟨.str, x⟩, ⟨.str, y⟩] k R lv n ρ kr kj = if x.length + y.length ≤ BIG then deb Φ k R lv (n + 1) ((n, ⟨.str, x ++ y⟩) :: ρ) kr kj else none := rfl
theorem o_not (x : Bool) : opD Φ .not [⟨.bool, x⟩] k R lv n ρ kr kj = deb Φ k R lv (n + 1) ((n, ⟨.bool, !x⟩) :: ρ) kr kj := rfl
theorem o_neg (i : IntKind) (x : Int) : opD Φ (.neg i) [⟨.int k1, x⟩] k R lv n ρ kr kj = deb Φ k R lv (n + 1) ((n, ⟨.int i, i.wrap (0 - x)⟩) :: ρ) kr kj := rfl
theorem o_com (i : IntKind) (x : Int) : opD Φ (.com i) [⟨.int k1, x⟩] k R lv n ρ kr kj = deb Φ k R lv (n + 1) ((n, ⟨.int i, bXor i (if i.signed then -1 else i.max) x⟩) :: ρ) kr kj := rfl
theorem o_conv (i : IntKind) (x : Int) : opD Φ (.conv i) [⟨.int k1, x⟩] k R lv n ρ kr kj = deb Φ k R lv (n + 1) ((n, ⟨.int i, i.wrap x⟩) :: ρ) kr kj := rfl
theorem o_s2b (x : List Int) : opD Φ .s2b [⟨.str, x⟩] k R lv n ρ kr kj = deb Φ k R lv (n + 1) ((n, ⟨.sl (.int .u8), x⟩) :: ρ) kr kj := rfl
theorem o_b2s (x : List Int) : opD Φ .b2s [⟨.sl (.int .u8), x⟩] k R lv n ρ kr kj = deb Φ k R lv (n + 1) ((n, ⟨.str, x⟩) :: ρ) kr kj := rfl
theorem o_len (e : Ty) (xs : List e.den) : opD Φ .len [⟨.sl e, xs⟩] k R lv n ρ kr kj = deb Φ k R lv (n + 1) ((n, ⟨.int .i64, (xs.length : Int)⟩) :: ρ) kr kj := rfl
theorem o_slen (xs : List Int) : opD Φ .len [⟨.str, xs⟩] k R lv n ρ kr kj = deb Φ k R lv (n + 1) ((n, ⟨.int .i64, (xs.length : Int)⟩) :: ρ) kr kj := rfl
theorem o_inb (e : Ty) (xs : List e.den) (i : Int) : opD Φ .inb [⟨.sl e, xs⟩, ⟨.int k1, i⟩] k R lv n ρ kr kj = if 0 ≤ i ∧ i < (xs.length : Int) then deb Φ k R lv n ρ kr kj else none := rfl
theorem o_idx (e : Ty) (xs : List e.den) (i : Int) : opD Φ (.idx e) [⟨.sl e, xs⟩, ⟨.int k1, i⟩] k R lv n ρ kr kj = debP Φ k R lv n ρ (split e (xs.getD i.toNat (dflt e))) kr kj := by
  simp [opD, evalPr]
theorem o_sidx (xs : List Int) (i : Int) : opD Φ .sidx [⟨.str, xs⟩, ⟨.int k1, i⟩] k R lv n ρ kr kj = if 0 ≤ i ∧ i < (xs.length : Int) then deb Φ k R lv (n + 1) ((n, ⟨.int .u8, xs.getD i.toNat 0⟩) :: ρ) kr kj else none := rfl
theorem o_sub3 (e : Ty) (xs : List e.den) (lo hi : Int) : opD Φ .sub [⟨.sl e, xs⟩, ⟨.int k1, lo⟩, ⟨.int k2, hi⟩] k R lv n ρ kr kj =
    if 0 ≤ lo ∧ lo ≤ hi ∧ hi ≤ (xs.length : Int) then deb Φ k R lv (n + 1) ((n, ⟨.sl e, (xs.take hi.toNat).drop lo.toNat⟩) :: ρ) kr kj else none := rfl
theorem o_sub2 (e : Ty) (xs : List e.den) (lo : Int) : opD Φ .sub [⟨.sl e, xs⟩, ⟨.int k1, lo⟩] k R lv n ρ kr kj =
    if 0 ≤ lo ∧ lo ≤ (xs.length : Int) then deb Φ k R lv (n + 1) ((n, ⟨.sl e, xs.drop lo.toNat⟩) :: ρ) kr kj else none := rfl
theorem o_ssub3 (xs : List Int) (lo hi : Int) : opD Φ .ssub [⟨.str, xs⟩, ⟨.int k1, lo⟩, ⟨.int k2, hi⟩] k R lv n ρ kr kj =
    if 0 ≤ lo ∧ lo ≤ hi ∧ hi ≤ (xs.length : Int) then deb Φ k R lv (n + 1) ((n, ⟨.str, (xs.take hi.toNat).drop lo.toNat⟩) :: ρ) kr kj else none := rfl
theorem o_ssub2 (xs : List Int) (lo : Int) : opD Φ .ssub [⟨.str, xs⟩, ⟨.int k1, lo⟩] k R lv n ρ kr kj =
    if 0 ≤ lo ∧ lo ≤ (xs.length : Int) then deb Φ k R lv (n + 1) ((n, ⟨.str, xs.drop lo.toNat⟩) :: ρ) kr kj else none := rfl
theorem o_app (e : Ty) (xs ys : List e.den) : opD Φ .app [⟨.sl e, xs⟩, ⟨.sl e, ys⟩] k R lv n ρ kr kj =
    if xs.length + ys.length ≤ BIG then deb Φ k R lv (n + 1) ((n, ⟨.sl e, xs ++ ys⟩) :: ρ) kr kj else none := by
  simp only [opD, evalPr, D.get, dif_pos]
  rfl
theorem o_mkz (e : Ty) (x : Int) : opD Φ (.mkz e) [⟨.int k1, x⟩] k R lv n ρ kr kj =
    if 0 ≤ x ∧ x ≤ 1099511627776 then deb Φ k R lv (n + 1) ((n, ⟨.sl e, List.replicate x.toNat (dflt e)⟩) :: ρ) kr kj else none := rfl
theorem o_ful (e : Ty) (xs : List e.den) (lo hi mx : Int) : opD Φ .ful [⟨.sl e, xs⟩, ⟨.int k1, lo⟩, ⟨.int k2, hi⟩, ⟨.int k3, mx⟩] k R lv n ρ kr kj =
    if 0 ≤ lo ∧ lo ≤ hi ∧ hi ≤ (xs.length : Int) ∧ mx = hi then deb Φ k R lv (n + 1) ((n, ⟨.sl e, (xs.take hi.toNat).drop lo.toNat⟩) :: ρ) kr kj else none := rfl
theorem o_apps (xs ys : List Int) : opD Φ .apps [⟨.sl (.int .u8), xs⟩, ⟨.str, ys⟩] k R lv n ρ kr kj =
    if xs.length + ys.length ≤ BIG then deb Φ k R lv (n + 1) ((n, ⟨.sl (.int .u8), xs ++ ys⟩) :: ρ) kr kj else none := rfl
def mkD (e : Ty) (n : Nat) (ds : List D) : Option D := (mkRows e n ds).map (D.mk (.sl e))
noncomputable def mkE (Φ : Nat → Cont) (o : Option D) (k : IR) (R : Type) (lv n : Nat) (ρ : List (Nat × D)) (kr : List D → Option R) (kj : Nat → List D → Option R) : Option R :=
  match o with | some d => deb Φ k R lv (n + 1) ((n, d) :: ρ) kr kj | none => none
theorem o_mk (e : Ty) (m : Nat) (ds : List D) : opD Φ (.mk e m) ds k R lv n ρ kr kj = mkE Φ (mkD e m ds) k R lv n ρ kr kj := by
  simp only [opD, evalPr, mkE, mkD]
  cases mkRows e m ds <;> rfl
@[congr] theorem mkE_cg {o o' : Option D} (h : o = o') : mkE Φ o k R lv n ρ kr kj = mkE Φ o' k R lv n ρ kr kj := by rw [h]
theorem mkE_some (d : D) : mkE Φ (some d) k R lv n ρ kr kj = deb Φ k R lv (n + 1) ((n, d) :: ρ) kr kj := rfl
def consD (e : Ty) (x : e.den) (o : Option D) : Option D := match o with
  | some d => (d.get (.sl e)).map fun xs => ⟨.sl e, x :: xs⟩
  | none => none
theorem consD_some (e : Ty) (x : e.den) (xs : List e.den) : consD e x (some ⟨.sl e, xs⟩) = some ⟨.sl e, x :: xs⟩ := by simp [consD, D.get]
theorem mkD_zero (e : Ty) : mkD e 0 [] = some ⟨.sl e, ([] : List e.den)⟩ := rfl
theorem mkD_int (i : IntKind) (n : Nat) (x : Int) (r : List D) : mkD (.int i) (n + 1) (⟨.int i, x⟩ :: r) = consD (.int i) x (mkD (.int i) n r) := by
  simp only [mkD, mkRows, join, join1, D.get, dif_pos]
  cases mkRows (.int i) n r <;> simp [consD, D.get]
theorem mkD_str (n : Nat) (x : List Int) (r : List D) : mkD .str (n + 1) (⟨.str, x⟩ :: r) = consD .str x (mkD .str n r) := by
  simp only [mkD, mkRows, join, join1, D.get, dif_pos]
  cases mkRows .str n r <;> simp [consD, D.get]
theorem mkD_sl (e : Ty) (n : Nat) (x : List e.den) (r : List D) : mkD (.sl e) (n + 1) (⟨.sl e, x⟩ :: r) = consD (.sl e) x (mkD (.sl e) n r) := by
  simp only [mkD, mkRows, join, join1, D.get, dif_pos]
  cases mkRows (.sl e) n r <;> simp [consD, D.get]
def BT.leafB {α : Type} : BT α → Bool | .leaf => true | .node _ _ _ _ => false
theorem o_isp (e : Ty) (x : Option e.den) (neg : Bool) : opD Φ (.isp neg) [⟨.pt e, x⟩] k R lv n ρ kr kj = deb Φ k R lv (n + 1) ((n, ⟨.bool, x.isNone != neg⟩) :: ρ) kr kj := by
  cases x <;> cases neg <;> rfl
theorem o_npp (e : Ty) (x : Option e.den) : opD Φ .npp [⟨.pt e, x⟩] k R lv n ρ kr kj = if x.isNone = false then deb Φ k R lv n ρ kr kj else none := by
  cases x <;> rfl
theorem o_pod (e : Ty) (y : e.den) : opD Φ (.pod e) [⟨.pt e, some y⟩] k R lv n ρ kr kj = debP Φ k R lv n ρ (split e y) kr kj := by
  simp [opD, evalPr]
def mkpD (e : Ty) (ds : List D) : Option D := (toE e ds).map fun y => ⟨.pt e, some y⟩
theorem o_mkp (e : Ty) (ds : List D) : opD Φ (.mkp e) ds k R lv n ρ kr kj = mkE Φ (mkpD e ds) k R lv n ρ kr kj := by
  simp only [opD, evalPr, mkE, mkpD]
  cases toE e ds <;> rfl
theorem o_isn (e : Ty) (x : BT e.den) (neg : Bool) : opD Φ (.isn neg) [⟨.nd e, x⟩] k R lv n ρ kr kj = deb Φ k R lv (n + 1) ((n, ⟨.bool, x.leafB != neg⟩) :: ρ) kr kj := by
  cases x <;> cases neg <;> rfl
theorem o_nnl (e : Ty) (x : BT e.den) : opD Φ .nnl [⟨.nd e, x⟩] k R lv n ρ kr kj = if x.leafB = false then deb Φ k R lv n ρ kr kj else none := by
  cases x <;> rfl
theorem o_nod (e : Ty) (y : e.den) (l r : BT e.den) (m : Int) : opD Φ (.nod e) [⟨.nd e, .node y l r m⟩] k R lv n ρ kr kj = debP Φ k R lv n ρ (split e y ++ [⟨.nd e, l⟩, ⟨.nd e, r⟩, ⟨.int .i64, m⟩]) kr kj := by
  simp [opD, evalPr]
def mknD (e : Ty) (ds : List D) : Option D := match join e ds with
  | some (y, [⟨.nd e1, l⟩, ⟨.nd e2, r⟩, ⟨.int _, m⟩]) => match D.get (.nd e) ⟨.nd e1, l⟩, D.get (.nd e) ⟨.nd e2, r⟩ with
    | some l, some r => some ⟨.nd e, .node y l r m⟩
    | _, _ => none
  | _ => none
theorem o_mkn (e : Ty) (ds : List D) : opD Φ (.mkn e) ds k R lv n ρ kr kj = mkE Φ (mknD e ds) k R lv n ρ kr kj := by
  simp only [opD, evalPr, mkE, mknD]
  (repeat' split) <;> first | rfl | (simp_all; try rfl)
theorem o_imin (x y : Int) : opD Φ .min [⟨.int k1, x⟩, ⟨.int k2, y⟩] k R lv n ρ kr kj = deb Φ k R lv (n + 1) ((n, ⟨.int k1, if y < x then y else x⟩) :: ρ) kr kj := rfl
theorem o_imax (x y : Int) : opD Φ .max [⟨.int k1, x⟩, ⟨.int k2, y⟩] k R lv n ρ kr kj = deb Φ k R lv (n + 1) ((n, ⟨.int k1, if x < y then y else x⟩) :: ρ) kr kj := rfl
noncomputable def eqsE (Φ : Nat → Cont) (neg : Bool) (o : Option Bool) (k : IR) (R : Type) (lv n : Nat) (ρ : List (Nat × D)) (kr : List D → Option R) (kj : Nat → List D → Option R) : Option R :=
  match o with | some b => deb Φ k R lv (n + 1) ((n, ⟨.bool, if neg then !b else b⟩) :: ρ) kr kj | none => none
theorem o_eqs (neg : Bool) (m : Nat) (ds : List D) : opD Φ (.eqs neg m) ds k R lv n ρ kr kj = eqsE Φ neg (eqCells (ds.take m) (ds.drop m)) k R lv n ρ kr kj := rfl
@[congr] theorem eqsE_cg {neg : Bool} {o o' : Option Bool} (h : o = o') : eqsE Φ neg o k R lv n ρ kr kj = eqsE Φ neg o' k R lv n ρ kr kj := by rw [h]
theorem eqsE_some (neg b : Bool) : eqsE Φ neg (some b) k R lv n ρ kr kj = deb Φ k R lv (n + 1) ((n, ⟨.bool, if neg then !b else b⟩) :: ρ) kr kj := rfl
theorem eqC_nil : eqCells [] [] = some true := rfl
noncomputable def andE (b : Bool) (o : Option Bool) : Option Bool := match o with | some c => some (b && c) | none => none
theorem andE_some (b c : Bool) : andE b (some c) = some (b && c) := rfl
theorem eqC_int (x y : Int) (r s : List D) : eqCells (⟨.int k1, x⟩ :: r) (⟨.int k2, y⟩ :: s) = andE (decide (x = y)) (eqCells r s) := rfl
theorem j1 (t : Ty) (x : t.den) (l : List D) : join1 t (⟨t, x⟩ :: l) = some (x, l) := by simp [join1, D.get]
def Ty.single : Ty → Bool
  | .unit => false | .pair _ _ => false | _ => true
class Sg (t : Ty) : Prop where
  h : t.single = true
instance (i : IntKind) : Sg (.int i) := ⟨rfl⟩
instance : Sg .bool := ⟨rfl⟩
instance : Sg .str := ⟨rfl⟩
instance (e : Ty) : Sg (.sl e) := ⟨rfl⟩
instance (e : Ty) : Sg (.pt e) := ⟨rfl⟩
instance (e : Ty) : Sg (.nd e) := ⟨rfl⟩
theorem join_sg {t : Ty} (h : t.single = true) (x : t.den) (l : List D) : join t (⟨t, x⟩ :: l) = some (x, l) := by
  cases t <;> simp [Ty.single] at h <;> simp [join, join1, D.get]
theorem split_sg {t : Ty} (h : t.single = true) (x : t.den) : split t x = [⟨t, x⟩] := by
  cases t <;> simp [Ty.single] at h <;> rfl
noncomputable def agE (R : Type) (tys : List Ty) (ds : List D) : Option (LS (pairs tys).den R) := (toTup tys ds).map .again
noncomputable def outE {S R : Type} (o : Option R) : Option (LS S R) := o.map .out
theorem outE_some {S R : Type} (r : R) : outE (S := S) (some r) = some (.out r) := rfl
theorem outE_none {S R : Type} : outE (S := S) (none : Option R) = none := rfl
theorem outE_ite {S R : Type} (c : Prop) [Decidable c] (a b : Option R) : outE (S := S) (if c then a else b) = if c then outE a else outE b := by split <;> rfl
theorem agE_1 {t0 : Ty} [h0 : Sg t0] (x0 : t0.den) : agE R [t0] [⟨t0, x0⟩] = (some (.again x0) : Option (LS t0.den R)) := by
  simp [agE, toTup, pairs, join, join_sg h0.h]
theorem loopE_1 {t0 : Ty} [h0 : Sg t0] (x0 : t0.den) (body : IR) : loopE Φ (some [⟨t0, x0⟩]) [t0] body lv n ρ kr kj =
    iter (fun s : t0.den => deb Φ body (LS t0.den R) (lv + 1) (n + 1) ((n, ⟨t0, s⟩) :: ρ) (fun ds => outE (kr ds)) (fun l ds => if l = lv then agE R [t0] ds else outE (kj l ds))) x0 := by
  simp only [loopE, toTup, pairs, join, join_sg h0.h, split, split_sg h0.h]
  rfl
theorem agE_2 {t0 t1 : Ty} [h0 : Sg t0] [h1 : Sg t1] (x0 : t0.den) (x1 : t1.den) : agE R [t0, t1] [⟨t0, x0⟩, ⟨t1, x1⟩] = (some (.again (x0, x1)) : Option (LS (t0.den × t1.den) R)) := by
  simp [agE, toTup, pairs, join, join_sg h0.h, join_sg h1.h]
theorem loopE_2 {t0 t1 : Ty} [h0 : Sg t0] [h1 : Sg t1] (x0 : t0.den) (x1 : t1.den) (body : IR) : loopE Φ (some [⟨t0, x0⟩, ⟨t1, x1⟩]) [t0, t1] body lv n ρ kr kj =
    iter (fun s : (t0.den × t1.den) => deb Φ body (LS (t0.den × t1.den) R) (lv + 1) (n + 2) ((n + 1, ⟨t1, s.2⟩) :: (n, ⟨t0, s.1⟩) :: ρ) (fun ds => outE (kr ds)) (fun l ds => if l = lv then agE R [t0, t1] ds else outE (kj l ds))) (x0, x1) := by
  simp only [loopE, toTup, pairs, join, join_sg h0.h, join_sg h1.h, split, split_sg h0.h, split_sg h1.h]
  rfl
theorem agE_3 {t0 t1 t2 : Ty} [h0 : Sg t0] [h1 : Sg t1] [h2 : Sg t2] (x0 : t0.den) (x1 : t1.den) (x2 : t2.den) : agE R [t0, t1, t2] [⟨t0, x0⟩, ⟨t1, x1⟩, ⟨t2, x2⟩] = (some (.again (x0, x1, x2)) : Option (LS (t0.den × t1.den × t2.den) R)) := by
  simp [agE, toTup, pairs, join, join_sg h0.h, join_sg h1.h, join_sg h2.h]
theorem loopE_3 {t0 t1 t2 : Ty} [h0 : Sg t0] [h1 : Sg t1] [h2 : Sg t2] (x0 : t0.den) (x1 : t1.den) (x2 : t2.den) (body : IR) : loopE Φ (some [⟨t0, x0⟩, ⟨t1, x1⟩, ⟨t2, x2⟩]) [t0, t1, t2] body lv n ρ kr kj =
    iter (fun s : (t0.den × t1.den × t2.den) => deb Φ body (LS (t0.den × t1.den × t2.den) R) (lv + 1) (n + 3) ((n + 2, ⟨t2, s.2.2⟩) :: (n + 1, ⟨t1, s.2.1⟩) :: (n, ⟨t0, s.1⟩) :: ρ) (fun ds => outE (kr ds)) (fun l ds => if l = lv then agE R [t0, t1, t2] ds else outE (kj l ds))) (x0, x1, x2) := by
  simp only [loopE, toTup, pairs, join, join_sg h0.h, join_sg h1.h, join_sg h2.h, split, split_sg h0.h, split_sg h1.h, split_sg h2.h]
  rfl
theorem agE_4 {t0 t1 t2 t3 : Ty} [h0 : Sg t0] [h1 : Sg t1] [h2 : Sg t2] [h3 : Sg t3] (x0 : t0.den) (x1 : t1.den) (x2 : t2.den) (x3 : t3.den) : agE R [t0, t1, t2, t3] [⟨t0, x0⟩, ⟨t1, x1⟩, ⟨t2, x2⟩, ⟨t3, x3⟩] = (some (.again (x0, x1, x2, x3)) : Option (LS (t0.den × t1.den × t2.den × t3.den) R)) := by
  simp [agE, toTup, pairs, join, join_sg h0.h, join_sg h1.h, join_sg h2.h, join_sg h3.h]
theorem loopE_4 {t0 t1 t2 t3 : Ty} [h0 : Sg t0] [h1 : Sg t1] [h2 : Sg t2] [h3 : Sg t3] (x0 : t0.den) (x1 : t1.den) (x2 : t2.den) (x3 : t3.den) (body : IR) : loopE Φ (some [⟨t0, x0⟩, ⟨t1, x1⟩, ⟨t2, x2⟩, ⟨t3, x3⟩]) [t0, t1, t2, t3] body lv n ρ kr kj =
    iter (fun s : (t0.den × t1.den × t2.den × t3.den) => deb Φ body (LS (t0.den × t1.den × t2.den × t3.den) R) (lv + 1) (n + 4) ((n + 3, ⟨t3, s.2.2.2⟩) :: (n + 2, ⟨t2, s.2.2.1⟩) :: (n + 1, ⟨t1, s.2.1⟩) :: (n, ⟨t0, s.1⟩) :: ρ) (fun ds => outE (kr ds)) (fun l ds => if l = lv then agE R [t0, t1, t2, t3] ds else outE (kj l ds))) (x0, x1, x2, x3) := by
  simp only [loopE, toTup, pairs, join, join_sg h0.h, join_sg h1.h, join_sg h2.h, join_sg h3.h, split, split_sg h0.h, split_sg h1.h, split_sg h2.h, split_sg h3.h]
  rfl
theorem agE_8 {t0 t1 t2 t3 t4 t5 t6 t7 : Ty} [h0 : Sg t0] [h1 : Sg t1] [h2 : Sg t2] [h3 : Sg t3] [h4 : Sg t4] [h5 : Sg t5] [h6 : Sg t6] [h7 : Sg t7] (x0 : t0.den) (x1 : t1.den) (x2 : t2.den) (x3 : t3.den) (x4 : t4.den) (x5 : t5.den) (x6 : t6.den) (x7 : t7.den) : agE R [t0, t1, t2, t3, t4, t5, t6, t7] [⟨t0, x0⟩, ⟨t1, x1⟩, ⟨t2, x2⟩, ⟨t3, x3⟩, ⟨t4, x4⟩, ⟨t5, x5⟩, ⟨t6, x6⟩, ⟨t7, x7⟩] = (some (.again (x0, x1, x2, x3, x4, x5, x6, x7)) : Option (LS (t0.den × t1.den × t2.den × t3.den × t4.den × t5.den × t6.den × t7.den) R)) := by
  simp [agE, toTup, pairs, join, join_sg h0.h, join_sg h1.h, join_sg h2.h, join_sg h3.h, join_sg h4.h, join_sg h5.h, join_sg h6.h, join_sg h7.h]
theorem loopE_8 {t0 t1 t2 t3 t4 t5 t6 t7 : Ty} [h0 : Sg t0] [h1 : Sg t1] [h2 : Sg t2] [h3 : Sg t3] [h4 : Sg t4] [h5 : Sg t5] [h6 : Sg t6] [h7 : Sg t7] (x0 : t0.den) (x1 : t1.den) (x2 : t2.den) (x3 : t3.den) (x4 : t4.den) (x5 : t5.den) (x6 : t6.den) (x7 : t7.den) (body : IR) : loopE Φ (some [⟨t0, x0⟩, ⟨t1, x1⟩, ⟨t2, x2⟩, ⟨t3, x3⟩, ⟨t4, x4⟩, ⟨t5, x5⟩, ⟨t6, x6⟩, ⟨t7, x7⟩]) [t0, t1, t2, t3, t4, t5, t6, t7] body lv n ρ kr kj =
    iter (fun s : (t0.den × t1.den × t2.den × t3.den × t4.den × t5.den × t6.den × t7.den) => deb Φ body (LS (t0.den × t1.den × t2.den × t3.den × t4.den × t5.den × t6.den × t7.den) R) (lv + 1) (n + 8) ((n + 7, ⟨t7, s.2.2.2.2.2.2.2⟩) :: (n + 6, ⟨t6, s.2.2.2.2.2.2.1⟩) :: (n + 5, ⟨t5, s.2.2.2.2.2.1⟩) :: (n + 4, ⟨t4, s.2.2.2.2.1⟩) :: (n + 3, ⟨t3, s.2.2.2.1⟩) :: (n + 2, ⟨t2, s.2.2.1⟩) :: (n + 1, ⟨t1, s.2.1⟩) :: (n, ⟨t0, s.1⟩) :: ρ) (fun ds => outE (kr ds)) (fun l ds => if l = lv then agE R [t0, t1, t2, t3, t4, t5, t6, t7] ds else outE (kj l ds))) (x0, x1, x2, x3, x4, x5, x6, x7) := by
  simp only [loopE, toTup, pairs, join, join_sg h0.h, join_sg h1.h, join_sg h2.h, join_sg h3.h, join_sg h4.h, join_sg h5.h, join_sg h6.h, join_sg h7.h, split, split_sg h0.h, split_sg h1.h, split_sg h2.h, split_sg h3.h, split_sg h4.h, split_sg h5.h, split_sg h6.h, split_sg h7.h]
  rfl
abbrev Does1 (Φ : Nat → Cont) (id : Nat) (ds rs : List D) : Prop := ∀ (k : IR) (R : Type) (lv n : Nat) (ρ : List (Nat × D)) (kr : List D → Option R) (kj : Nat → List D → Option R),
  opD Φ (.call id) ds k R lv n ρ kr kj = debP Φ k R lv n ρ rs kr kj

theorem Does1.of {l : List Ct} {id : Nat} {c : Ct} (hl : look (l.map fun c => (c.sig.id, c)) id = some c) {ds rs : List D} (hF : c.F ds = some rs) (ht : rs.map (·.t) = (outL c.sig).map (·.1)) :
    Does1 (Phi l) id ds rs := fun k R lv n ρ kr kj => Phi_call hl hF ht
end

theorem ds_cons {T : Ty} {Ts : List Ty} {ds : List D} (h : ds.map (·.t) = T :: Ts) : ∃ (x : T.den) (ds' : List D), ds = ⟨T, x⟩ :: ds' ∧ ds'.map (·.t) = Ts := by
  cases ds with
  | nil => cases h
  | cons d ds =>
    obtain ⟨t, x⟩ := d
    simp only [List.map_cons, List.cons.injEq] at h
    obtain ⟨rfl, h⟩ := h
    exact ⟨x, ds, rfl, h⟩
theorem ds_nil {ds : List D} (h : ds.map (·.t) = []) : ds = [] := by simpa using h
theorem wf_u32 {x : Int} (h0 : Wf (.int .u32) x) : 0 ≤ x ∧ x < 4294967296 := by
  have h : IntKind.u32.min ≤ x ∧ x ≤ IntKind.u32.max := h0
  simp [IntKind.min, IntKind.max, IntKind.signed, IntKind.bits] at h; omega
theorem wf_u8 {x : Int} (h0 : Wf (.int .u8) x) : 0 ≤ x ∧ x < 256 := by
  have h : IntKind.u8.min ≤ x ∧ x ≤ IntKind.u8.max := h0
  simp [IntKind.min, IntKind.max, IntKind.signed, IntKind.bits] at h; omega
theorem wf_bytes {x : List Int} (h : Wf (.sl (.int .u8)) x) : ∀ c ∈ x, 0 ≤ c ∧ c < 256 := fun c hc => wf_u8 (h.2 c hc)
attribute [simp ↓] den_start deb_op deb_ret deb_jump deb_itev deb_loop deb_nilcv
attribute [simp] nilE_some opE_some debP_nil debP_cons pushL_nil pushL_cons retE_some iteE_some evB_nil evB_v evB_l lkE_cons consE_some d_int d_bool d_str d_nil o_add o_sub o_mul o_and o_or o_xor o_andNot o_quo o_rem o_shl o_shr o_eql o_neq o_lss o_leq o_gtr o_geq o_seql o_sneq o_slss o_sleq o_sgeq o_beql o_scat o_not o_neg o_com o_conv o_s2b o_b2s o_len o_slen o_inb o_idx o_sidx o_sub3 o_sub2 o_ssub3 o_ssub2 o_app o_mkz o_ful o_apps o_mk mkE_some consD_some mkD_zero mkD_int mkD_str mkD_sl o_isp o_npp o_pod o_mkp o_isn o_nnl o_nod o_mkn o_imin o_imax o_eqs eqsE_some eqC_nil andE_some eqC_int j1 outE_some outE_none outE_ite agE_1 loopE_1 agE_2 loopE_2 agE_3 loopE_3 agE_4 loopE_4 agE_8 loopE_8 split
end Go.Proofs.YtolcekkcenedjaaGreat.Sx

namespace Go.Proofs.YtolcekkcenedjaaGreat.Sx
open Go.RowKit

theorem fdiv_pos (x d : Int) (h : 0 < d) : x.fdiv d = x / d := Int.fdiv_eq_ediv_of_nonneg x (Int.le_of_lt h)
theorem wu8 (n : Int) : IntKind.u8.wrap n = n % 256 := IntKind.wrap_u8 n
theorem wu64' (n : Int) : IntKind.u64.wrap n = n % 18446744073709551616 := by
  simp [IntKind.wrap, IntKind.signed, IntKind.bits]
theorem wu64 (n : Int) (h : 0 ≤ n) (h' : n < 18446744073709551616) : IntKind.u64.wrap n = n := IntWalk.u64_in n ⟨h, by omega⟩
theorem wu32 (n : Int) (h : 0 ≤ n) (h' : n < 4294967296) : IntKind.u32.wrap n = n := IntWalk.u32_in n ⟨h, by omega⟩
theorem wi64 (n : Int) (h : -9223372036854775808 ≤ n) (h' : n < 9223372036854775808) : IntKind.i64.wrap n = n := IntWalk.i64_in n ⟨h, by omega⟩

theorem ofInt_nat (n : Nat) (x : Nat) : (BitVec.ofInt n (x : Int)).toNat = x % 2 ^ n := by
  rw [BitVec.ofInt_natCast, BitVec.toNat_ofNat]

theorem or128 (u : Int) (h : 0 ≤ u) : bOr .u8 (u % 256) 128 = u % 128 + 128 := by
  obtain ⟨n, rfl⟩ := Int.eq_ofNat_of_zero_le h
  have e1 : ((n : Int) % 256) = ((n % 256 : Nat) : Int) := by omega
  rw [e1]
  unfold bOr
  rw [wu8, BitVec.toNat_or, ofInt_nat]
  have e2 : (BitVec.ofInt IntKind.u8.bits 128).toNat = 128 := by decide
  rw [e2]
  have key : ∀ m : Nat, m < 256 → (m % 2 ^ 8 ||| 128) = m % 128 + 128 := by decide +kernel
  have := key (n % 256) (Nat.mod_lt _ (by omega))
  rw [show IntKind.u8.bits = 8 from rfl, this]
  omega

def one (u : Nat) : List Int := if u < 128 then [(u : Int)] else ((u % 128 + 128 : Nat) : Int) :: one (u / 128)
termination_by u
decreasing_by omega

theorem one_small {u : Nat} (h : u < 128) : one u = [(u : Int)] := by rw [one, if_pos h]
theorem one_big {u : Nat} (h : ¬ u < 128) : one u = ((u % 128 + 128 : Nat) : Int) :: one (u / 128) := by rw [one, if_neg h]

theorem one_len : ∀ (k u : Nat), u < 128 ^ (k + 1) → (one u).length ≤ k + 1
  | 0, u, h => by rw [one_small (by omega)]; simp
  | k + 1, u, h => by
    by_cases hu : u < 128
    · rw [one_small hu]; simp
    · rw [one_big hu, List.length_cons]
      have := one_len k (u / 128) (by rw [Nat.div_lt_iff_lt_mul (by omega)]; rw [Nat.pow_succ] at h; exact h)
      omega

theorem one_len10 (u : Nat) (h : u < 18446744073709551616) : (one u).length ≤ 10 := one_len 9 u (by omega)

theorem one_pos (u : Nat) : 1 ≤ (one u).length := by
  rw [one]; split <;> simp

theorem one_byte (u : Nat) : ∀ c ∈ one u, 0 ≤ c ∧ c ≤ 255 := by
  intro c hc
  induction u using Nat.strongRecOn with
  | ind u ih =>
    by_cases hu : u < 128
    · rw [one_small hu] at hc; simp only [List.mem_singleton] at hc; omega
    · rw [one_big hu] at hc
      rcases List.mem_cons.1 hc with rfl | hc
      · omega
      · exact ih (u / 128) (by omega) hc

def putL (l : List Int) : List Int := (l.map fun u => one u.toNat).flatten

theorem putL_nil : putL [] = [] := rfl
theorem putL_cons (u : Int) (l : List Int) : putL (u :: l) = one u.toNat ++ putL l := by simp [putL]
theorem putL_len (l : List Int) (h : ∀ u ∈ l, 0 ≤ u ∧ u < 18446744073709551616) : (putL l).length ≤ 10 * l.length := by
  induction l with
  | nil => simp [putL]
  | cons u l ih =>
    rw [putL_cons, List.length_append, List.length_cons]
    have h1 := one_len10 u.toNat (by have := h u (by simp); omega)
    have h2 := ih (fun v hv => h v (by simp [hv]))
    omega

def sum4 (s : Int) : List Int := [s % 256, s / 256 % 256, s / 65536 % 256, s / 16777216 % 256]

def pOk (a b c : Int) : Bool := decide (1 ≤ a ∧ a ≤ 2147483647 ∧ 0 ≤ b ∧ b ≤ 2147483647 ∧ 0 ≤ c ∧ c ≤ 4096)

theorem fdiv7 (x : Int) : x.fdiv (2 ^ Nat.min 7 IntKind.u64.bits) = x / 128 := fdiv_pos x 128 (by omega)

theorem getI {l : List Int} {i : Int} {d : Int} (h0 : 0 ≤ i) (h1 : i < l.length) : l[i.toNat]?.getD d = l[i.toNat]'(by omega) := by
  rw [List.getElem?_eq_getElem (by omega)]; rfl
theorem dropI {α : Type} {l : List α} {i : Int} (h0 : 0 ≤ i) (h1 : i < l.length) : l.drop i.toNat = l[i.toNat]'(by omega) :: l.drop (i + 1).toNat := by
  rw [show (i + 1).toNat = i.toNat + 1 by omega]; exact List.drop_eq_getElem_cons (by omega)
theorem td (x d : Int) (h : 0 ≤ x) : x.tdiv d = x / d := Int.tdiv_eq_ediv_of_nonneg h
theorem tm (x d : Int) (h : 0 ≤ x) : x.tmod d = x % d := Int.tmod_eq_emod_of_nonneg h
theorem fdiv8 (x : Int) : x.fdiv (2 ^ Nat.min 8 IntKind.u32.bits) = x / 256 := fdiv_pos x 256 (by omega)
theorem fdiv16 (x : Int) : x.fdiv (2 ^ Nat.min 16 IntKind.u32.bits) = x / 65536 := fdiv_pos x 65536 (by omega)
theorem fdiv24 (x : Int) : x.fdiv (2 ^ Nat.min 24 IntKind.u32.bits) = x / 16777216 := fdiv_pos x 16777216 (by omega)
end Go.Proofs.YtolcekkcenedjaaGreat.Sx
