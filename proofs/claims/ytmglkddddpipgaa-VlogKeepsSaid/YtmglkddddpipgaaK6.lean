/-
  From the executor's word to a contract and to a row; laws for reckoning a text.
-/
import Derived.Test.YtmglkddddpipgaaK5
import Derived.ProofKit
import Derived.Deep.Slices
import Derived.JoinedCond
set_option linter.unusedVariables false
set_option linter.unusedSimpArgs false
namespace Go.Proofs.Ytmglkddddpipgaa.Sx
open Go.RowKit

noncomputable def arAS (ars : List (Nat × ArT)) : AS := ⟨0, fun _ => .dead, fun _ => none, fun _ => False, fun _ => False, [], fun _ => none, fun k => look (arNew 0 ars) k, fun _ => none⟩
def gIn (p : PF) (om : Nat → Option Res) : G := ⟨p, fun _ => 0, fun _ => undef, fun _ => 0, fun _ => 0, om⟩
def baseIn (ars : List (Nat × ArT)) (w : World) (p : PF) (om : Nat → Option Res) : Base := ⟨0, w, p, om, fun k => ∃ q ∈ ars, q.1 = k⟩

theorem entryRel [Arn] {ars : List (Nat × ArT)} {w : World} {p : PF} {om : Nat → Option Res} {as : List D} (hpw : ∀ b o, p b o → b < w.heap.size) (hlab : ∀ b r, om b = some r → b < w.heap.size ∧ InArs ars r) (has : All2 (ArAt p om w) ars as) :
    RelG (baseIn ars w p om) as (arAS ars) { tmps := #[], defers := [] } [] w (gIn p om) := by
  refine { nodef := rfl, sz := rfl, slot := fun i => ?_, saved := .nil, box := fun β row hr => (by cases hr), live := fun k hk => hk.elim, pwf := hpw, bel := Below.refl _ _, hB := Nat.zero_le _, dk := fun k x hx => (by cases hx), hl := ?_ }
  · show (#[] : Array Value).getD i undef = undef
    simp
  · refine { b0 := rfl, om := fun b r hr => .inl ⟨r, hr⟩, owb := fun b r hr => (hlab b r hr).1, fr := fun b _ _ => ⟨rfl, fun _ => Iff.rfl⟩, p0m := fun b o hp => ⟨hp, rfl⟩, adm := fun _ _ _ h => h, adf := fun _ _ _ _ h => h, ark := fun k x hx => ?_, ar := ⟨fun k T x hk => ?_, fun k xv β hk => (by cases hk)⟩ }
    · have hx' : look (arNew 0 ars) k = some x := hx
      rcases arNew_look ars 0 k with ⟨h1, _⟩ | ⟨m, T, h1, h2⟩
      · rw [h1] at hx'; cases hx'
      · exact ⟨_, List.mem_of_getElem? h2, rfl⟩
    · have hx' : look (arNew 0 ars) k = some (T, x) := hk
      rcases arNew_look ars 0 k with ⟨h1, _⟩ | ⟨m, T', h1, h2⟩
      · rw [h1] at hx'; cases hx'
      · rw [h1] at hx'; simp only [oi, Prod.mk.injEq] at hx'; obtain ⟨rfl, rfl⟩ := hx'; obtain ⟨d, k1, xs, hd, f2, f3⟩ := has.get m _ h2; subst hd; refine ⟨xs, ?_, f2, fun j y hy => ?_⟩
        · show nth as (0 + m) = _
          rw [nth_eq, Nat.zero_add]; exact k1
        · obtain ⟨b, q1, q2⟩ := f3 j y hy; exact ⟨b, q1, .inr (q2.relab1 (g' := gIn p om) (fun _ h => h) (fun _ _ h => h) (fun _ _ => Iff.rfl) (fun _ _ _ h => h))⟩

theorem RelG.retA [Arn] {ars : List (Nat × ArT)} {w0 w : World} {p0 : PF} {om0 : Nat → Option Res} {ρ : List D} {α : AS} {a : Act} {bs : List Act} {g : G} (h : RelG (baseIn ars w0 p0 om0) ρ α a bs w g) {sig : Sig} (hs : sig.ars = ars) {us cs : List Value} {ds das : List D}
    (hp : partVals (sig.outs.map fun q => (q.1, q.2.length)) us cs) (hr : All2 (fun d v => RepD g.p w v d) ds cs) (ht : ds.map (·.t) = (outL sig).map (·.1))
    (hown : Owned 0 w g.p (ownList (outL sig) cs)) (hownl : ∀ (j : Nat) (x : Value × TypeId × Nat) (b : Nat), (ownList (outL sig) cs)[j]? = some x → x.1.ownBlock = some b → (∀ r, g.ow b = some r → ¬ InArs sig.ars r) ∧ w0.heap.size ≤ b)
    (har : All2 (fun q d => ∃ x, α.ar q.1 = some (q.2, x) ∧ α.out q.1 = none ∧ x.ev ρ = some d) sig.ars das) :
    ReturnedA sig w0 p0 om0 (ds ++ das) (resVal us) w g.p (labs sig.ars g.ow) us cs ∧ ∀ k j b, (p0.ad k j b → g.p.ad k j b) ∧ ((∀ q ∈ sig.ars, q.1 ≠ k) → g.p.ad k j b → p0.ad k j b) := by
  subst hs; refine ⟨⟨rfl, ⟨h.bel.os, h.bel.tape, h.bel.output, h.bel.size, fun k hk => by omega⟩, fun b hb hm => h.hl.fr b hb (by rintro ⟨r, hr⟩; have hr' : om0 b = some r := hr; rw [hm] at hr'; cases hr'), h.hl.p0m, h.pwf, fun b r hb => ⟨h.hl.owb b r (labs_some.1 hb).1, (labs_some.1 hb).2⟩, fun b r hb => h.hl.om b r (labs_some.1 hb).1, hp, ⟨ds, das, rfl, hr, ht, ?_⟩, hown, fun j x b hj hb => ?_⟩, fun k j b => ⟨h.hl.adm k j b, fun hk => h.hl.adf k j b ?_⟩⟩
  · have key : ∀ (l : List (Nat × ArT)) (dl : List D), (∀ q ∈ l, q ∈ sig.ars) → All2 (fun q d => ∃ x, α.ar q.1 = some (q.2, x) ∧ α.out q.1 = none ∧ x.ev ρ = some d) l dl → All2 (ArAt g.p (labs sig.ars g.ow) w) l dl := by
      intro l dl hm hl; induction hl with
      | nil => exact .nil
      | cons h1 _ ih =>
        rename_i q d l dl _; obtain ⟨x, h2, h3, h4⟩ := h1; refine .cons ?_ (ih fun q hq => hm q (by simp [hq]))
        obtain ⟨xs, f1, f2, f3⟩ := (h.hl.ar.ars _ _ _ h2).ex
        rw [f1] at h4; simp only [oi] at h4; refine ⟨xs, h4.symm, f2, fun j y hy => ?_⟩
        obtain ⟨b, z1, z2⟩ := f3 j y hy; refine ⟨b, z1, ?_⟩
        rcases z2 with ⟨xv, β, z, _⟩ | z2
        · rw [h3] at z; cases z
        · have hq := hm q (by simp)
          exact z2.relab1 (g' := gOf g.p (labs sig.ars g.ow)) (fun b hb => labs_some.2 ⟨hb, q, hq, .inl ⟨j, rfl⟩⟩) (fun b c hb => labs_some.2 ⟨hb, q, hq, .inr ⟨j, c, rfl⟩⟩) (fun _ _ => Iff.rfl) (fun _ _ _ h => h)
    exact key _ _ (fun _ h => h) har
  · obtain ⟨h1, h2⟩ := hownl j x b hj hb; exact ⟨labs_none h1, .inr h2⟩
  · rintro ⟨q, hq, rfl⟩
    exact hk q hq rfl

theorem RelG.grew [Arn] {B : Base} {ρ : List D} {α : AS} {a : Act} {bs : List Act} {w w' : World} {g : G} (h : RelG B ρ α a bs w g) (hb : Below w.heap.size w w') (q : Nat → Nat → Prop) (hq : ∀ b o, q b o → w.heap.size ≤ b ∧ b < w'.heap.size) :
    RelG B ρ α a bs w' { g with p := g.p.more q } := by
  have hle : LeC ρ α g w ρ α { g with p := g.p.more q } w' := ⟨fun _ _ h => h, fun β row h => ⟨⟨row, h⟩, rfl⟩, fun k h => ⟨h, rfl, rfl, rfl⟩, fun b o hp => ⟨.inl hp, World.cell?_of_block (hb.block b (h.pwf b o hp))⟩, fun _ _ _ h => h⟩
  have hold : ∀ b o, b < w.heap.size → ((g.p.more q) b o ↔ g.p b o) := fun b o hl => ⟨fun h => h.elim id fun h => by have := (hq b o h).1; omega, .inl⟩
  have hB : B.B0 ≤ w.heap.size := Nat.le_trans h.hB h.bel.size
  refine h.world hle rfl rfl rfl (fun β row hr => ?_) (fun k hk => ?_) (fun b o hp => ?_) (h.bel.trans (hb.mono hB)) h.dk rfl rfl rfl (fun b hl _ => ⟨hb.block b hl, fun o => hold b o hl⟩) (fun b r hr => ⟨Nat.lt_of_lt_of_le (h.hl.owb b r hr) hb.size, .inl ⟨r, hr⟩⟩) (fun b r hr _ => ⟨hr, hb.block b (h.hl.owb b r hr), fun o hp => (hold b o (h.hl.owb b r hr)).1 hp⟩)
  · have hbo := h.box β row hr
    obtain ⟨cs, el, h4, _⟩ := hbo.cells; have hlt := block_lt h4
    exact RelG.BoxOk_mono hle hbo rfl rfl (fun o hp => hbo.np o ((hold _ o hlt).1 hp)) (hb.block _ hlt)
  · obtain ⟨h1, n, xs, h2, h3, h4⟩ := h.live k hk; exact ⟨h1, n, xs, ownsRow_same h2 fun b' hb' => hb.block b' (h2.lt b' hb').2, fun b' hb' => ⟨(h3 b' hb').1, fun o ho hp => (h3 b' hb').2 o ho ((hold b' o (h2.lt b' hb').2).1 hp)⟩, h4.mono hle.mem hle.ad (fun _ _ h => h) (fun _ h => h) rfl rfl rfl (fun b' hb' hno o hp => hno o ((hold b' o (h2.lt b' hb').2).1 hp))⟩
  · rcases hp with hp | hp
    · exact Nat.lt_of_lt_of_le (h.pwf b o hp) hb.size
    · exact (hq b o hp).2

theorem obj_of [Arn] {B : Base} {ρ : List D} {α : AS} {a : Act} {bs : List Act} {w : World} {g : G} (h : RelG B ρ α a bs w g) {k : Nat} {T : ArT} {x0 : A} {d : D} {v : Value} {xs : List T.t.den} (har : α.ar k = some (T, x0)) (hout : α.out k = none) (hk : k % 2 = 0)
    (hx0 : x0.ev ρ = some ⟨.sl T.t, xs⟩) (h2 : d.t = .ref k) (h3 : RepD g.p w v d) :
    (v = .pointer none ∧ d = ⟨.ref k, none⟩) ∨ ∃ (j b : Nat) (y : T.t.den) (cs : Array Value) (el : TypeId), v = .pointer (some ⟨b, 0, none⟩) ∧ d = ⟨.ref k, some j⟩ ∧ xs[j]? = some y ∧ g.p.ad k j b ∧ g.ow b = some (.obj k j) ∧ (∀ o, ¬ g.p b o) ∧
      w.heap[b]? = some (.cells cs el (0, 0)) ∧ Rep g.p w T.t cs.toList y ∧ ∀ c e, (c, e) ∈ T.own → ∃ v t, cs.toList[c]? = some v ∧ T.t.cells[c]? = some t ∧ Room g w k j c e (slw t) v := by
  obtain ⟨xs', e1, f2, f3⟩ := (h.hl.ar.ars k _ x0 har).ex
  have exs : xs' = xs := by
    rw [hx0] at e1; simp only [oi, D.mk.injEq, heq_eq_eq, true_and] at e1; exact e1.symm
  subst exs; obtain ⟨r, rfl, hr⟩ := ref_of h2 h3; rcases hr with ⟨rfl, rfl⟩ | ⟨b, j, rfl, rfl, hb⟩
  · exact .inl ⟨by simp [refVal, hk], rfl⟩
  · refine .inr ?_
    have hjl := (f2 j b hb).1
    obtain ⟨b', q1, q2⟩ := f3 j _ (List.getElem?_eq_getElem hjl)
    have := (f2 j b hb).2 b' q1
    subst this; rcases q2 with ⟨xv, β, z, _⟩ | hO
    · rw [hout] at z; cases z
    · obtain ⟨o1, o2, o3⟩ := hO; rcases o3 with ⟨_, cs, el, o4, o5, o6⟩ | ⟨z, _⟩
      · exact ⟨j, b', _, cs, el, by simp [refVal, hk], rfl, List.getElem?_eq_getElem hjl, hb, o1, o2, o4, o5, o6⟩
      · omega
end Go.Proofs.Ytmglkddddpipgaa.Sx

namespace Go.Proofs.Ytmglkddddpipgaa.Sx
open Go.RowKit

def PF.all (W : World) : PF := ⟨fun b _ => b < W.heap.size, fun _ _ _ => False⟩

def Ty.wpos : Ty → Bool
  | .sl e => decide (0 < e.width) && e.wpos
  | .pair a b => a.wpos && b.wpos
  | .pt _ => false
  | .nd _ => false
  | .ref _ => false
  | _ => true

def Wf : (t : Ty) → t.den → Prop
  | .unit, _ => True
  | .bool, _ => True
  | .int k, n => k.min ≤ n ∧ n ≤ k.max
  | .str, s => (s : List Int).length ≤ maxLen ∧ ∀ c ∈ (s : List Int), 0 ≤ c ∧ c ≤ 255
  | .sl e, xs => (xs : List e.den).length ≤ maxLen ∧ ∀ x ∈ (xs : List e.den), Wf e x
  | .pair a b, x => Wf a x.1 ∧ Wf b x.2
  | .pt _, _ => True
  | .nd _, _ => True
  | .ref _, _ => True

theorem Rep.wf [Arn] {p : PF} {w : World} : ∀ (t : Ty) (vs : List Value) (x : t.den), Rep p w t vs x → Wf t x
  | .unit, _, _, _ => trivial
  | .bool, _, _, _ => trivial
  | .pt _, _, _, _ => trivial
  | .nd _, _, _, _ => trivial
  | .ref _, _, _, _ => trivial
  | .int _, _, _, h => h.2
  | .str, _, _, h => by
    obtain ⟨ba, _, rfl, hs⟩ := h; refine ⟨by rw [bytesI_len]; exact hs, fun c hc => ?_⟩
    obtain ⟨b, _, rfl⟩ := List.mem_map.1 hc; have := b.toNat_lt
    omega
  | .pair a b, _, _, h => by
    obtain ⟨va, vb, _, h1, h2⟩ := h; exact ⟨Rep.wf a _ _ h1, Rep.wf b _ _ h2⟩
  | .sl e, vs, xs, h => by
    rcases h with ⟨_, h⟩ | ⟨b, off, cap, _, h1, h2, h3⟩ | ⟨_, _, h⟩
    · have h' : (xs : List e.den) = [] := h
      subst h'; exact ⟨Nat.zero_le _, fun x hx => by cases hx⟩
    · refine ⟨Nat.le_trans h1 h2, fun x hx => ?_⟩
      obtain ⟨i, hi⟩ := List.getElem?_of_mem hx
      obtain ⟨cs, _, hr⟩ := h3 i x hi; exact Rep.wf e _ _ hr
    · have h' : (xs : List e.den) = [] := h
      subst h'; exact ⟨Nat.zero_le _, fun x hx => by cases hx⟩

theorem Rep.split [Arn] {p : PF} {w : World} : ∀ (t : Ty) (vs : List Value) (x : t.den), Rep p w t vs x →
    ∃ ds : List D, All2 (fun d v => RepD p w v d) ds vs ∧ ds.map (·.t) = t.cells ∧ ∀ d ∈ ds, Wf d.t d.x
  | .unit, _, _, h => by simp only [Rep] at h; subst h; exact ⟨[], .nil, rfl, fun d hd => by cases hd⟩
  | .bool, _, x, h => by
    have h' := h
    simp only [Rep] at h'; subst h'; exact ⟨[⟨.bool, x⟩], .cons h .nil, rfl, fun d hd => by simp only [List.mem_singleton] at hd; subst hd; exact Rep.wf _ _ _ h⟩
  | .int k, _, x, h => by
    have h' := h
    simp only [Rep] at h'; obtain ⟨rfl, _⟩ := h'; exact ⟨[⟨.int k, x⟩], .cons h .nil, rfl, fun d hd => by simp only [List.mem_singleton] at hd; subst hd; exact Rep.wf _ _ _ h⟩
  | .str, _, x, h => by
    have h' := h
    simp only [Rep] at h'; obtain ⟨_, rfl, _⟩ := h'; exact ⟨[⟨.str, x⟩], .cons h .nil, rfl, fun d hd => by simp only [List.mem_singleton] at hd; subst hd; exact Rep.wf _ _ _ h⟩
  | .sl e, vs, x, h => by
    have h1 := Rep.len _ _ _ h
    match vs, h1 with
    | [v], _ => exact ⟨[⟨.sl e, x⟩], .cons h .nil, rfl, fun d hd => by simp only [List.mem_singleton] at hd; subst hd; exact Rep.wf _ _ _ h⟩
  | .pt e, vs, x, h => by
    have h1 := Rep.len _ _ _ h
    match vs, h1 with
    | [v], _ => exact ⟨[⟨.pt e, x⟩], .cons h .nil, rfl, fun d hd => by simp only [List.mem_singleton] at hd; subst hd; exact Rep.wf _ _ _ h⟩
  | .ref e, vs, x, h => by
    have h1 := Rep.len _ _ _ h
    match vs, h1 with
    | [v], _ => exact ⟨[⟨.ref e, x⟩], .cons h .nil, rfl, fun d hd => by simp only [List.mem_singleton] at hd; subst hd; exact Rep.wf _ _ _ h⟩
  | .nd e, vs, x, h => by
    have h1 := Rep.len _ _ _ h
    match vs, h1 with
    | [v], _ => exact ⟨[⟨.nd e, x⟩], .cons h .nil, rfl, fun d hd => by simp only [List.mem_singleton] at hd; subst hd; exact Rep.wf _ _ _ h⟩
  | .pair a b, vs, x, h => by
    simp only [Rep] at h; obtain ⟨va, vb, rfl, h1, h2⟩ := h; obtain ⟨d1, k1, k2, k3⟩ := Rep.split a _ _ h1; obtain ⟨d2, j1, j2, j3⟩ := Rep.split b _ _ h2; refine ⟨d1 ++ d2, k1.app j1, by simp [Ty.cells, k2, j2], fun d hd => ?_⟩
    rcases List.mem_append.1 hd with hd | hd
    · exact k3 d hd
    · exact j3 d hd

theorem pairs_wpos [Arn] : ∀ (ts : List Ty), (pairs ts).wpos = true → ∀ t ∈ ts, t.wpos = true
  | [], _, t, h => by cases h
  | [t], h, u, hu => by simp only [List.mem_singleton] at hu; subst hu; exact h
  | t :: u :: ts, h, v, hv => by
    simp only [pairs, Ty.wpos, Bool.and_eq_true] at h; rcases List.mem_cons.1 hv with rfl | hv
    · exact h.1
    · exact pairs_wpos (u :: ts) h.2 v hv

section
variable {H : Type} {enc : TypeId × Value → H} {P : Program} {W : World} {held : Bool}

theorem fields_rep [Arn] {p : PF} {f : TypeId → Option Ty} {r : TypeId → List Value → Option (DataW H × List MemPlace)} {cs : List Value} :
    ∀ (fs : List Field) (ts : List Ty) (o : Nat) (xs : List (DataW H × List MemPlace)), tysOf f fs = some ts → offsOk o fs ts = true → (∀ x ∈ fs, ∀ t, f x.type = some t → P.cellsOf x.type = t.width) →
      (∀ t ∈ ts, t.wpos = true) → (∀ x ∈ fs, ∀ t, f x.type = some t → t.wpos = true → ∀ c y, r x.type c = some y → ∃ z, Rep p W t c z) →
      fs.mapM (fun x => r x.type ((cs.drop x.offset).take (P.cellsOf x.type))) = some xs → (cs.drop o).length = (pairs ts).width → ∃ y, Rep p W (pairs ts) (cs.drop o) y
  | [], ts, o, xs, h1, h2, h3, h4, h5, h6, h7 => by
    simp only [tysOf, oi] at h1; subst h1; have : cs.drop o = [] := List.length_eq_zero_iff.1 h7
    rw [this]; exact ⟨(), rfl⟩
  | x :: fs, ts, o, xs, h1, h2, h3, h4, h5, h6, h7 => by
    simp only [tysOf] at h1; split at h1
    · rename_i t ts' e1 e2; simp only [oi] at h1; subst h1; simp only [offsOk, Bool.and_eq_true, beq_iff_eq] at h2; obtain ⟨ho, h2⟩ := h2; have hw := h3 x (by simp) t e1
      rw [List.mapM_cons] at h6; cases hx : r x.type ((cs.drop x.offset).take (P.cellsOf x.type)) with
      | none => simp [hx] at h6
      | some y =>
        cases hxs : fs.mapM (fun x => r x.type ((cs.drop x.offset).take (P.cellsOf x.type))) with
        | none => simp [hx, hxs] at h6
        | some ys =>
          rw [ho, hw] at hx; obtain ⟨z, hz⟩ := h5 x (by simp) t e1 (h4 t (by simp)) _ _ hx
          cases ts' with
          | nil =>
            have : (cs.drop o).take t.width = cs.drop o := List.take_of_length_le (by rw [h7]; simp [pairs])
            rw [this] at hz; exact ⟨z, hz⟩
          | cons u us =>
            have hl : (cs.drop (o + t.width)).length = (pairs (u :: us)).width := by
              simp only [pairs, Ty.width] at h7; rw [List.length_drop] at h7 ⊢; omega
            obtain ⟨z', hz'⟩ := fields_rep fs (u :: us) (o + t.width) ys e2 h2 (fun x hx => h3 x (by simp [hx])) (fun t ht => h4 t (by simp [ht])) (fun x hx => h5 x (by simp [hx])) hxs hl
            refine ⟨(z, z'), (cs.drop o).take t.width, cs.drop (o + t.width), ?_, hz, hz'⟩
            rw [← List.drop_drop, List.take_append_drop]
    · cases h1

theorem list_of [Arn] {α : Type} {Q : Nat → α → Prop} : ∀ (n : Nat), (∀ i, i < n → ∃ y, Q i y) → ∃ ys : List α, ys.length = n ∧ ∀ i y, ys[i]? = some y → Q i y
  | 0, _ => ⟨[], rfl, fun i y h => by simp at h⟩
  | n + 1, h => by
    obtain ⟨ys, h1, h2⟩ := list_of n (fun i hi => h i (by omega))
    obtain ⟨y, hy⟩ := h n (by omega)
    refine ⟨ys ++ [y], by simp [h1], fun i z hz => ?_⟩
    by_cases hi : i < n
    · rw [List.getElem?_append_left (by omega)] at hz; exact h2 i z hz
    · rw [List.getElem?_append_right (by omega)] at hz; have : i - ys.length = 0 := by
        have := (List.getElem?_eq_some_iff.1 hz).1
        simp at this; omega
      rw [this] at hz; simp at hz; subst hz
      rwa [show i = n by omega]

theorem spot_none [Arn] {b : Nat} {a : Addr} {n i : Nat} {cs : List Value} (h : W.cells? b (a.add (i * n)) n = some cs) (hn : 0 < n) (hi : i = 0 ) : a.spot = none := by
  subst hi; obtain ⟨_, _, h3⟩ := World.cells?_some h
  have h4 := h3 0 hn
  have hl : 0 < cs.length := by obtain ⟨_, h, _⟩ := World.cells?_some h; omega
  rw [List.getElem?_eq_getElem hl] at h4; simp only [Nat.zero_mul] at h4; have e : (a.add 0).add 0 = a := by simp [Addr.add]
  rw [e] at h4; unfold World.cell? at h4
  split at h4
  · split at h4
    · cases h4
    · rename_i hs; simpa using hs
  · cases h4

theorem trod_rep [Arn] : ∀ (m n : Nat) (t : TypeId) (ty : Ty) (cs : List Value) (x : DataW H × List MemPlace), tyOf P n t = some ty → ty.wpos = true →
    DataW.trod enc P W 0 (fun _ => true) held m t cs = some x → ∃ y, Rep (PF.all W) W ty cs y
  | 0, _, _, _, _, _, _, _, h => by simp [DataW.trod] at h
  | m + 1, 0, _, _, _, _, h, _, _ => by simp [tyOf] at h
  | m + 1, n + 1, t, ty, cs, x, ht, hp, h => by
    simp only [tyOf] at ht; split at ht
    · rename_i k hu; split at ht
      · cases ht; simp only [DataW.trod, hu] at h; split at h
        all_goals first | (rename_i hh; cases hh; done) | skip
        · rename_i k1 k2 nn hh; cases hh; split at h
          · rename_i hc; obtain ⟨rfl, hwf⟩ := hc; simp only [Lit.wf, Bool.and_eq_true, decide_eq_true_eq] at hwf; exact ⟨nn, rfl, hwf⟩
          · cases h
        all_goals simp_all
      · cases ht
    · rename_i hu; split at ht
      · cases ht; simp only [DataW.trod, hu] at h; split at h
        · exact ⟨_, rfl⟩
        all_goals simp_all
      · cases ht
    · rename_i hu; split at ht
      · cases ht; simp only [DataW.trod, hu] at h; split at h
        all_goals first | (rename_i hh; cases hh; done) | skip
        · split at h
          · rename_i hs; exact ⟨_, _, rfl, rfl, hs⟩
          · cases h
        all_goals simp_all
      · cases ht
    · rename_i e hu; split at ht
      · split at ht
        · rename_i u he; cases ht; simp only [Ty.wpos, Bool.and_eq_true, decide_eq_true_eq] at hp; have hw : P.cellsOf e = u.width := tyOf_width _ _ _ he
          rcases DataW.trod_slice hu h with ⟨rfl, _⟩ | ⟨a, len, cap, elems, rest, n', hf, rfl, rfl, _, hl, hm, hlen, hel, hsp, _⟩
          · exact ⟨[], .inl ⟨rfl, rfl⟩⟩
          · cases hf; obtain ⟨hr, hrest⟩ := hsp rfl; have each : ∀ i, i < len → ∃ y c, W.cells? 0 (a.add (i * P.cellsOf e)) (P.cellsOf e) = some c ∧ Rep (PF.all W) W u c y := fun i hi => by
              have := hel i hi
              have hlt : i < elems.length := by omega
              rw [List.getElem?_eq_getElem hlt] at this; obtain ⟨c, h1, h2⟩ := Option.bind_eq_some_iff.1 this; obtain ⟨y, hy⟩ := trod_rep m n e u c _ he hp.2 h2; exact ⟨y, c, h1, hy⟩
            by_cases hc0 : cap = 0
            · subst hc0; have : len = 0 := by omega
              subst this; exact ⟨[], .inr (.inr ⟨a, rfl, rfl⟩)⟩
            · have hspot : a.spot = none := by
                by_cases h0 : 0 < len
                · obtain ⟨y, c, h1, _⟩ := each 0 h0; exact spot_none h1 (by omega) rfl
                · have h00 : len = 0 := by omega
                  subst h00; have := hrest 0 (by omega)
                  have hlt : 0 < rest.length := by omega
                  rw [List.getElem?_eq_getElem hlt] at this; obtain ⟨c, h1, h2⟩ := Option.bind_eq_some_iff.1 this; exact spot_none (i := 0) h1 (by omega) rfl
              obtain ⟨b, off, spot⟩ := a; simp only at hspot
              subst hspot; obtain ⟨ys, hys, hY⟩ := list_of len (Q := fun i y => ∃ c, W.cells? 0 (Addr.add ⟨b, off, none⟩ (i * P.cellsOf e)) (P.cellsOf e) = some c ∧ Rep (PF.all W) W u c y) each
              refine ⟨ys, .inr (.inl ⟨b, off, cap, by rw [hys], by rw [hys]; exact hl, hm, fun i y hy => ?_⟩)⟩
              obtain ⟨c, h1, h2⟩ := hY i y hy; refine ⟨c, fun j v hv => ?_, h2⟩
              obtain ⟨_, h4, h5⟩ := World.cells?_some h1
              have hj : j < P.cellsOf e := by rw [← h4]; exact (List.getElem?_eq_some_iff.1 hv).1
              have h6 := h5 j hj
              rw [Addr.add_mid, Addr.add_mid, hv, hw] at h6; refine ⟨?_, h6⟩
              unfold World.cell? at h6
              split at h6
              · rename_i h7; exact (Array.getElem?_eq_some_iff.1 h7).1
              · cases h6
        · cases ht
      · cases ht
    · rename_i fs hu; split at ht
      · rename_i ts hts; split at ht
        · rename_i hc; cases ht; simp only [Bool.and_eq_true, beq_iff_eq] at hc; simp only [DataW.trod, hu] at h; split at h
          · rename_i hlen; simp only [Option.map_eq_some_iff] at h; obtain ⟨xs, hxs, rfl⟩ := h; have := fields_rep (P := P) (W := W) (p := PF.all W) (f := tyOf P n) (r := DataW.trod enc P W 0 (fun _ => true) held m) (cs := cs) fs.toList ts 0 xs hts hc.1 (fun x _ t h => tyOf_width _ _ _ h) (pairs_wpos ts hp)
              (fun x _ t h1 h2 c y h3 => trod_rep m n x.type t c y h1 h2 h3) hxs (by rw [List.drop_zero, hlen, ← hc.2]; rfl)
            simpa using this
          · cases h
        · cases ht
      · cases ht
    · obtain ⟨_, _, ⟨_, rfl | rfl⟩ | ⟨_, rfl⟩⟩ := ptrOf_some ht <;> simp [Ty.wpos] at hp

def insOk [Arn] (P : Program) : List TypeId → List (Bool × Ty) → Bool
  | [], [] => true
  | t :: ts, (ag, ty) :: r => (match tyOf P 9 t with | some u => decide (u = ty) | none => false) && (ag == isAgg' P t) && ty.wpos && P.readableRec t && decide (t < P.types.size) && insOk P ts r
  | _, _ => false

theorem cell_form [Arn] {n : Nat} {t : TypeId} {ty : Ty} {base : Nat} {v : Value} (ht : tyOf P (n + 1) t = some ty) (ha : isAgg' P t = false) (hv : Value.okWide P W .any base t v) : v.cells.toList = [v] := by
  simp only [tyOf] at ht; unfold isAgg' at ha; unfold Value.okWide at hv; cases v; case agg cs =>
    split at ht
    case h_6 =>
      rcases (ptrOf_some ht).1 with ⟨_, hu⟩ | ⟨_, _, hu⟩ <;> simp_all [Cell.okWide, Cell.ok]
    all_goals simp_all [Cell.okWide, Cell.ok]
  all_goals rfl

theorem argsRep [Arn] {base : Nat} : ∀ (ts : List TypeId) (ins : List (Bool × Ty)) (vs : List Value) (ds : List (DataW H)) (ps : List MemPlace), insOk P ts ins = true → DataW.TrodAll enc P W 0 (fun _ => true) true ts vs ds ps →
    (∀ (j : Nat) (t : TypeId) (v : Value), ts[j]? = some t → vs[j]? = some v → Value.okWide P W .any base t v) →
    ∃ cs dd, partVals (ins.map fun q => (q.1, q.2.cells.length)) vs cs ∧ All2 (fun d v => RepD (PF.all W) W v d) dd cs ∧ dd.map (·.t) = (ins.map (·.2.cells)).flatten ∧ ∀ d ∈ dd, Wf d.t d.x
  | [], [], vs, ds, ps, h, hA, hv => by
    cases vs with
    | nil => exact ⟨[], [], rfl, .nil, rfl, fun d hd => by cases hd⟩
    | cons => simp [DataW.TrodAll] at hA
  | [], _ :: _, _, _, _, h, _, _ => by simp [insOk] at h
  | _ :: _, [], _, _, _, h, _, _ => by simp [insOk] at h
  | t :: ts, (ag, ty) :: r, vs, ds, ps, h, hA, hv => by
    match vs, ds, hA with
    | [], _, hA => simp [DataW.TrodAll] at hA
    | v :: vs, [], hA => simp [DataW.TrodAll] at hA
    | v :: vs, d :: ds, hA =>
      obtain ⟨p1, q1, ⟨m, h1⟩, h2, _⟩ := hA; simp only [insOk, Bool.and_eq_true] at h; obtain ⟨⟨⟨⟨⟨k1, k2⟩, k3⟩, _⟩, _⟩, k6⟩ := h; split at k1
      · rename_i u hu; simp only [decide_eq_true_eq] at k1; subst k1; obtain ⟨y, hy⟩ := trod_rep m 9 t u _ _ hu k3 h1; obtain ⟨d1, j1, j2, j3⟩ := Rep.split _ _ _ hy; obtain ⟨cs, dd, e1, e2, e3, e4⟩ := argsRep ts r vs ds q1 k6 h2 (fun j t v ht hv' => hv (j + 1) t v (by simpa using ht) (by simpa using hv'))
        have hv0 := hv 0 t v rfl rfl
        have hlen : v.cells.toList.length = u.cells.length := by rw [← j1.len, ← j2, List.length_map]
        refine ⟨v.cells.toList ++ cs, d1 ++ dd, ⟨v.cells.toList, cs, rfl, hlen, ?_, e1⟩, j1.app e2, by simp [j2, e3], fun d hd => ?_⟩
        · cases hag : isAgg' P t with
          | false =>
            rw [hag] at k2; exact .inr ⟨by simpa using k2, cell_form (n := 8) hu hag hv0⟩
          | true =>
            rw [hag] at k2; refine .inl ⟨by simpa using k2, ?_⟩
            unfold isAgg' at hag; unfold Value.okWide at hv0; split at hag
            · rename_i e; rw [e] at hv0; obtain ⟨c, rfl, _⟩ := hv0; simp [Value.cells]
            · rename_i e; rw [e] at hv0; obtain ⟨c, rfl, _⟩ := hv0; simp [Value.cells]
            · cases hag
        · rcases List.mem_append.1 hd with hd | hd
          · exact j3 d hd
          · exact e4 d hd
      · cases k1

theorem args_below [Arn] {W' : World} (hl : laidOutB P = true) (hb : Below W.heap.size W W') : ∀ (ts : List TypeId) (ins : List (Bool × Ty)) (vs : List Value) (ds : List (DataW H)) (ps : List MemPlace), insOk P ts ins = true →
    DataW.TrodAll enc P W 0 (fun _ => true) true ts vs ds ps → (∀ x ∈ ps, x.block < W.heap.size) → DataW.TrodAll enc P W' 0 (fun b => decide (b < W.heap.size)) true ts vs ds ps
  | [], [], vs, ds, ps, h, hA, hp => by
    match vs, ds, hA with
    | [], [], hA => exact hA
    | [], _ :: _, hA => simp [DataW.TrodAll] at hA
    | _ :: _, _, hA => simp [DataW.TrodAll] at hA
  | [], _ :: _, _, _, _, h, _, _ => by simp [insOk] at h
  | _ :: _, [], _, _, _, h, _, _ => by simp [insOk] at h
  | t :: ts, (ag, ty) :: r, vs, ds, ps, h, hA, hp => by
    match vs, ds, hA with
    | [], _, hA => simp [DataW.TrodAll] at hA
    | v :: vs, [], hA => simp [DataW.TrodAll] at hA
    | v :: vs, d :: ds, hA =>
      obtain ⟨p1, q1, h1, h2, rfl⟩ := hA; simp only [insOk, Bool.and_eq_true, decide_eq_true_eq] at h; obtain ⟨⟨⟨⟨⟨_, _⟩, _⟩, k4⟩, k5⟩, k6⟩ := h; exact ⟨p1, q1, Below.trod hl k4 k5 h1 hb (fun x hx => hp x (by simp [hx])), args_below hl hb ts r vs ds q1 k6 h2 (fun x hx => hp x (by simp [hx])), rfl⟩

theorem law_contract [Arn] {f : FuncId} {fn : Func} {sig : Sig} {F : List D → Option (List D)} {rt : TypeId} {s : ChangeSpec} (hok : FnOk P f sig F) (hl : laidOutB P = true) (hin : insOk P fn.params.toList sig.ins = true)
    (hout : sig.outs = [(false, [(.bool, none)])]) (hres : fn.resultTypes = #[rt]) (hrt : P.underlying rt = some .bool)
    (hF : ∀ ds : List D, ds.map (·.t) = inL sig → (∀ d ∈ ds, Wf d.t d.x) → F ds = some [⟨.bool, true⟩])
    (hs : s.vars = []) (hfn : ∀ ds : List (DataW H), ds.length = fn.params.toList.length → s.fn H ds = { results := [.lit (.bool true)], args := ds })
    (base : Nat) (args : Array Value) (ds gs : List (DataW H)) (before : List MemPlace)
    (hval : ∀ (j : Nat) t v, fn.params[j]? = some t → args[j]? = some v → Value.okWide P W .any base t v)
    (hW : DataW.Whole enc P fn.params.toList s.vars false W args.toList ds gs before) :
    Calls P f args W fun e W' => ∃ v, e = .returned v ∧ s.post enc P fn false true false false W args v W' := by
  have hW' := hW
  obtain ⟨p, q, hA, hV, rfl, hfz, hnd⟩ := hW; have hlt : ∀ x ∈ p, x.block < W.heap.size := fun x hx => hW'.lt x (by simp [hx])
  have hgs : gs = [] ∧ q = [] := by
    rw [hs] at hV; cases gs with
    | nil => exact ⟨rfl, hV⟩
    | cons => simp [DataW.TrodVars] at hV
  obtain ⟨rfl, rfl⟩ := hgs; have hlen : ds.length = fn.params.toList.length := by
    have : ∀ (ts : List TypeId) (vs : List Value) (ds : List (DataW H)) (ps : List MemPlace), DataW.TrodAll enc P W 0 (fun _ => true) true ts vs ds ps → ds.length = ts.length := by
      intro ts; induction ts with
      | nil => intro vs ds ps h; cases vs <;> cases ds <;> simp_all [DataW.TrodAll]
      | cons t ts ih => 
        intro vs ds ps h; cases vs with
        | nil => simp [DataW.TrodAll] at h
        | cons v vs =>
          cases ds with
          | nil => simp [DataW.TrodAll] at h
          | cons d ds =>
            obtain ⟨_, _, _, h2, _⟩ := h; simp [ih _ _ _ h2]
    exact this _ _ _ _ hA
  obtain ⟨cs, dd, h1, h2, h3, h4⟩ := argsRep fn.params.toList sig.ins args.toList ds p hin hA (fun j t v ht hv => hval j t v (by simpa using ht) (by simpa using hv))
  have hcall := hok.2 W (PF.all W) args.toList cs dd _ (fun b o h => h) h1 h2 h3 (hF dd h3 h4)
  rw [Array.toArray_toList] at hcall; refine hcall.mono fun e W' ⟨v, he, p', us, cs', hr, _⟩ => ⟨v, he, ?_⟩
  obtain rfl : v = .bool true := by
    have hp := hr.parts
    rw [hout] at hp; have hrep := hr.rep
    cases hrep with
    | cons k1 k2 =>
      cases k2; rename_i u; match us, hp with
      | [], hp => simp [partVals] at hp
      | u' :: us, hp =>
        simp only [List.map_cons, List.map_nil, partVals] at hp; obtain ⟨c1, c2, e1, e2, e3, e4⟩ := hp; rcases e3 with ⟨h, _⟩ | ⟨_, rfl⟩
        · cases h
        · match us, e4 with
          | [], e4 =>
            subst e4; simp only [List.append_nil, List.cons.injEq, and_true] at e1; subst e1; have hval := hr.val
            simp only [resVal] at hval; have k3 : Rep p' W' .bool [u] true := k1
            simp only [Rep, List.cons.injEq, and_true] at k3; rw [hval, k3]
          | _ :: _, e4 => simp [partVals] at e4
  have hle := hfn (ds ++ []) (by simpa using hlen)
  refine ⟨ds, [], p ++ [], [], p, [], hW', ?_, ?_, ?_, hr.bel.frame _, fun h => by cases h⟩
  · rw [hle, hres]; exact ⟨[], [], ⟨1, by simp [Value.cells, DataW.trod, hrt]⟩, rfl, rfl⟩
  · rw [hle, List.append_nil]; exact args_below hl hr.bel _ _ _ _ _ hin hA hlt
  · rw [hle, hs]; rfl
end
end Go.Proofs.Ytmglkddddpipgaa.Sx

namespace Go.Proofs.Ytmglkddddpipgaa.Sx
open Go.RowKit

structure Ct where
  sig : Sig
  F : List D → Option (List D)

noncomputable def Phi (l : List Ct) : Nat → Cont := fun id R ds κ =>
  match look (l.map fun c => (c.sig.id, c)) id with
  | some c => match c.F ds with
    | some outs => if outs.map (·.t) = outT c.sig then κ outs else none
    | none => none
  | none => none

noncomputable def Fof (l : List Ct) (ir : IR) : List D → Option (List D) := fun ds => den (Phi l) ir (List D) 0 ds some (fun _ _ => none)

noncomputable def Gam (l : List (FuncId × Sig)) : FuncId → Option Sig := fun f => look l f

section
variable {P : Program}

theorem FnOkA.mono [Arn] {f : FuncId} {sig : Sig} {F G : List D → Option (List D)} (h : FnOkA P f sig F) (hg : ∀ ds rs, G ds = some rs → F ds = some rs) : FnOkA P f sig G :=
  ⟨h.1, fun w p om vs cs ds as rs h1 h2 h3 h4 h5 h6 h7 => h.2 w p om vs cs ds as rs h1 h2 h3 h4 h5 h6 (hg _ _ h7)⟩

theorem FnOk.mono [Arn] {f : FuncId} {sig : Sig} {F G : List D → Option (List D)} (h : FnOk P f sig F) (hg : ∀ ds rs, G ds = some rs → F ds = some rs) : FnOk P f sig G :=
  ⟨h.1, fun w p vs cs ds rs h1 h2 h3 h4 h5 => h.2 w p vs cs ds rs h1 h2 h3 h4 (hg _ _ h5)⟩

theorem FnOkX.mono [Arn] {f : FuncId} {sig : Sig} {F G : List D → Option (List D)} (h : FnOkX P f sig F) (hg : ∀ ds rs, G ds = some rs → F ds = some rs) : FnOkX P f sig G :=
  ⟨fun e => (h.1 e).mono hg, fun e => (h.2 e).mono hg⟩

theorem FnOk.x [Arn] {f : FuncId} {sig : Sig} {F : List D → Option (List D)} (h : FnOk P f sig F) (hs : sig.ars = []) : FnOkX P f sig F := ⟨fun _ => h, fun e => absurd hs e⟩

inductive Good (P : Program) : List (FuncId × Ct) → Prop
  | nil : Good P []
  | cons {f : FuncId} {c : Ct} {l : List (FuncId × Ct)} : FnOkX P f c.sig c.F → (∀ q ∈ l, q.2.sig.id ≠ c.sig.id) → Good P l → Good P ((f, c) :: l)

theorem look_mem' [Arn] {α : Type} : ∀ (l : List (Nat × α)) (i : Nat) (x : α), look l i = some x → (i, x) ∈ l
  | [], i, x, h => by cases h
  | p :: l, i, x, h => by
    rw [look_cons] at h; split at h
    · rename_i e; simp only [oi] at h; subst h; subst e; simp
    · exact List.mem_cons_of_mem _ (look_mem' l i x h)

theorem Good.fn [Arn] {l : List (FuncId × Ct)} (h : Good P l) : ∀ q ∈ l, FnOkX P q.1 q.2.sig q.2.F := by
  induction h with
  | nil => intro q hq; cases hq
  | cons h1 _ _ ih =>
    intro q hq; rcases List.mem_cons.1 hq with rfl | hq
    · exact h1
    · exact ih q hq

theorem Good.lk [Arn] {l : List (FuncId × Ct)} (h : Good P l) : ∀ q ∈ l, look (l.map fun c => (c.2.sig.id, c.2)) q.2.sig.id = some q.2 := by
  induction h with
  | nil => intro q hq; cases hq
  | cons h1 h2 _ ih =>
    rename_i f c l; intro q hq; rw [List.map_cons, look_cons]; rcases List.mem_cons.1 hq with rfl | hq
    · rw [if_pos rfl]
    · rw [if_neg (fun e => h2 q hq e.symm)]; exact ih q hq

theorem Good.ok [Arn] {l : List (FuncId × Ct)} (h : Good P l) {inl : FuncId → Bool} {nop : Bool} {unr : Nat → Bool} {mt : FuncId → Bool} {loc : List (Nat × ArT)} : ΦOk ⟨P, Gam (l.map fun q => (q.1, q.2.sig)), inl, nop, unr, mt, fun _ _ => none, loc⟩ (Phi (l.map (·.2))) := by
  refine ⟨?_, fun f g id h => by cases h⟩
  intro f sig hs; have hs' : look (l.map fun q => (q.1, q.2.sig)) f = some sig := hs
  obtain ⟨q, hq, e⟩ := List.mem_map.1 (look_mem' _ _ _ hs')
  simp only [Prod.mk.injEq] at e; obtain ⟨rfl, rfl⟩ := e; have hl := h.lk q hq
  have hP : ∀ (R : Type) (ds : List D) (κ : List D → Option R), Phi (l.map (·.2)) q.2.sig.id R ds κ = match q.2.F ds with
      | some outs => if outs.map (·.t) = outT q.2.sig then κ outs else none
      | none => none := by
    intro R ds κ; unfold Phi; rw [List.map_map]; simp only [Function.comp_def]; rw [hl]
  refine ⟨(h.fn q hq).mono fun ds rs hr => ?_, fun R ds κ r hr => ?_⟩
  · rw [hP] at hr; split at hr
    · rename_i outs ho; split at hr
      · rw [ho]; exact hr
      · cases hr
    · cases hr
  · rw [hP] at hr; simp only [hP]; split at hr
    · rename_i outs ho; split at hr
      · rename_i ht; exact ⟨outs, by rw [if_pos ht], hr, ht⟩
      · cases hr
    · cases hr

theorem ok_of [Arn] (hm : P.follows .mixedOrders = true) {l : List (FuncId × Ct)} (h : Good P l) {inl : FuncId → Bool} {f : FuncId} {sig : Sig} {ir : IR} {nop : Bool} {unr : Nat → Bool} {mt : FuncId → Bool} {loc : List (Nat × ArT)} (hl : loc = [] ∨ (sig.ars = [] ∧ sig.noref = true))
    (hs : sx ⟨P, Gam (l.map fun q => (q.1, q.2.sig)), inl, nop, unr, mt, fun _ _ => none, loc⟩ f sig = some ir) : FnOkX P f sig (Fof (l.map (·.2)) ir) := by
  have h1 := h.ok (inl := inl) (nop := nop) (unr := unr) (mt := mt) (loc := loc)
  have h2 := sx_ok h1 hm hl hs
  unfold Fof; exact h2

structure MFn (P : Program) (f g : FuncId) (c : Ct) : Prop where
  fn : ∃ fn b, P.funcs[f]? = some fn ∧ fn.body = some b ∧ (fn.name == "runtime.NumGoroutine") = false
  out : (outT c.sig).length = 1
  ok : ∀ (w : World) (B : Nat) (e : TypeId) (t : Ty) (v : Value) (n : Nat) (xs : List Value) (ys : List t.den) (outs : List D), w.ownsRow B e t.width v n xs → FFlats t xs ys → t.flat = true → ys.length = n →
    c.F [⟨.sl t, ys⟩] = some outs →
    Calls P f #[v, .func (.func g) #[] #[]] w fun en w' => en = .returned (.tuple #[]) ∧ w.grownBy w' v.ownBlock ∧
      ∃ (zs : List t.den) (xs' : List Value), outs = [⟨.sl t, zs⟩] ∧ w'.ownsRow B e t.width v n xs' ∧ zs.length = n ∧ FFlats t xs' zs

theorem FnOkX.any [Arn] {f : FuncId} {sig : Sig} {F : Nat → List D → Option (List D)} (h : ∀ n, FnOkX P f sig (F n)) {G : List D → Option (List D)} (hg : ∀ ds rs, G ds = some rs → ∃ n, F n ds = some rs) : FnOkX P f sig G :=
  ⟨fun e => ⟨((h 0).1 e).1, fun w p vs cs ds rs h1 h2 h3 h4 h5 => by
    obtain ⟨n, hn⟩ := hg _ _ h5; exact ((h n).1 e).2 w p vs cs ds rs h1 h2 h3 h4 hn⟩, fun e => ⟨((h 0).2 e).1, fun w p om vs cs ds as rs h1 h2 h3 h4 h5 h6 h7 => by
    obtain ⟨n, hn⟩ := hg _ _ h7; exact ((h n).2 e).2 w p om vs cs ds as rs h1 h2 h3 h4 h5 h6 hn⟩⟩
end

theorem Good.add [Arn] {P : Program} {f : FuncId} {c : Ct} {l : List (FuncId × Ct)} (h : FnOkX P f c.sig c.F) (hn : (l.all fun q => !Nat.beq q.2.sig.id c.sig.id) = true) (hl : Good P l) : Good P ((f, c) :: l) := by
  refine .cons h (fun q hq e => ?_) hl
  have := List.all_eq_true.1 hn q hq
  rw [e] at this; simp at this

theorem iter_meas [Arn] {σ R : Type} {step : σ → Option (LS σ R)} (μ : σ → Nat) (f : σ → R) (I : σ → Prop) {s : σ} (hI : I s)
    (h : ∀ s, I s → (∃ s', step s = some (.again s') ∧ I s' ∧ μ s' < μ s ∧ f s' = f s) ∨ step s = some (.out (f s))) : iter step s = some (f s) := by
  have key : ∀ n s, μ s ≤ n → I s → iter step s = some (f s) := by
    intro n; induction n with
    | zero =>
      intro s hs hI; rw [iter_eq]; rcases h s hI with ⟨s', h1, h2, h3, h4⟩ | h1
      · omega
      · rw [h1]
    | succ n ih =>
      intro s hs hI; rw [iter_eq]; rcases h s hI with ⟨s', h1, h2, h3, h4⟩ | h1
      · rw [h1]; simp only; rw [← h4]; exact ih s' (by omega) h2
      · rw [h1]
  exact key _ s (Nat.le_refl _) hI

theorem Phi_call [Arn] {l : List Ct} {id : Nat} {c : Ct} (hl : look (l.map fun c => (c.sig.id, c)) id = some c) {R : Type} {ds outs : List D} {κ : List D → Option R} (hF : c.F ds = some outs)
    (ht : outs.map (·.t) = outT c.sig) : Phi l id R ds κ = κ outs := by
  unfold Phi; rw [hl]; simp only [hF, if_pos ht]
end Go.Proofs.Ytmglkddddpipgaa.Sx
