/-
  Jumps to the head of a loop; returns; calls that are entered.
-/
import Derived.Test.YtmglkddddpipgaaK3
import Derived.Scope
set_option linter.unusedVariables false
set_option linter.unusedSimpArgs false
namespace Go.Proofs.Ytmglkddddpipgaa.Sx
open Go.RowKit

noncomputable def absSlots (n : Nat) (σ : List (Nat × SV)) (i : Nat) : SV := if i < n then (look σ i).getD .dead else .dead

noncomputable def abs (st : SS) : AS where
  n := st.n
  slot := absSlots st.n st.slots
  box β := if β < st.nb then look st.boxes β else none
  known k := k < st.ntok
  live k := k ∈ st.live
  saved := st.saved.map fun q => (q.1, absSlots q.1 q.2)
  dyn := st.dynAt
  ar := st.arAt
  out := st.outAt

theorem blt_eq [Arn] (a b : Nat) : Nat.blt a b = decide (a < b) := by
  by_cases h : a < b
  · rw [decide_eq_true h, Nat.blt_eq]; exact h
  · simp only [h, decide_false]; cases hb : Nat.blt a b with
    | false => rfl
    | true => rw [Nat.blt_eq] at hb; exact absurd hb h

theorem boxAt_abs [Arn] (st : SS) (β : Nat) : st.boxAt β = (abs st).box β := by
  simp only [SS.boxAt, abs, blt_eq]; by_cases h : β < st.nb <;> simp [h]

theorem slot_abs [Arn] {st : SS} {i : Nat} {sv : SV} (h : st.slot i = some sv) : i < st.n ∧ (abs st).slot i = sv := by
  unfold SS.slot at h; rw [blt_eq] at h; by_cases hi : i < st.n
  · simp only [hi, decide_true] at h; refine ⟨hi, ?_⟩
    simp only [abs, absSlots, hi, if_true]; cases hl : look st.slots i with
    | none => simp [hl] at h; simpa using h
    | some v => simp [hl] at h; simpa using h
  · simp [hi] at h

theorem look_cons [Arn] {τ : Type} (j : Nat) (v : τ) (l : List (Nat × τ)) (i : Nat) : look ((j, v) :: l) i = if j = i then some v else look l i := by
  show (bif Nat.beq j i then some v else look l i) = _
  cases hb : Nat.beq j i with
  | true => rw [if_pos (Nat.eq_of_beq_eq_true hb)]; rfl
  | false => rw [if_neg (fun e => by subst e; simp at hb)]; rfl

theorem toks_mem [Arn] (k n j : Nat) : j ∈ toks k n ↔ k ≤ j ∧ j < k + n := by
  induction n generalizing k with
  | zero => simp only [toks, List.not_mem_nil, false_iff]; omega
  | succ n ih => simp only [toks, List.mem_cons, ih]; omega

noncomputable def SS.after (st : SS) (δ : Δ) : SS := st.app δ id

theorem SS.app_eq [Arn] {τ : Type} (st : SS) (δ : Δ) (k : SS → τ) : st.app δ k = k (st.after δ) := by
  obtain ⟨n, sl, sv, nb, bx, lv, nt, nv, fa, dn, ar, hn, ou⟩ := st; obtain ⟨dst, v, newb, setb, kill, t, m, dy, dr⟩ := δ; simp only [SS.after, SS.app, fL_eq, fN_eq, id]

def newSlots (st : SS) (δ : Δ) : List (Nat × SV) := match δ.dst with | some i => (i, δ.sv) :: st.slots | none => st.slots
def setBoxes (st : SS) (δ : Δ) : List (Nat × List SC) := match δ.setb with | some p => p :: st.boxes | none => st.boxes
def newBoxes (st : SS) (δ : Δ) : List (Nat × List SC) := match δ.newb with | some r => (st.nb, r) :: setBoxes st δ | none => setBoxes st δ
def newLive (st : SS) (δ : Δ) : List Nat := toks st.ntok δ.nt ++ (match δ.kill with | some k => st.live.filter (fun j => !Nat.beq j k) | none => st.live)
def newNb (st : SS) (δ : Δ) : Nat := match δ.newb with | some _ => st.nb + 1 | none => st.nb

theorem after_eq [Arn] (st : SS) (δ : Δ) : st.after δ = SS.mk st.n (newSlots st δ) st.saved (newNb st δ) (newBoxes st δ) (newLive st δ) (st.ntok + δ.nt) (st.nv + δ.nv) st.facts (δ.dy ++ st.dyn) (δ.dr ++ st.ar) st.hn st.out := by
  obtain ⟨n, sl, sv, nb, bx, lv, nt, nv, fa, dn, ar, hn, ou⟩ := st; obtain ⟨dst, v, newb, setb, kill, t, m, dy, dr⟩ := δ; simp only [SS.after, SS.app, fL_eq, fN_eq, id]; cases newb <;> rfl

theorem look_app [Arn] {τ : Type} : ∀ (l m : List (Nat × τ)) (i : Nat), look (l ++ m) i = match look l i with | some x => some x | none => look m i
  | [], m, i => rfl
  | (j, v) :: l, m, i => by
    rw [List.cons_append, look_cons, look_cons, look_app l m i]; split <;> rfl

theorem look_set [Arn] (st : SS) (δ : Δ) (β : Nat) : look (setBoxes st δ) β = match δ.setb with | some (β', row) => if β = β' then some row else look st.boxes β | none => look st.boxes β := by
  unfold setBoxes; cases δ.setb with
  | none => rfl
  | some q => 
    obtain ⟨β', row⟩ := q; simp only [look_cons]; by_cases e : β' = β
    · subst e; simp
    · rw [if_neg e, if_neg (Ne.symm e)]

theorem abs_after [Arn] (st : SS) (δ : Δ) (hd : ∀ d, δ.dst = some d → d < st.n) (hok : okδ st δ = true) : abs (st.after δ) = (abs st).upd δ st.nb st.ntok := by
  simp only [okδ, Bool.and_eq_true] at hok; have hset : ∀ β, (if β < st.nb then look (setBoxes st δ) β else none) = match δ.setb with | some (β', row) => if β = β' then some row else (abs st).box β | none => (abs st).box β := by
    intro β; rw [look_set]; cases hs : δ.setb with
    | none => rfl
    | some q =>
      obtain ⟨β', row⟩ := q; simp only [hs, blt_eq, decide_eq_true_eq] at hok; by_cases e : β = β'
      · subst e; simp [hok.1]
      · simp [e, abs]
  rw [after_eq]; unfold AS.upd; unfold abs; simp only [AS.mk.injEq]; refine ⟨trivial, ?_, ?_, ?_, ?_, trivial, ?_, ?_, rfl⟩
  rotate_left 4
  · funext k
    simp only [SS.dynAt, look_app]; cases look δ.dy k <;> rfl
  · funext k
    simp only [SS.arAt, look_app]; cases look δ.dr k <;> rfl
  · funext i
    unfold newSlots; cases hdst : δ.dst with
    | none => simp
    | some d =>
      have := hd d hdst
      simp only [absSlots, look_cons, oi]; by_cases e : d = i
      · subst e; simp [this]
      · simp [e]
  · funext β
    unfold newNb newBoxes; cases hn : δ.newb with
    | none => simp only; exact hset β
    | some r =>
      simp only [look_cons]; by_cases e : β = st.nb
      · subst e; simp
      · have h1 := hset β
        rw [if_neg e]; refine Eq.trans ?_ h1
        rw [if_neg (Ne.symm e)]; by_cases hlt : β < st.nb
        · rw [if_pos (by omega), if_pos hlt]
        · rw [if_neg (by omega), if_neg hlt]
  · funext k
    apply propext
    omega
  · funext k
    apply propext
    unfold newLive; simp only [List.mem_append, toks_mem]; cases hk : δ.kill with
    | none => simp; exact Or.comm
    | some j =>
      simp only [List.mem_filter, Bool.not_eq_true', ne_eq, oi]; have : (Nat.beq k j = false) ↔ ¬ j = k := by
        cases hb : Nat.beq k j with
        | true => have := Nat.eq_of_beq_eq_true hb; simp [this]
        | false => simp; rintro rfl; simp at hb
      rw [this]; exact Or.comm

def outN : Pr → Nat
  | .hget e _ => e.cells.length | .hnew _ _ => 2 | .mget _ _ _ ok => (if ok = true then 2 else 1) | .cpy _ => 2 | .inb => 0 | .nnl => 0 | .npp => 0 | .pod e => e.cells.length | .idx e => e.cells.length | .nod e => e.cells.length + 3 | _ => 1

theorem ibin_nat [Arn] {R : Type} {op : BinOp} {k : IntKind} {x y : Int} {κ : Int → Option R} {r : R} (h : ibin op k x y κ = some r) : ∃ z, (∀ (S : Type) (κ' : Int → Option S), ibin op k x y κ' = κ' z) ∧ κ z = some r := by
  cases op <;> simp only [ibin, reduceCtorEq] at h ⊢
  all_goals first
    | exact ⟨_, fun _ _ => rfl, h⟩
    | (split at h
       · simp at h
       · rename_i hc; exact ⟨_, fun _ _ => if_neg hc, h⟩)

theorem icmp_nat [Arn] {R : Type} {op : BinOp} {x y : Int} {κ : Bool → Option R} {r : R} (h : icmp op x y κ = some r) : ∃ z, (∀ (S : Type) (κ' : Bool → Option S), icmp op x y κ' = κ' z) ∧ κ z = some r := by
  cases op <;> simp only [icmp, reduceCtorEq] at h ⊢ <;> exact ⟨_, fun _ _ => rfl, h⟩

theorem scmp_nat [Arn] {R : Type} {op : BinOp} {x y : List Int} {κ : Bool → Option R} {r : R} (h : scmp op x y κ = some r) : ∃ z, (∀ (S : Type) (κ' : Bool → Option S), scmp op x y κ' = κ' z) ∧ κ z = some r := by
  cases op <;> simp only [scmp, reduceCtorEq] at h ⊢ <;> exact ⟨_, fun _ _ => rfl, h⟩

theorem evalPr_nat [Arn] {R : Type} {Φ : Nat → Cont} {q : Pr} {ds : List D} {κ : List D → Option R} {r : R} (hq : ∀ id, q ≠ .call id) (h : evalPr Φ q ds κ = some r) :
    ∃ outs, evalPr (R := List D) Φ q ds some = some outs ∧ κ outs = some r ∧ outs.length = outN q := by
  cases q; case call id => exact absurd rfl (hq id)
  case ibin op k =>
    simp only [evalPr] at h ⊢; split at h
    · obtain ⟨z, h1, h2⟩ := ibin_nat h; exact ⟨_, h1 _ _, h2, rfl⟩
    · cases h
  case icmp op =>
    simp only [evalPr] at h ⊢; split at h
    · obtain ⟨z, h1, h2⟩ := icmp_nat h; exact ⟨_, h1 _ _, h2, rfl⟩
    · cases h
  case scmp op =>
    simp only [evalPr] at h ⊢; split at h
    · obtain ⟨z, h1, h2⟩ := scmp_nat h; exact ⟨_, h1 _ _, h2, rfl⟩
    · cases h
  case upd e off =>
    simp only [evalPr] at h ⊢; split at h
    · split at h
      · rename_i hc; split at h
        · rename_i y hy; refine ⟨_, ?_, h, rfl⟩
          rw [if_pos hc]
        · cases h
      · cases h
    · cases h
  case idx e =>
    simp only [evalPr] at h ⊢; split at h
    · split at h
      · rename_i e' _ _ _ hc; subst hc; refine ⟨_, if_pos rfl, h, split_len _ _⟩
      · cases h
    · cases h
  case npp =>
    simp only [evalPr] at h ⊢; split at h
    · rename_i e x; cases x with
      | none => cases h
      | some y => exact ⟨_, rfl, h, rfl⟩
    · cases h
  case pod e =>
    simp only [evalPr] at h ⊢; split at h
    · rename_i e' x; split at h
      · rename_i hc; subst hc; cases x with
        | none => cases h
        | some y => exact ⟨_, if_pos rfl, h, split_len _ _⟩
      · cases h
    · cases h
  case isp neg =>
    simp only [evalPr] at h ⊢; split at h
    · rename_i e x; cases x <;> exact ⟨_, rfl, h, rfl⟩
    · cases h
  case nnl =>
    simp only [evalPr] at h ⊢; split at h
    · rename_i e x; cases x with
      | leaf => cases h
      | node y l r k => exact ⟨_, rfl, h, rfl⟩
    · cases h
  case nod e =>
    simp only [evalPr] at h ⊢; split at h
    · rename_i e' x; split at h
      · rename_i hc; subst hc; cases x with
        | leaf => cases h
        | node y l r k =>
          refine ⟨_, if_pos rfl, h, ?_⟩
          simp [outN, split_len]
      · cases h
    · cases h
  case isr neg =>
    simp only [evalPr] at h ⊢; split at h
    · rename_i e x; cases x <;> exact ⟨_, rfl, h, rfl⟩
    · cases h
  case hget e k =>
    simp only [evalPr] at h ⊢; split at h
    · rename_i e' xs k' r0; split at h
      · rename_i hc; obtain ⟨rfl, rfl⟩ := hc; cases r0 with
        | none => cases h
        | some j =>
          simp only at h ⊢
          split at h
          · rename_i y hy; exact ⟨_, by simp [hy], h, by simp [outN, split_len]⟩
          · cases h
      · cases h
    · cases h
  case hset e k =>
    simp only [evalPr] at h ⊢; split at h
    · rename_i e' xs k' r0 cs; split at h
      · rename_i hc; obtain ⟨rfl, rfl⟩ := hc; cases r0 with
        | none => cases h
        | some j =>
          simp only at h ⊢
          split at h
          · rename_i y hy; split at h
            · rename_i hj; exact ⟨_, by simp [hy, hj], h, rfl⟩
            · cases h
          · cases h
      · cases h
    · cases h
  case hnew e k =>
    simp only [evalPr] at h ⊢; split at h
    · rename_i e' xs cs; split at h
      · rename_i hc; subst hc; split at h
        · rename_i y hy; exact ⟨_, by simp [hy], h, rfl⟩
        · cases h
      · cases h
    · cases h
  case mget K V k ok =>
    simp only [evalPr] at h ⊢; split at h
    · rename_i e' xs k' r0 d; split at h
      · rename_i hc; subst hc; simp only [if_true]; split at h
        · rename_i ys key hy hk; try simp only [hy, hk]
          split at h
          · rename_i y hm; try simp only [hm]
            split at h
            · rename_i v hv; try simp only [hv]
              exact ⟨_, rfl, h, by cases ok <;> rfl⟩
            · rename_i hv; try simp only [hv]
              exact ⟨_, rfl, h, by cases ok <;> rfl⟩
          · cases h
        · cases h
      · cases h
    · cases h
  case mput K V k =>
    simp only [evalPr] at h ⊢; split at h
    · rename_i e' xs k' r0 d u; split at h
      · rename_i hc; subst hc; simp only [if_true]; cases r0 with
        | none => cases h
        | some j =>
          simp only at h ⊢
          split at h
          · rename_i ys key v hy hk hv; try simp only [hy, hk, hv]
            split at h
            · rename_i y hm; try simp only [hm]
              exact ⟨_, rfl, h, rfl⟩
            · cases h
          · cases h
      · cases h
    · cases h
  case mdel K V k =>
    simp only [evalPr] at h ⊢; split at h
    · rename_i e' xs k' r0 d; split at h
      · rename_i hc; subst hc; simp only [if_true]; split at h
        · rename_i ys key hy hk; try simp only [hy, hk]
          cases r0 with
          | none => exact ⟨_, rfl, h, rfl⟩
          | some j =>
            simp only at h ⊢
            split at h
            · rename_i y hm; try simp only [hm]
              exact ⟨_, rfl, h, rfl⟩
            · cases h
        · cases h
      · cases h
    · cases h
  case mlen K V k =>
    simp only [evalPr] at h ⊢; split at h
    · rename_i e' xs k' r0; split at h
      · rename_i hc; subst hc; simp only [if_true]; split at h
        · rename_i ys hy; try simp only [hy]
          split at h
          · rename_i y hm; try simp only [hm]
            split at h
            · rename_i hl; exact ⟨_, if_pos hl, h, rfl⟩
            · cases h
          · cases h
        · cases h
      · cases h
    · cases h
  case cpy e =>
    simp only [evalPr] at h ⊢; split at h
    · rename_i e' xs e'' ys; split at h
      · rename_i hc; subst hc; simp only [if_true]; split at h
        · rename_i zs hz; try simp only [hz]
          exact ⟨_, rfl, h, rfl⟩
        · cases h
      · cases h
    · cases h
  case isn neg =>
    simp only [evalPr] at h ⊢; split at h
    · rename_i e x; cases x <;> exact ⟨_, rfl, h, rfl⟩
    · cases h
  all_goals
    simp only [evalPr] at h ⊢
    (repeat' (first | (cases h; done) | exact ⟨_, rfl, h, rfl⟩ | exact ⟨_, if_pos (by assumption), h, rfl⟩ | split at h))
end Go.Proofs.Ytmglkddddpipgaa.Sx

namespace Go.Proofs.Ytmglkddddpipgaa.Sx
open Go.RowKit

structure Info (X : Cx) (st : SS) (o : Oper) (e : Option (Pr × List A × List Ty)) (δ : Δ) : Prop where
  dst : δ.dst = o.dst
  nov : e = none → δ.nv = 0
  vars : ∀ q xs ts, e = some (q, xs, ts) → (∃ f sig, X.Γ f = some sig ∧ q = .call sig.id ∧ δ.nv = (outT sig).length) ∨ ((∀ id, q ≠ .call id) ∧ δ.nv = outN q) ∨ (∃ f g id, X.mc f g = some id ∧ q = .call id ∧ δ.nv = 1)
  kill : ∀ k, δ.kill = some k → k ∈ st.live

section
variable {X : Cx} {st : SS} {o : Oper} {e : Option (Pr × List A × List Ty)} {δ : Δ}

theorem Info.pure [Arn] {sv : SV} : Info X st o none { dst := o.dst, sv := sv } := ⟨rfl, fun _ => rfl, fun _ _ _ h => by simp at h, fun _ h => by simp at h⟩

theorem Info.eOne [Arn] {sv : SV} (h : eOne o sv = some (.go e δ)) : Info X st o e δ := by
  obtain ⟨rfl, rfl⟩ := eOne_go h; exact .pure

theorem Info.bind [Arn] {s : Option SV} (h : (s.bind fun sv => Sx.eOne o sv) = some (.go e δ)) : Info X st o e δ := by
  simp only [Option.bind_eq_some_iff] at h; obtain ⟨sv, _, h⟩ := h; exact .eOne h

theorem Info.ePr [Arn] {q : Pr} {xs : List A} {t : Ty} (h : ePr st o q xs t = some (.go e δ)) (hq : (∀ id, q ≠ .call id) ∧ outN q = 1) : Info X st o e δ := by
  obtain ⟨rfl, rfl⟩ := ePr_go h; refine ⟨rfl, fun h => by simp at h, fun q' xs' ts' h => ?_, fun _ h => by simp at h⟩
  simp only [oi, Prod.mk.injEq] at h; obtain ⟨rfl, _, _⟩ := h; exact .inr (.inl ⟨hq.1, hq.2.symm⟩)

theorem Info.none0 [Arn] {δ0 : Δ} (h : (some (Eff.go none δ0) : Option Eff) = some (.go e δ)) (hd : δ0.dst = o.dst) (hn : δ0.nv = 0) (hk : δ0.kill = none) : Info X st o e δ := by
  simp only [oi, Eff.go.injEq] at h; obtain ⟨rfl, rfl⟩ := h; exact ⟨hd, fun _ => hn, fun _ _ _ h => by simp at h, fun _ h => by rw [hk] at h; simp at h⟩

theorem Info.some1 [Arn] {q : Pr} {xs : List A} {ts : List Ty} {δ0 : Δ} (h : (some (Eff.go (some (q, xs, ts)) δ0) : Option Eff) = some (.go e δ)) (hq : (∀ id, q ≠ .call id) ∧ outN q = δ0.nv) (hd : δ0.dst = o.dst) (hk : ∀ k, δ0.kill = some k → k ∈ st.live) : Info X st o e δ := by
  simp only [oi, Eff.go.injEq] at h; obtain ⟨rfl, rfl⟩ := h; refine ⟨hd, fun h => by simp at h, fun q' xs' ts' h => ?_, hk⟩
  simp only [oi, Prod.mk.injEq] at h; obtain ⟨rfl, _, _⟩ := h; exact .inr (.inl ⟨hq.1, hq.2.symm⟩)

theorem doBinC_info [Arn] {td : Option TypeDesc} {op : BinOp} {cx cy : SC} (hs : doBinC td st o op cx cy = some (.go e δ)) : Info X st o e δ := by
  unfold doBinC at hs
  (repeat' (first | (cases hs; done) | exact Info.eOne hs | exact Info.bind hs | exact Info.ePr hs ⟨by simp, rfl⟩ | exact Info.none0 hs rfl rfl rfl | split at hs))

theorem doBin_info [Arn] {op : BinOp} {t : TypeId} {x y : SV} (hs : doBin X.P st o op t x y = some (.go e δ)) : Info X st o e δ := by
  unfold doBin at hs; split at hs
  · exact doBinC_info hs
  · (repeat' (first | (cases hs; done) | exact Info.eOne hs | exact Info.bind hs | exact Info.ePr hs ⟨by simp, rfl⟩ | exact Info.none0 hs rfl rfl rfl | split at hs))
  · cases hs

theorem opPick_info [Arn] {c a b : Operand} (hs : opPick X.P st o c a b = some (.go e δ)) : Info X st o e δ := by
  unfold opPick at hs
  (repeat' (first | (cases hs; done) | exact Info.eOne hs | exact Info.bind hs | exact Info.ePr hs ⟨by simp, rfl⟩ | exact Info.none0 hs rfl rfl rfl | split at hs))

theorem opLoad_info [Arn] {t : TypeId} {x : Operand} (hs : opLoad X.P st o t x = some (.go e δ)) : Info X st o e δ := by
  unfold opLoad at hs; split at hs
  · (repeat' (first | (cases hs; done) | exact Info.eOne hs | exact Info.bind hs | exact Info.ePr hs ⟨by simp, rfl⟩ | exact Info.none0 hs rfl rfl rfl | split at hs))
  · split at hs
    · simp only [Option.bind_eq_some_iff, oi, Eff.go.injEq] at hs; obtain ⟨sv, h1, rfl, rfl⟩ := hs; refine ⟨rfl, fun h => by simp at h, fun q' xs' ts' h => ?_, fun _ h => by simp at h⟩
      simp only [oi, Prod.mk.injEq] at h; obtain ⟨rfl, _, _⟩ := h; exact .inr (.inl ⟨by simp, rfl⟩)
    · cases hs
  · split at hs
    · exact .eOne hs
    · cases hs
  · split at hs
    · simp only [Option.bind_eq_some_iff] at hs; obtain ⟨sv, h1, hs⟩ := hs; exact .some1 hs ⟨by simp, rfl⟩ rfl (by simp)
    · cases hs
  · split at hs
    · simp only [Option.bind_eq_some_iff] at hs; obtain ⟨sv, h1, hs⟩ := hs; exact .some1 hs ⟨by simp, by simp [outN, Ty.nod]⟩ rfl (by simp)
    · cases hs
  · split at hs
    · split at hs
      · simp only [Option.bind_eq_some_iff] at hs; obtain ⟨sv, h1, hs⟩ := hs; exact .some1 hs ⟨by simp, rfl⟩ rfl (by simp)
      · cases hs
    · cases hs
  · cases hs

theorem opStore_info [Arn] {t : TypeId} {x y : Operand} (hs : opStore X.P st o t x y = some (.go e δ)) : Info X st o e δ := by
  unfold opStore at hs; simp only [fL_eq] at hs
  (repeat' (first | (cases hs; done) | exact Info.eOne hs | exact Info.bind hs | exact Info.ePr hs ⟨by simp, rfl⟩ | exact Info.none0 hs rfl rfl rfl | exact Info.some1 hs ⟨by simp, rfl⟩ rfl (by simp) | split at hs))

theorem opConvert_info [Arn] {s d : TypeId} {x : Operand} (hs : opConvert X.P st o s d x = some (.go e δ)) : Info X st o e δ := by
  unfold opConvert at hs
  (repeat' (first | (cases hs; done) | exact Info.eOne hs | exact Info.bind hs | exact Info.ePr hs ⟨by simp, rfl⟩ | exact Info.none0 hs rfl rfl rfl | split at hs))

theorem opSlice_info [Arn] {t : TypeId} {x : Operand} {lo hi mx : Option Operand} (hs : opSlice X.P st o t x lo hi mx = some (.go e δ)) : Info X st o e δ := by
  simp only [opSlice] at hs; split at hs
  · simp only [opSliceD] at hs; split at hs
    · split at hs
      · split at hs
        · rename_i hb; simp only [Bool.and_eq_true, List.contains_eq_mem, decide_eq_true_eq] at hb; exact .some1 hs ⟨by simp, rfl⟩ rfl (fun k hk => by simp only [oi] at hk; subst hk; exact hb.2)
        · cases hs
      · cases hs
    · split at hs
      · split at hs
        · exact .some1 hs ⟨by simp, rfl⟩ rfl (by simp)
        · cases hs
      · cases hs
    · cases hs
  split at hs
  · split at hs
    · split at hs
      · exact .some1 hs ⟨by simp, rfl⟩ rfl (by simp)
      · cases hs
    · cases hs
  · split at hs
    · exact Info.ePr hs ⟨by simp, rfl⟩
    · split at hs
      · exact Info.ePr hs ⟨by simp, rfl⟩
      · cases hs
    · cases hs
  · cases hs

theorem opIndexD_info [Arn] {t e' : TypeId} {x : Operand} {n : A} (hs : opIndexD X.P st o t x n e' = some (.go e δ)) : Info X st o e δ := by
  unfold opIndexD at hs; split at hs
  · split at hs
    · exact .some1 hs ⟨by simp, rfl⟩ rfl (by simp)
    · cases hs
  · cases hs

theorem opIndexAddr_info [Arn] {t : TypeId} {x i : Operand} (hs : opIndexAddr X.P st o t x i = some (.go e δ)) : Info X st o e δ := by
  unfold opIndexAddr at hs; split at hs
  · split at hs
    · simp only [oi, Eff.go.injEq] at hs; obtain ⟨rfl, rfl⟩ := hs; refine ⟨rfl, fun h => by simp at h, fun q' xs' ts' h => ?_, fun _ h => by simp at h⟩
      simp only [oi, Prod.mk.injEq] at h; obtain ⟨rfl, _, _⟩ := h; exact .inr (.inl ⟨by simp, rfl⟩)
    · cases hs
  · split at hs
    · split at hs
      · simp only [Option.bind_eq_some_iff] at hs; obtain ⟨q, _, hs⟩ := hs; exact .eOne hs
      · cases hs
    · exact opIndexD_info hs
  · exact opIndexD_info hs
  · cases hs

theorem opBuildSlice_info [Arn] {t : TypeId} {len : Nat} {parts : List (Nat × Operand)} (hs : opBuildSlice X.P st o t len parts = some (.go e δ)) : Info X st o e δ := by
  unfold opBuildSlice at hs; split at hs
  · split at hs
    · split at hs
      · split at hs
        · split at hs
          · simp only [oi, Eff.go.injEq] at hs; obtain ⟨rfl, rfl⟩ := hs; refine ⟨rfl, fun h => by simp at h, fun q' xs' ts' h => ?_, fun _ h => by simp at h⟩
            simp only [oi, Prod.mk.injEq] at h; obtain ⟨rfl, _, _⟩ := h; exact .inr (.inl ⟨by simp, rfl⟩)
          · cases hs
        · cases hs
      · cases hs
    · split at hs
      · split at hs
        · simp only [fL_eq] at hs; exact .none0 hs rfl rfl rfl
        · cases hs
      · cases hs
    · cases hs
  · cases hs

theorem lstOf_live [Arn] {el : TypeId} {c : SC} {ps : List (Nat × Nat)} {k : Nat} (h : lstOf st el c = some (ps, some k)) : k ∈ st.live := by
  unfold lstOf at h; split at h
  · simp at h
  · split at h
    · rename_i hb; simp only [Bool.and_eq_true, List.contains_eq_mem, decide_eq_true_eq] at hb; simp only [oi, Prod.mk.injEq] at h; obtain ⟨_, rfl⟩ := h; exact hb.1
    · cases h
  · cases h

theorem appTok_live [Arn] {te : Ty} {el : TypeId} {c : SC} {k : Nat} (h : appTok st te el c = some (some k)) : k ∈ st.live := by
  unfold appTok at h; split at h
  · split at h
    · rename_i hb; simp only [Bool.and_eq_true, List.contains_eq_mem, decide_eq_true_eq] at hb; simp only [oi] at h; subst h; exact hb.1.1
    · cases h
  · split at h <;> simp at h
  · cases h

theorem doAppend_info [Arn] {t0 t1 : TypeId} {x y : Operand} (hs : doAppend X.P st o t0 t1 x y = some (.go e δ)) : Info X st o e δ := by
  unfold doAppend at hs; split at hs
  · split at hs
    · split at hs
      · split at hs
        · split at hs
          · exact .some1 hs ⟨by simp, rfl⟩ rfl (by simp)
          · cases hs
        · cases hs
        split at hs
        · rename_i kl ax tx htok harg; have fin : ∀ (q : Pr) (xs : List A) (ts : List Ty) (d : Option Tmp) (sv : SV), (∀ id, q ≠ .call id) → outN q = 1 → d = o.dst →
              Info X st o (some (q, xs, ts)) { dst := d, sv := sv, kill := kl, nt := 1, nv := 1 } := by
            intro q xs ts d sv h1 h2 h3; refine ⟨h3, fun h => by simp at h, fun q' xs' ts' h => ?_, fun k hk => ?_⟩
            · simp only [oi, Prod.mk.injEq] at h; obtain ⟨rfl, _, _⟩ := h; exact .inr (.inl ⟨h1, h2.symm⟩)
            · simp only at hk; subst hk; exact appTok_live htok
          simp only at hs
          split at hs
          · split at hs
            · simp only [oi, Eff.go.injEq] at hs; obtain ⟨rfl, rfl⟩ := hs; exact fin _ _ _ _ _ (by simp) rfl rfl
            · cases hs
          · split at hs
            · simp only [oi, Eff.go.injEq] at hs; obtain ⟨rfl, rfl⟩ := hs; exact fin _ _ _ _ _ (by simp) rfl rfl
            · cases hs
          · cases hs
        · cases hs
      · cases hs
    · cases hs
  · simp only [doAppendP] at hs; split at hs
    · split at hs
      · rename_i ps kl htok; split at hs
        · simp only [fL_eq, oi, Eff.go.injEq] at hs; obtain ⟨rfl, rfl⟩ := hs; exact ⟨rfl, fun _ => rfl, fun _ _ _ h => by simp at h, fun k hk => by simp only at hk; subst hk; exact lstOf_live htok⟩
        · cases hs
      · cases hs
    · cases hs
  · cases hs

theorem opAppD_info [Arn] {t0 t1 : TypeId} {x y : Operand} (hs : opAppD X.P st o t0 t1 x y = some (.go e δ)) : Info X st o e δ := by
  unfold opAppD at hs; have fin : ∀ (q : Pr) (xs : List A) (ts : List Ty) (k : Nat) (dy : List (Nat × Option (Nat × Ty × TypeId))), (∀ id, q ≠ .call id) → outN q = 1 → st.live.contains k = true →
      Info X st o (some (q, xs, ts)) { dst := o.dst, sv := .one (.dsl st.ntok), kill := some k, nt := 1, nv := 1, dy := dy } := by
    intro q xs ts k dy h1 h2 h3; refine ⟨rfl, fun h => by simp at h, fun q' xs' ts' h => ?_, fun k' hk => ?_⟩
    · simp only [oi, Prod.mk.injEq] at h; obtain ⟨rfl, _, _⟩ := h; exact .inr (.inl ⟨h1, h2.symm⟩)
    · simp only [oi] at hk; subst hk; simpa using h3
  split at hs
  · split at hs
    · split at hs
      · split at hs
        · rename_i hd; split at hs
          · simp only [oi, Eff.go.injEq] at hs; obtain ⟨rfl, rfl⟩ := hs; refine fin _ _ _ _ _ (by simp) rfl ?_
            unfold SS.dynL at hd; split at hd
            · assumption
            · cases hd
          · cases hs
        · cases hs
      · split at hs
        · rename_i hb; simp only [Bool.and_eq_true] at hb; simp only [oi, Eff.go.injEq] at hs; obtain ⟨rfl, rfl⟩ := hs; exact fin _ _ _ _ _ (by simp) rfl hb.1.1
        · cases hs
      · cases hs
    · cases hs
  · cases hs

theorem doBuiltin_info [Arn] {b : Builtin} {ts : List TypeId} {xs : List Operand} (hs : doBuiltin X st o b ts xs = some (.go e δ)) : Info X st o e δ := by
  unfold doBuiltin at hs; simp only [opMapLen] at hs; split at hs
  · (repeat' (first | (cases hs; done) | exact Info.eOne hs | exact Info.bind hs | exact Info.ePr hs ⟨by simp, rfl⟩ | exact Info.none0 hs rfl rfl rfl | split at hs))
  · (repeat' (first | (cases hs; done) | exact Info.some1 hs ⟨by simp, rfl⟩ rfl (by simp) | split at hs))
  · split at hs
    · exact opAppD_info hs
    · exact doAppend_info hs
  · simp only [opDelete] at hs
    (repeat' (first | (cases hs; done) | exact Info.eOne hs | exact Info.bind hs | exact Info.ePr hs ⟨by simp, rfl⟩ | exact Info.some1 hs ⟨by simp, rfl⟩ rfl (by simp) | exact Info.none0 hs rfl rfl rfl | split at hs))
  · (repeat' (first | (cases hs; done) | exact Info.eOne hs | exact Info.bind hs | exact Info.ePr hs ⟨by simp, rfl⟩ | exact Info.some1 hs ⟨by simp, rfl⟩ rfl (by simp) | exact Info.none0 hs rfl rfl rfl | split at hs))
  · (repeat' (first | (cases hs; done) | exact Info.eOne hs | exact Info.bind hs | exact Info.ePr hs ⟨by simp, rfl⟩ | exact Info.none0 hs rfl rfl rfl | split at hs))
  · (repeat' (first | (cases hs; done) | exact Info.eOne hs | exact Info.bind hs | exact Info.ePr hs ⟨by simp, rfl⟩ | exact Info.none0 hs rfl rfl rfl | split at hs))
  · cases hs

theorem doCall_info [Arn] {f : FuncId} {vs : List SV} (hs : doCall X st o f vs = some (.go e δ)) : Info X st o e δ := by
  unfold doCall at hs; split at hs
  · rename_i sig hsig; split at hs
    · split at hs
      · split at hs
        · split at hs
          · simp only [oi, Eff.go.injEq] at hs; obtain ⟨rfl, rfl⟩ := hs; refine ⟨rfl, fun h => by simp at h, fun q' xs' ts' h => ?_, fun _ h => by simp at h⟩
            simp only [oi, Prod.mk.injEq] at h; obtain ⟨rfl, _, _⟩ := h; exact .inl ⟨f, sig, hsig, rfl, by simp only [outT, outL, List.length_append, List.length_map]⟩
          · cases hs
        rename_i hars; split at hs
        all_goals
          simp only [oi, Eff.go.injEq] at hs; obtain ⟨rfl, rfl⟩ := hs; refine ⟨rfl, fun h => by simp at h, fun q' xs' ts' h => ?_, fun _ h => by simp at h⟩
          simp only [oi, Prod.mk.injEq] at h; obtain ⟨rfl, _, _⟩ := h; exact .inl ⟨f, sig, hsig, rfl, by simp only [outT, outL, hars, List.length_append, List.length_map, List.length_nil, Nat.add_zero]⟩
      · cases hs
    · cases hs
  · split at hs <;> simp at hs

theorem opCallV_info [Arn] {f : Operand} {xs : List Operand} {ts : List TypeId} (hs : opCallV X st o f xs ts = some (.go e δ)) : Info X st o e δ := by
  unfold opCallV at hs; split at hs
  · split at hs
    · split at hs
      · rename_i id kt i t el hmc; unfold mcOf at hmc; split at hmc
        · split at hmc
          · rename_i id' hid; simp only [Option.bind_eq_some_iff, Option.ite_none_right_eq_some, oi, Prod.mk.injEq] at hmc; obtain ⟨y, hdy, _, rfl, rfl, rfl⟩ := hmc; simp only [oi, Eff.go.injEq] at hs; obtain ⟨rfl, rfl⟩ := hs; refine ⟨rfl, fun h => by simp at h, fun q' xs' ts' h => ?_, fun _ h => by simp at h⟩
            simp only [oi, Prod.mk.injEq] at h; obtain ⟨rfl, _, _⟩ := h; exact .inr (.inr ⟨_, _, _, hid, rfl, rfl⟩)
          · cases hmc
        · cases hmc
      · exact doCall_info hs
    · cases hs
  · cases hs

theorem step_info [Arn] (hs : stepOp X st o = some (.go e δ)) : Info X st o e δ := by
  simp only [stepOp] at hs; split at hs
  · exact .bind hs
  · exact .bind hs
  · exact opPick_info hs
  · (repeat' (first | (cases hs; done) | exact Info.eOne hs | exact Info.bind hs | exact Info.ePr hs ⟨by simp, rfl⟩ | exact Info.none0 hs rfl rfl rfl | split at hs))
  · (repeat' (first | (cases hs; done) | exact Info.eOne hs | exact Info.bind hs | exact Info.ePr hs ⟨by simp, rfl⟩ | exact Info.none0 hs rfl rfl rfl | split at hs))
  · simp only [fL_eq] at hs; split at hs
    · simp only [Option.bind_eq_some_iff] at hs; obtain ⟨caps, _, h⟩ := hs; exact .eOne h
    · cases hs
  · exact opBuildSlice_info hs
  · exact opLoad_info hs
  · exact opStore_info hs
  · (repeat' (first | (cases hs; done) | exact Info.eOne hs | exact Info.bind hs | exact Info.ePr hs ⟨by simp, rfl⟩ | exact Info.none0 hs rfl rfl rfl | exact Info.some1 hs ⟨by simp, rfl⟩ rfl (by simp) | split at hs))
  · split at hs
    · exact doBin_info hs
    · cases hs
  · (repeat' (first | (cases hs; done) | exact Info.eOne hs | exact Info.bind hs | exact Info.ePr hs ⟨by simp, rfl⟩ | exact Info.none0 hs rfl rfl rfl | split at hs))
  · exact opConvert_info hs
  · simp at hs
  · simp at hs
  · split at hs
    · simp only [Option.bind_eq_some_iff] at hs; obtain ⟨caps, _, h⟩ := hs; exact .eOne h
    · cases hs
  · exact opSlice_info hs
  · (repeat' (first | (cases hs; done) | exact Info.eOne hs | exact Info.bind hs | exact Info.ePr hs ⟨by simp, rfl⟩ | exact Info.none0 hs rfl rfl rfl | split at hs))
  · (repeat' (first | (cases hs; done) | exact Info.eOne hs | exact Info.bind hs | exact Info.ePr hs ⟨by simp, rfl⟩ | exact Info.none0 hs rfl rfl rfl | split at hs))
  · exact opIndexAddr_info hs
  · (repeat' (first | (cases hs; done) | exact Info.eOne hs | exact Info.bind hs | exact Info.ePr hs ⟨by simp, rfl⟩ | exact Info.none0 hs rfl rfl rfl | split at hs))
  · (repeat' (first | (cases hs; done) | exact Info.eOne hs | exact Info.bind hs | exact Info.ePr hs ⟨by simp, rfl⟩ | exact Info.none0 hs rfl rfl rfl | split at hs))
  · split at hs
    · exact doBuiltin_info hs
    · exact opCallV_info hs
    · cases hs
  · rename_i t l c ho; simp only [opMakeSlice] at hs
    (repeat' (first | (cases hs; done) | exact Info.some1 hs ⟨by simp, rfl⟩ rfl (by simp) | split at hs))
  · simp only [opMakeMap] at hs
    (repeat' (first | (cases hs; done) | exact Info.eOne hs | exact Info.bind hs | exact Info.ePr hs ⟨by simp, rfl⟩ | exact Info.some1 hs ⟨by simp, rfl⟩ rfl (by simp) | exact Info.none0 hs rfl rfl rfl | split at hs))
  · simp only [opLookup] at hs
    (repeat' (first | (cases hs; done) | exact Info.eOne hs | exact Info.bind hs | exact Info.ePr hs ⟨by simp, rfl⟩ | exact Info.some1 hs ⟨by simp, rfl⟩ rfl (by simp) | exact Info.none0 hs rfl rfl rfl | split at hs))
  · simp only [opMapUpdate] at hs
    (repeat' (first | (cases hs; done) | exact Info.eOne hs | exact Info.bind hs | exact Info.ePr hs ⟨by simp, rfl⟩ | exact Info.some1 hs ⟨by simp, rfl⟩ rfl (by simp) | exact Info.none0 hs rfl rfl rfl | split at hs))
  · cases hs

theorem env_step [Arn] {Φ : Nat → Cont} (hΦ : ΦOk X Φ) {R : Type} {ρ : List D} {q : Pr} {xs : List A} {ts : List Ty} {ds : List D} {κ : List D → Option R} {r : R} (hi : Info X st o e δ) (he : e = some (q, xs, ts))
    (hx : evs ρ xs = some ds) (h : evalPr Φ q ds κ = some r) : ∃ outs, evalPr (R := List D) Φ q ds some = some outs ∧ κ outs = some r ∧ outs.length = δ.nv := by
  rcases hi.vars q xs ts he with ⟨f, sig, h1, rfl, h3⟩ | ⟨h1, h2⟩ | ⟨f, g, id, h1, rfl, h3⟩
  rotate_left 2
  · obtain ⟨outs, h4, h5, h6⟩ := (hΦ.mc f g id h1).2.1 R ds κ r h
    exact ⟨outs, h4, h5, by rw [h3, h6]⟩
  · obtain ⟨outs, h4, h5, h6⟩ := (hΦ.fn f sig h1).2 R ds κ r h
    refine ⟨outs, h4, h5, ?_⟩
    rw [h3, ← List.length_map (f := (·.t)), h6]
  · rw [h2]; exact evalPr_nat h1 h
end
end Go.Proofs.Ytmglkddddpipgaa.Sx

namespace Go.Proofs.Ytmglkddddpipgaa.Sx
open Go.RowKit

section
variable {B : Base} {ρ : List D} {st hd : SS} {a : Act} {bs : List Act} {w : World} {g : G}

def locVal (a : Act) (w : World) (g : G) : Loc → Value
  | .sl i => a.tmps.getD i undef
  | .bx β j => match w.heap[g.θ β]? with
    | some (.cells cs _ _) => cs.toList.getD j undef
    | _ => undef
  | .dn _ => undef
  | .ar _ => undef

theorem getLoc_dn [Arn] {k : Nat} {c : SC} (h : getLoc st (.dn k) = some c) : ∃ i t e, st.dynAt k = some (i, t, e) ∧ c = .a (.v i) (.sl t) := by
  simp only [getLoc, Option.map_eq_some_iff] at h; obtain ⟨⟨i, t, e⟩, h1, rfl⟩ := h; exact ⟨i, t, e, h1, rfl⟩

theorem getLoc_ar [Arn] {k : Nat} {c : SC} (h : getLoc st (.ar k) = some c) : ∃ T x, st.arAt k = some (T, x) ∧ c = .a x (.sl T.t) := by
  simp only [getLoc, Option.map_eq_some_iff] at h; obtain ⟨⟨T, x⟩, h1, rfl⟩ := h; exact ⟨T, x, h1, rfl⟩

theorem c1_some [Arn] {s : Option SV} {c : SC} (h : s.bind SV.c1 = some c) : s = some (.one c) := by
  cases s with
  | none => simp at h
  | some s => cases s <;> simp [SV.c1] at h; subst h; rfl

theorem box_abs [Arn] {β : Nat} {row : List SC} (hb : β < st.nb) (h : look st.boxes β = some row) : (abs st).box β = some row := by simp [abs, hb, h]

theorem loc_rep [Arn] (h : RelG B ρ (abs st) a bs w g) {l : Loc} {c : SC} (hl : getLoc st l = some c) (hne : ∀ k, l ≠ .dn k ∧ l ≠ .ar k) : SCRep ρ (abs st) g w c (locVal a w g l) := by
  cases l with
  | dn k => exact absurd rfl (hne k).1
  | ar k => exact absurd rfl (hne k).2
  | sl i =>
    obtain ⟨h1, h2⟩ := slot_abs (c1_some hl)
    have := h.slot i
    rw [h2] at this; exact this
  | bx β j =>
    simp only [getLoc, blt_eq, decide_eq_true_eq] at hl; split at hl
    · rename_i hlt; simp only [Option.bind_eq_some_iff] at hl; obtain ⟨row, h1, h2⟩ := hl; obtain ⟨cs, el, h3, h4⟩ := (h.box β row (box_abs hlt h1)).cells
      rw [nth_eq] at h2; obtain ⟨v, h5, h6⟩ := h4.get _ _ h2; simp only [locVal, h3, List.getD_eq_getElem?_getD, h5]; exact h6
    · cases hl

theorem carAll_get [Arn] : ∀ (car : List Loc) (i : Nat) (l : List (A × Option (Nat × Option Nat))), carAll st hd i car = some l →
    l.length = car.length ∧ ∀ (j : Nat) (loc : Loc), car[j]? = some loc → ∃ x, l[j]? = some x ∧ carOne st hd (i + j) loc = some x
  | [], i, l, h => by simp only [carAll, oi] at h; subst h; exact ⟨rfl, fun j loc h => by simp at h⟩
  | c :: r, i, l, h => by
    simp only [carAll] at h; split at h
    · rename_i x xs h1 h2; cases h; obtain ⟨h3, h4⟩ := carAll_get r (i + 1) xs h2
      refine ⟨by simp [h3], fun j loc hj => ?_⟩
      cases j with
      | zero => simp only [List.getElem?_cons_zero, oi] at hj; subst hj; exact ⟨x, rfl, h1⟩
      | succ j =>
        obtain ⟨y, h5, h6⟩ := h4 j loc (by simpa using hj)
        exact ⟨y, by simpa using h5, by rw [show i + (j + 1) = i + 1 + j by omega]; exact h6⟩
    · cases h

theorem evs_get [Arn] : ∀ (xs : List A) (ds : List D), evs ρ xs = some ds → ∀ (j : Nat) (x : A), xs[j]? = some x → ∃ d, x.ev ρ = some d ∧ ds[j]? = some d
  | [], ds, h, j, x, hj => by simp at hj
  | y :: xs, ds, h, j, x, hj => by
    simp only [evs] at h; split at h
    · rename_i d hd; split at h
      · rename_i ds' hds; cases h; cases j with
        | zero => simp only [List.getElem?_cons_zero, oi] at hj; subst hj; exact ⟨d, hd, rfl⟩
        | succ j =>
          obtain ⟨e, h1, h2⟩ := evs_get xs ds' hds j x (by simpa using hj)
          exact ⟨e, h1, by simpa using h2⟩
      · cases h
    · cases h

theorem nodup_spec [Arn] : ∀ (l : List Nat), nodup l = true → l.Nodup
  | [], _ => List.nodup_nil
  | a :: r, h => by
    simp only [nodup, Bool.and_eq_true, Bool.not_eq_true', List.contains_eq_mem, decide_eq_false_iff_not] at h; exact List.nodup_cons.2 ⟨h.1, nodup_spec r h.2⟩

theorem hdToks_mem [Arn] : ∀ (l : List (A × Option (Nat × Option Nat))) (k : Nat), k ∈ hdToks l ↔ ∃ (j : Nat) (x : A) (s : Option Nat), l[j]? = some (x, some (k, s))
  | [], k => by simp [hdToks]
  | (y, none) :: r, k => by
    simp only [hdToks, hdToks_mem r k]; constructor
    · rintro ⟨j, x, s, h⟩; exact ⟨j + 1, x, s, by simpa using h⟩
    · rintro ⟨j, x, s, h⟩; cases j with
      | zero => simp at h
      | succ j => exact ⟨j, x, s, by simpa using h⟩
  | (y, some (k', s')) :: r, k => by
    simp only [hdToks, List.mem_cons, hdToks_mem r k]; constructor
    · rintro (rfl | ⟨j, x, s, h⟩)
      · exact ⟨0, y, s', rfl⟩
      · exact ⟨j + 1, x, s, by simpa using h⟩
    · rintro ⟨j, x, s, h⟩; cases j with
      | zero => simp at h; exact .inl h.2.1.symm
      | succ j => exact .inr ⟨j, x, s, by simpa using h⟩

theorem srcToks_mem [Arn] : ∀ (l : List (A × Option (Nat × Option Nat))) (k : Nat), k ∈ srcToks l ↔ ∃ (j : Nat) (x : A) (k' : Nat), l[j]? = some (x, some (k', some k))
  | [], k => by simp [srcToks]
  | (y, none) :: r, k => by
    simp only [srcToks, srcToks_mem r k]; constructor
    · rintro ⟨j, x, s, h⟩; exact ⟨j + 1, x, s, by simpa using h⟩
    · rintro ⟨j, x, s, h⟩; cases j with
      | zero => simp at h
      | succ j => exact ⟨j, x, s, by simpa using h⟩
  | (y, some (k', none)) :: r, k => by
    simp only [srcToks, srcToks_mem r k]; constructor
    · rintro ⟨j, x, s, h⟩; exact ⟨j + 1, x, s, by simpa using h⟩
    · rintro ⟨j, x, s, h⟩; cases j with
      | zero => simp at h
      | succ j => exact ⟨j, x, s, by simpa using h⟩
  | (y, some (k', some k0)) :: r, k => by
    simp only [srcToks, List.mem_cons, srcToks_mem r k]; constructor
    · rintro (rfl | ⟨j, x, s, h⟩)
      · exact ⟨0, y, k', rfl⟩
      · exact ⟨j + 1, x, s, by simpa using h⟩
    · rintro ⟨j, x, s, h⟩; cases j with
      | zero => simp at h; exact .inl h.2.2.symm
      | succ j => exact .inr ⟨j, x, s, by simpa using h⟩

theorem hd_inj [Arn] : ∀ (l : List (A × Option (Nat × Option Nat))), (hdToks l).Nodup → ∀ (i j k : Nat) (x y : A) (s t : Option Nat), l[i]? = some (x, some (k, s)) → l[j]? = some (y, some (k, t)) → i = j
  | [], _, i, j, k, x, y, s, t, h, _ => by simp at h
  | (z, none) :: r, hn, i, j, k, x, y, s, t, h1, h2 => by
    cases i with
    | zero => simp at h1
    | succ i => cases j with
      | zero => simp at h2
      | succ j => have := hd_inj r (by simpa [hdToks] using hn) i j k x y s t (by simpa using h1) (by simpa using h2); omega
  | (z, some (k', s')) :: r, hn, i, j, k, x, y, s, t, h1, h2 => by
    simp only [hdToks, List.nodup_cons] at hn; cases i with
    | zero => cases j with
      | zero => rfl
      | succ j =>
        simp at h1
        exact absurd ((hdToks_mem r k').2 ⟨j, y, t, by rw [h1.2.1]; simpa using h2⟩) hn.1
    | succ i => cases j with
      | zero =>
        simp at h2
        exact absurd ((hdToks_mem r k').2 ⟨i, x, s, by rw [h2.2.1]; simpa using h1⟩) hn.1
      | succ j => have := hd_inj r hn.2 i j k x y s t (by simpa using h1) (by simpa using h2); omega

theorem src_inj [Arn] : ∀ (l : List (A × Option (Nat × Option Nat))), (srcToks l).Nodup → ∀ (i j k : Nat) (x y : A) (s t : Nat), l[i]? = some (x, some (s, some k)) → l[j]? = some (y, some (t, some k)) → i = j
  | [], _, i, j, k, x, y, s, t, h, _ => by simp at h
  | (z, none) :: r, hn, i, j, k, x, y, s, t, h1, h2 => by
    cases i with
    | zero => simp at h1
    | succ i => cases j with
      | zero => simp at h2
      | succ j => have := src_inj r (by simpa [srcToks] using hn) i j k x y s t (by simpa using h1) (by simpa using h2); omega
  | (z, some (k', none)) :: r, hn, i, j, k, x, y, s, t, h1, h2 => by
    cases i with
    | zero => simp at h1
    | succ i => cases j with
      | zero => simp at h2
      | succ j => have := src_inj r (by simpa [srcToks] using hn) i j k x y s t (by simpa using h1) (by simpa using h2); omega
  | (z, some (s', some k')) :: r, hn, i, j, k, x, y, s, t, h1, h2 => by
    simp only [srcToks, List.nodup_cons] at hn; cases i with
    | zero => cases j with
      | zero => rfl
      | succ j =>
        simp at h1
        exact absurd ((srcToks_mem r k').2 ⟨j, y, t, by rw [h1.2.2]; simpa using h2⟩) hn.1
    | succ i => cases j with
      | zero =>
        simp at h2
        exact absurd ((srcToks_mem r k').2 ⟨i, x, s, by rw [h2.2.2]; simpa using h1⟩) hn.1
      | succ j => have := src_inj r hn.2 i j k x y s t (by simpa using h1) (by simpa using h2); omega

theorem carOne_cases [Arn] {i : Nat} {l : Loc} {x : A × Option (Nat × Option Nat)} (h : carOne st hd i l = some x) :
    (∃ c t y, getLoc st l = some c ∧ getLoc hd l = some (.a (.v i) t) ∧ c.arg = some (y, t) ∧ x = (y, none)) ∨
    (∃ i0 k0 t e k, getLoc st l = some (.own i0 k0 t e) ∧ getLoc hd l = some (.own i k t e) ∧ k0 ∈ st.live ∧ x = (.v i0, some (k, some k0))) ∨
    (∃ t e e' k, getLoc st l = some (.nl t e') ∧ getLoc hd l = some (.own i k t e) ∧ x = (.l (.nil t), some (k, none))) := by
  simp only [carOne] at h; split at h
  · rename_i c j t h1 h2; split at h
    · rename_i y u harg; split at h
      · rename_i hb; simp only [Bool.and_eq_true, Nat.beq_eq, beq_iff_eq] at hb; obtain ⟨rfl, rfl⟩ := hb; simp only [oi] at h; exact .inl ⟨c, _, y, h1, h2, harg, h.symm⟩
      · cases h
    · cases h
  · rename_i x0 k0 u e' j k t e h1 h2; split at h
    · rename_i hb; simp only [Bool.and_eq_true, Nat.beq_eq, beq_iff_eq, List.contains_eq_mem, decide_eq_true_eq] at hb; obtain ⟨⟨⟨rfl, rfl⟩, rfl⟩, hb⟩ := hb; simp only [oi] at h; exact .inr (.inl ⟨_, _, _, _, _, h1, h2, hb, h.symm⟩)
    · cases h
  · rename_i u e' j k t e h1 h2; split at h
    · rename_i hb; simp only [Bool.and_eq_true, Nat.beq_eq, beq_iff_eq] at hb; obtain ⟨rfl, rfl⟩ := hb; simp only [oi] at h; exact .inr (.inr ⟨_, _, _, _, h1, h2, h.symm⟩)
    · cases h
  · cases h

theorem slotsOk_get [Arn] {nv : Nat} {ct : List Nat} {car : List Loc} : ∀ (n : Nat), slotsOk st hd nv ct car n = true → ∀ i, i < n →
    (Loc.sl i ∈ car) ∨ hd.slot i = some .unk ∨ ∃ h, hd.slot i = some h ∧ st.slot i = some h ∧ h.inScope nv hd.nb hd.ntok ct = true
  | 0, _, i, hi => by omega
  | n + 1, h, i, hi => by
    simp only [slotsOk, Bool.and_eq_true, Bool.or_eq_true, List.contains_eq_mem, decide_eq_true_eq] at h; by_cases e : i = n
    · subst e; rcases h.2 with h2 | h2
      · exact .inl h2
      · split at h2
        · rename_i hu; exact .inr (.inl hu)
        · rename_i h' _ hh; simp only [Bool.and_eq_true, beq_iff_eq] at h2; exact .inr (.inr ⟨h', hh, h2.1, h2.2⟩)
        · cases h2
    · exact slotsOk_get n h.1 i (by omega)

theorem boxesOk_get [Arn] {nv : Nat} {ct : List Nat} {car : List Loc} : ∀ (n : Nat), boxesOk st hd nv ct car n = true → ∀ β, β < n →
    (look st.boxes β = none ∧ look hd.boxes β = none) ∨ ∃ s h, look st.boxes β = some s ∧ look hd.boxes β = some h ∧ rowOk hd nv ct car β 0 s h = true
  | 0, _, i, hi => by omega
  | n + 1, h, i, hi => by
    simp only [boxesOk, Bool.and_eq_true] at h; by_cases e : i = n
    · subst e; have h2 := h.2
      split at h2
      · rename_i s h' h3 h4; exact .inr ⟨s, h', h3, h4, h2⟩
      · rename_i h3 h4; exact .inl ⟨h3, h4⟩
      · cases h2
    · exact boxesOk_get n h.1 i (by omega)

theorem dynsOk_get [Arn] {nv : Nat} {ct : List Nat} {car : List Loc} : ∀ (n : Nat), dynsOk st hd nv ct car n = true → ∀ k, k < n → ∀ i t e, hd.dynAt k = some (i, t, e) →
    k ∉ ct ∧ ∃ j, st.dynAt k = some (j, t, e) ∧ (Loc.dn k ∈ car ∨ (i = j ∧ i < nv))
  | 0, _, k, hk, _, _, _, _ => by omega
  | n + 1, h, k, hk, i, t, e, hd' => by
    simp only [dynsOk, Bool.and_eq_true] at h; by_cases ee : k = n
    · subst ee; have h2 := h.2
      rw [hd'] at h2; simp only [Bool.and_eq_true, Bool.not_eq_true', List.contains_eq_mem, decide_eq_false_iff_not] at h2; obtain ⟨h3, h4⟩ := h2; split at h4
      · rename_i j u e' hst; simp only [Bool.and_eq_true, Bool.or_eq_true, beq_iff_eq, decide_eq_true_eq, Nat.beq_eq, blt_eq, List.contains_eq_mem] at h4; obtain ⟨⟨rfl, rfl⟩, h5⟩ := h4; exact ⟨h3, j, hst, h5⟩
      · cases h4
    · exact dynsOk_get n h.1 k (by omega) i t e hd'

theorem look_mem [Arn] {τ : Type} : ∀ (l : List (Nat × τ)) (i : Nat) (v : τ), look l i = some v → (i, v) ∈ l
  | [], i, v, h => by cases h
  | (j, u) :: l, i, v, h => by
    rw [look_cons] at h; split at h
    · rename_i e; subst e; simp only [oi] at h; subst h; simp
    · exact List.mem_cons_of_mem _ (look_mem l i v h)

theorem mem_keys [Arn] {τ : Type} (l : List (Nat × τ)) (i : Nat) (h : look l i = none) : ∀ p ∈ l, p.1 ≠ i := by
  induction l with
  | nil => intro p hp; cases hp
  | cons q l ih =>
    intro p hp; have h' : (bif Nat.beq q.1 i then some q.2 else look l i) = none := h
    cases hb : Nat.beq q.1 i with
    | true => rw [hb] at h'; cases h'
    | false =>
      rw [hb] at h'; rcases List.mem_cons.1 hp with rfl | hp
      · intro e; rw [e] at hb; simp at hb
      · exact ih h' p hp

theorem arsOk_get [Arn] {nv : Nat} {car : List Loc} (h : arsOk st hd nv car = true) :
    (∀ k T x, hd.arAt k = some (T, x) → ∃ y, st.arAt k = some (T, y) ∧ (Loc.ar k ∈ car ∨ (x = y ∧ x.inScope nv = true))) ∧ (∀ k, hd.arAt k = none → st.arAt k = none) ∧ (∀ k, hd.outAt k = none) ∧ ∀ k, st.outAt k = none := by
  simp only [arsOk, Bool.and_eq_true, List.all_eq_true] at h; obtain ⟨⟨⟨h1, h2⟩, h3⟩, h4⟩ := h; have outs : ∀ (s : SS), (∀ x ∈ s.out, (match s.outAt x.1 with | none => true | some _ => false) = true) → ∀ k, s.outAt k = none := by
    intro s hs k; cases ho : s.outAt k with
    | none => rfl
    | some v =>
      have ho' : (look s.out k).getD none = some v := ho
      cases hl : look s.out k with
      | none => rw [hl] at ho'; cases ho'
      | some u =>
        have := hs _ (look_mem _ _ _ hl)
        simp only [ho] at this; cases this
  refine ⟨fun k T x hk => ?_, fun k hk => ?_, outs hd h3, outs st h4⟩
  · have := h1 _ (look_mem _ _ _ hk)
    simp only [hk] at this; split at this
    · rename_i T1 x1 T2 y e1 e2; cases e1; simp only [Bool.and_eq_true, Bool.or_eq_true, beq_iff_eq, List.contains_eq_mem, decide_eq_true_eq] at this; obtain ⟨rfl, h5⟩ := this; exact ⟨y, e2, h5⟩
    · cases this
  · cases hs : st.arAt k with
    | none => rfl
    | some v =>
      have := h2 _ (look_mem _ _ _ hs)
      simp only [List.any_eq_true] at this; obtain ⟨q, hq, he⟩ := this; exact absurd (Nat.eq_of_beq_eq_true he) (mem_keys _ _ hk q hq)
end
end Go.Proofs.Ytmglkddddpipgaa.Sx

namespace Go.Proofs.Ytmglkddddpipgaa.Sx
open Go.RowKit

section
variable {B : Base} {ρ ρ' : List D} {st hd : SS} {α α' : AS} {a : Act} {bs : List Act} {w : World} {g g' : G} {nv : Nat} {ct : List Nat}

structure Reb (ρ : List D) (α : AS) (g : G) (ρ' : List D) (α' : AS) (g' : G) (nv nb nt : Nat) (ct : List Nat) : Prop where
  env : ∀ i d, i < nv → nth ρ i = some d → nth ρ' i = some d
  box : ∀ β row, β < nb → α.box β = some row → ∃ row', α'.box β = some row'
  th : g'.θ = g.θ
  p : g'.p = g.p
  tok : ∀ k, k < nt → k ∉ ct → α'.known k ∧ g'.T k = g.T k ∧ g'.te k = g.te k ∧ g'.tw k = g.tw k

theorem A.reb [Arn] {nb nt : Nat} (h : Reb ρ α g ρ' α' g' nv nb nt ct) {x : A} {d : D} (hx : x.ev ρ = some d) (hs : x.inScope nv = true) : x.ev ρ' = some d := by
  cases x with
  | v i => simp only [A.inScope, blt_eq, decide_eq_true_eq] at hs; exact h.env i d hs hx
  | l c => exact hx

theorem SCRep.reb [Arn] {nb nt : Nat} (h : Reb ρ α g ρ' α' g' nv nb nt ct) {c : SC} {v : Value} (hc : SCRep ρ α g w c v) (hs : c.inScope nv nb nt ct = true) : SCRep ρ' α' g' w c v := by
  cases c with
  | a x t =>
    obtain ⟨d, h1, h2, h3⟩ := hc; exact ⟨d, A.reb h h1 hs, h2, by rw [h.p]; exact h3⟩
  | nl t e => exact hc
  | own i k t e =>
    obtain ⟨xs, h1, h2, h3, h4, h5, h6⟩ := hc; simp only [SC.inScope, Bool.and_eq_true, blt_eq, decide_eq_true_eq, Bool.not_eq_true', List.contains_eq_mem, decide_eq_false_iff_not] at hs; obtain ⟨k1, k2, k3, k4⟩ := h.tok k hs.1.2 hs.2; exact ⟨xs, h.env _ _ hs.1.1 h1, by rw [h.p]; exact h2, k1, h4.trans k2.symm, k3.trans h5, k4.trans h6⟩
  | adr β off =>
    obtain ⟨⟨row, hr⟩, h2⟩ := hc; simp only [SC.inScope, blt_eq, decide_eq_true_eq] at hs; exact ⟨h.box β row hs hr, by rw [h.th]; exact h2⟩
  | el x i e off =>
    obtain ⟨xs, k, n, y, h1, h2, h3, h4, b, o, cs, h5, h6, h7⟩ := hc; simp only [SC.inScope, Bool.and_eq_true] at hs; exact ⟨xs, k, n, y, A.reb h h1 hs.1, A.reb h h2 hs.2, h3, h4, b, o, cs, h5, by rw [h.p]; exact h6, by rw [h.p]; exact h7⟩
  | fn f caps =>
    obtain ⟨vs, h1, h2⟩ := hc; simp only [SC.inScope, List.all_eq_true, blt_eq, decide_eq_true_eq] at hs; refine ⟨vs, h1, ?_⟩
    clear h1; generalize vs.toList = us at h2
    induction h2 with
    | nil => exact .nil
    | cons hh _ ih =>
      obtain ⟨⟨row, hr⟩, hu⟩ := hh; exact .cons ⟨h.box _ row (hs _ (by simp)) hr, by rw [h.th]; exact hu⟩ (ih fun q hq => hs q (by simp [hq]))
  | nilp => exact hc
  | nlp => exact hc
  | lst k ps e =>
    obtain ⟨h1, h2, h3, h4, h5⟩ := hc; simp only [SC.inScope, Bool.and_eq_true, blt_eq, decide_eq_true_eq, Bool.not_eq_true', List.contains_eq_mem, decide_eq_false_iff_not, List.all_eq_true] at hs; obtain ⟨k1, k2, k3, k4⟩ := h.tok k hs.1.1 hs.1.2; refine ⟨k1, h2.trans k2.symm, k3.trans h3, k4.trans h4, h5.imp id ?_⟩
    rintro ⟨b, cap, e1, e2, e3, e4⟩
    refine ⟨b, cap, e1, e2, e3, fun j q hq => ?_⟩
    obtain ⟨f1, ⟨row, f2⟩, f3⟩ := e4 j q hq; exact ⟨by rw [h.p]; exact f1, h.box _ row (hs.2 q (List.mem_of_getElem? hq)) f2, by rw [h.th]; exact f3⟩
  | pel β off =>
    obtain ⟨⟨row, hr⟩, b, o, h1, h2, h3⟩ := hc; simp only [SC.inScope, blt_eq, decide_eq_true_eq] at hs; exact ⟨h.box β row hs hr, b, o, h1, by rw [h.p]; exact h2, by rw [h.th]; exact h3⟩
  | dsl k =>
    obtain ⟨h1, h2, h3⟩ := hc; simp only [SC.inScope, Bool.and_eq_true, blt_eq, decide_eq_true_eq, Bool.not_eq_true', List.contains_eq_mem, decide_eq_false_iff_not] at hs; obtain ⟨k1, k2, k3, k4⟩ := h.tok k hs.1 hs.2; exact ⟨k1, h2.trans k2.symm, h3⟩
  | del k i off =>
    obtain ⟨h1, b, n, cap, ki, m, h2, h3, h4⟩ := hc; simp only [SC.inScope, Bool.and_eq_true, blt_eq, decide_eq_true_eq, Bool.not_eq_true', List.contains_eq_mem, decide_eq_false_iff_not] at hs; obtain ⟨k1, k2, k3, k4⟩ := h.tok k hs.1.1 hs.1.2; exact ⟨k1, b, n, cap, ki, m, k2.trans h2, A.reb h h3 hs.2, by rw [k4]; exact h4⟩
  | dvw k i =>
    obtain ⟨h1, ki, m, h2, h3, h4⟩ := hc; simp only [SC.inScope, Bool.and_eq_true, blt_eq, decide_eq_true_eq, Bool.not_eq_true', List.contains_eq_mem, decide_eq_false_iff_not] at hs; obtain ⟨k1, k2, k3, k4⟩ := h.tok k hs.1.1 hs.1.2; exact ⟨k1, ki, m, A.reb h h2 hs.2, h3, by rw [k2, k4]; exact h4⟩
  | ful i t =>
    obtain ⟨xs, h1, h2, h3⟩ := hc; simp only [SC.inScope, blt_eq, decide_eq_true_eq] at hs; exact ⟨xs, h.env _ _ hs h1, by rw [h.p]; exact h2, h3⟩
  | ptl x e off =>
    obtain ⟨y, b, cs, h1, h2⟩ := hc; exact ⟨y, b, cs, A.reb h h1 hs, by rw [h.p]; exact h2⟩
  | nel x e off =>
    obtain ⟨y, l, r, k, b, cs, vl, vr, h1, h2⟩ := hc; exact ⟨y, l, r, k, b, cs, vl, vr, A.reb h h1 hs, by rw [h.p]; exact h2⟩

theorem SCRep.rebL [Arn] {nb nt : Nat} (h : Reb ρ α g ρ' α' g' nv nb nt ct) {cs : List SC} {vs : List Value} (hc : All2 (SCRep ρ α g w) cs vs) (hs : cs.all (SC.inScope nv nb nt ct) = true) : All2 (SCRep ρ' α' g' w) cs vs := by
  induction hc with
  | nil => exact .nil
  | cons h1 _ ih =>
    simp only [List.all_cons, Bool.and_eq_true] at hs; exact .cons (SCRep.reb h h1 hs.1) (ih hs.2)

theorem SVRep.reb [Arn] {nb nt : Nat} (h : Reb ρ α g ρ' α' g' nv nb nt ct) {s : SV} {v : Value} (hc : SVRep ρ α g w s v) (hs : s.inScope nv nb nt ct = true) : SVRep ρ' α' g' w s v := by
  cases s with
  | unk => trivial
  | dead => exact hc
  | one c => exact SCRep.reb h hc hs
  | agg cs =>
    obtain ⟨vs, h1, h2⟩ := hc; exact ⟨vs, h1, SCRep.rebL h h2 hs⟩
  | tup ps =>
    obtain ⟨us, h1, h2⟩ := hc; refine ⟨us, h1, ?_⟩
    clear h1; simp only [SV.inScope] at hs; generalize us.toList = ul at h2
    induction h2 with
    | nil => exact .nil
    | cons hh _ ih =>
      simp only [List.all_cons, Bool.and_eq_true] at hs; refine .cons ?_ (ih hs.2)
      rcases hh with ⟨h3, vs, h4, h5⟩ | ⟨h3, c, h4, h5⟩
      · exact .inl ⟨h3, vs, h4, SCRep.rebL h h5 hs.1⟩
      · refine .inr ⟨h3, c, h4, SCRep.reb h h5 ?_⟩
        have := hs.1
        rw [h4] at this; simpa using this

noncomputable def teOf (hd : SS) (l : Loc) : TypeId × Nat := match getLoc hd l with | some (.own _ _ t e) => (e, t.width) | _ => (0, 0)

open Classical in
theorem RelG.jump [Arn] (h : RelG B ρ (abs st) a bs w g) {car : List Loc} {xs : List A} {ds : List D} (hj : jumpTo st hd nv car = some xs) (hx : evs ρ xs = some ds) (hn : nv ≤ ρ.length) :
    ds.length = car.length ∧ hd.nv = nv + car.length ∧ ∃ g', RelG B (ρ.take nv ++ ds) (abs hd) a bs w g' := by
  simp only [jumpTo] at hj; split at hj
  · rename_i l hl; simp only [fL_eq] at hj; split at hj
    · rename_i hb; simp only [Bool.and_eq_true, Nat.beq_eq, Nat.ble_eq, beq_iff_eq] at hb; obtain ⟨⟨⟨⟨⟨⟨⟨⟨⟨⟨⟨⟨⟨b1, b2⟩, b3⟩, b4⟩, b5⟩, b6⟩, b7⟩, b8⟩, bd⟩, bk⟩, ba⟩, b9⟩, b10⟩, b11⟩ := hb; have ownNe : ∀ {s : SS} {loc : Loc} {i0 k0 : Nat} {t : Ty} {e : TypeId}, getLoc s loc = some (.own i0 k0 t e) → ∀ k, loc ≠ .dn k ∧ loc ≠ .ar k := by
        intro s loc i0 k0 t e h1 k; refine ⟨?_, ?_⟩
        · rintro rfl; obtain ⟨_, _, _, _, h2⟩ := getLoc_dn h1; cases h2
        · rintro rfl; obtain ⟨_, _, _, h2⟩ := getLoc_ar h1; cases h2
      have nlNe : ∀ {s : SS} {loc : Loc} {t : Ty} {e : TypeId}, getLoc s loc = some (.nl t e) → ∀ k, loc ≠ .dn k ∧ loc ≠ .ar k := by
        intro s loc t e h1 k; refine ⟨?_, ?_⟩
        · rintro rfl; obtain ⟨_, _, _, _, h2⟩ := getLoc_dn h1; cases h2
        · rintro rfl; obtain ⟨_, _, _, h2⟩ := getLoc_ar h1; cases h2
      simp only [oi] at hj; subst hj; obtain ⟨hlen, hget⟩ := carAll_get car nv l hl; have hdl : ds.length = car.length := by rw [evs_len _ _ hx, List.length_map, hlen]
      have hds : ∀ (j : Nat) (x : A × Option (Nat × Option Nat)), l[j]? = some x → ∃ d, x.1.ev ρ = some d ∧ ds[j]? = some d := fun j x hj => evs_get _ _ hx j x.1 (by simp [hj])
      have hinj := hd_inj l (nodup_spec _ b2)
      have hsinj := src_inj l (nodup_spec _ b3)
      let Tk : Nat → Loc → Option Nat → Prop := fun k loc s => ∃ (j : Nat) (x : A), car[j]? = some loc ∧ l[j]? = some (x, some (k, s))
      have hTk : ∀ k loc s loc' s', Tk k loc s → Tk k loc' s' → loc = loc' ∧ s = s' := by
        rintro k loc s loc' s' ⟨j, x, h1, h2⟩ ⟨j', x', h3, h4⟩
        have := hinj j j' k x x' s s' h2 h4
        subst this; rw [h1] at h3; rw [h2] at h4; simp only [oi, Prod.mk.injEq] at h3 h4; exact ⟨h3, h4.2.2⟩
      have hTs : ∀ k loc k' loc' s, Tk k loc (some s) → Tk k' loc' (some s) → k = k' := by
        rintro k loc k' loc' s ⟨j, x, h1, h2⟩ ⟨j', x', h3, h4⟩
        have := hsinj j j' s x x' k k' h2 h4
        subst this; rw [h2] at h4; simp only [oi, Prod.mk.injEq] at h4; exact h4.2.1
      have hct : ∀ k, k ∈ hdToks l ↔ ∃ loc s, Tk k loc s := by
        intro k; rw [hdToks_mem]; constructor
        · rintro ⟨j, x, s, h1⟩
          have : j < car.length := by rw [← hlen]; exact (List.getElem?_eq_some_iff.1 h1).1
          exact ⟨car[j], s, j, x, List.getElem?_eq_getElem this, h1⟩
        · rintro ⟨loc, s, j, x, _, h1⟩; exact ⟨j, x, s, h1⟩
      have hcar : ∀ k loc s, Tk k loc s → (∃ i0 k0 t e i, s = some k0 ∧ getLoc st loc = some (.own i0 k0 t e) ∧ getLoc hd loc = some (.own i k t e) ∧ k0 ∈ st.live) ∨
          (∃ t e e' i, s = none ∧ getLoc st loc = some (.nl t e') ∧ getLoc hd loc = some (.own i k t e)) := by
        rintro k loc s ⟨j, x, h1, h2⟩
        obtain ⟨y, h3, h4⟩ := hget j loc h1; rw [h2] at h3; simp only [oi] at h3; subst h3; rcases carOne_cases h4 with ⟨c, t, y, _, _, _, h5⟩ | ⟨i0, k0, t, e, k', h5, h6, h7, h8⟩ | ⟨t, e, e', k', h5, h6, h7⟩
        · simp at h5
        · simp only [Prod.mk.injEq, oi] at h8; obtain ⟨_, rfl, rfl⟩ := h8; exact .inl ⟨i0, k0, t, e, _, rfl, h5, h6, h7⟩
        · simp only [Prod.mk.injEq, oi] at h7; obtain ⟨_, rfl, rfl⟩ := h7; exact .inr ⟨t, e, e', _, rfl, h5, h6⟩
      let g' : G := { g with
        T := fun k => if hh : ∃ loc, ∃ s, Tk k loc s then locVal a w g hh.choose else g.T k
        te := fun k => if hh : ∃ loc, ∃ s, Tk k loc s then (teOf hd hh.choose).1 else g.te k
        tw := fun k => if hh : ∃ loc, ∃ s, Tk k loc s then (teOf hd hh.choose).2 else g.tw k
        ow := fun b => if hh : ∃ k, ∃ loc s, Tk k loc (some s) ∧ (g.T s).ownBlock = some b then some (.tok hh.choose) else g.ow b }
      have gT : ∀ k loc s, Tk k loc s → g'.T k = locVal a w g loc ∧ g'.te k = (teOf hd loc).1 ∧ g'.tw k = (teOf hd loc).2 := by
        intro k loc s hk; have hh : ∃ loc, ∃ s, Tk k loc s := ⟨loc, s, hk⟩
        obtain ⟨s', hs'⟩ := hh.choose_spec; have := (hTk _ _ _ _ _ hs' hk).1
        simp only [g', dif_pos hh, this, and_self]
      have gN : ∀ k, k ∉ hdToks l → g'.T k = g.T k ∧ g'.te k = g.te k ∧ g'.tw k = g.tw k := by
        intro k hk; have hh : ¬ ∃ loc, ∃ s, Tk k loc s := fun hh => hk ((hct k).2 hh)
        simp only [g', dif_neg hh, and_self]
      have hlive : ∀ k loc s, Tk k loc (some s) → s ∈ st.live ∧ s ∈ srcToks l := by
        intro k loc s hk; rcases hcar k loc _ hk with ⟨i0, k0, t, e, i, h1, _, _, h2⟩ | ⟨_, _, _, _, h1, _⟩
        · cases h1; obtain ⟨j, x, _, h3⟩ := hk; exact ⟨h2, (srcToks_mem l _).2 ⟨j, x, k, h3⟩⟩
        · cases h1
      have gB : ∀ b β, g.ow b = some (.box β) → g'.ow b = some (.box β) := by
        intro b β hb; have hh : ¬ ∃ k, ∃ loc s, Tk k loc (some s) ∧ (g.T s).ownBlock = some b := by
          rintro ⟨k, loc, s, h1, h2⟩
          obtain ⟨_, n, xs, _, h3, _⟩ := h.live s (hlive k loc s h1).1
          have := (h3 b h2).1
          rw [hb] at this; simp at this
        simp only [g', dif_neg hh]; exact hb
      have hreb : Reb ρ (abs st) g (ρ.take nv ++ ds) (abs hd) g' nv hd.nb hd.ntok (hdToks l) := by
        refine ⟨fun i d hi hd' => ?_, fun β row hβ hr => ?_, rfl, rfl, fun k hk hnk => ⟨hk, gN k hnk⟩⟩
        · rw [nth_eq] at hd' ⊢; rw [List.getElem?_append_left (by rw [List.length_take]; omega), List.getElem?_take, if_pos hi]
          exact hd'
        · rcases boxesOk_get _ b8 β hβ with ⟨h1, _⟩ | ⟨s, h', h1, h2, _⟩
          · simp [abs, h1] at hr
          · exact ⟨h', box_abs hβ h2⟩
      have hnew : ∀ loc, loc ∈ car → (∀ k, loc ≠ .dn k ∧ loc ≠ .ar k) → ∃ c, getLoc hd loc = some c ∧ SCRep (ρ.take nv ++ ds) (abs hd) g' w c (locVal a w g loc) := by
        intro loc hloc hne; obtain ⟨j, hj⟩ := List.getElem?_of_mem hloc
        obtain ⟨x, h1, h2⟩ := hget j loc hj; obtain ⟨d, h3, h4⟩ := hds j x h1; have hnth : nth (ρ.take nv ++ ds) (nv + j) = some d := by
          rw [nth_eq, List.getElem?_append_right (by rw [List.length_take]; omega), List.length_take, Nat.min_eq_left hn, Nat.add_sub_cancel_left]
          exact h4
        rcases carOne_cases h2 with ⟨c, t, y, h5, h6, h7, h8⟩ | ⟨i0, k0, t, e, k, h5, h6, h7, h8⟩ | ⟨t, e, e', k, h5, h6, h7⟩
        · subst h8; obtain ⟨d', k1, k2, k3⟩ := arg_rep h7 (loc_rep h h5 hne)
          have h3' : y.ev ρ = some d := h3
          rw [k1] at h3'; have := Option.some.inj h3'
          subst this; exact ⟨_, h6, d', hnth, k2, k3⟩
        · subst h8; have hk : Tk k loc (some k0) := ⟨j, _, hj, h1⟩
          obtain ⟨k1, k2, k3⟩ := gT _ _ _ hk; obtain ⟨ys, q1, q2, q3, q4, q5, q6⟩ := loc_rep h h5 hne; have : d = ⟨.sl t, ys⟩ := by
            have h3' : nth ρ i0 = some d := h3
            rw [q1] at h3'; exact (Option.some.inj h3').symm
          subst this; refine ⟨_, h6, ys, hnth, q2, ?_, k1.symm, ?_, ?_⟩
          · have := (hct k).2 ⟨loc, _, hk⟩
            simp only [List.all_eq_true, blt_eq, decide_eq_true_eq] at b10; exact b10 k this
          · rw [k2]; simp [teOf, h6]
          · rw [k3]; simp [teOf, h6]
        · subst h7; have hk : Tk k loc none := ⟨j, _, hj, h1⟩
          obtain ⟨k1, k2, k3⟩ := gT _ _ _ hk; have hv : locVal a w g loc = .slice none 0 0 := loc_rep h h5 hne
          have : d = ⟨.sl t, []⟩ := by
            have h3' : (some (L.nil t).d : Option D) = some d := h3
            exact (Option.some.inj h3').symm
          subst this; refine ⟨_, h6, [], hnth, .inl ⟨by rw [hv], rfl⟩, ?_, k1.symm, ?_, ?_⟩
          · have := (hct k).2 ⟨loc, _, hk⟩
            simp only [List.all_eq_true, blt_eq, decide_eq_true_eq] at b10; exact b10 k this
          · rw [k2]; simp [teOf, h6]
          · rw [k3]; simp [teOf, h6]
      refine ⟨hdl, b11, g', ?_⟩
      refine { nodef := h.nodef, sz := by show _ = hd.n; rw [← b1]; exact h.sz, slot := fun i => ?_, saved := ?_, box := fun β row hr => ?_, live := fun k hk => ?_, pwf := h.pwf, bel := h.bel, hB := h.hB, dk := fun k x hx => ?_, hl := ?_ }
      · by_cases hi : i < hd.n
        · rcases slotsOk_get _ b4 i hi with h1 | h1 | ⟨s, h1, h2, h3⟩
          · obtain ⟨c, h2, h3⟩ := hnew _ h1 (by simp)
            rw [(slot_abs (c1_some h2)).2]; exact h3
          · rw [(slot_abs h1).2]; trivial
          · rw [(slot_abs h1).2]; have := h.slot i
            rw [(slot_abs h2).2] at this; exact SVRep.reb hreb this h3
        · have h1 : (abs hd).slot i = .dead := by simp [abs, absSlots, hi]
          have h2 : (abs st).slot i = .dead := by simp [abs, absSlots, b1, hi]
          have := h.slot i
          rw [h2] at this; rw [h1]; exact this
      · have hs := h.saved
        simp only [abs, b5] at hs ⊢; simp only [savedOk, List.all_eq_true] at b6; have key : ∀ (sv : List (Nat × List (Nat × SV))) (bs : List Act), (∀ x ∈ sv, ∀ y ∈ x.2, y.2.inScope nv hd.nb hd.ntok (hdToks l) = true) →
            All2 (fun (q : Nat × (Nat → SV)) (b : Act) => b.defers = [] ∧ b.tmps.size = q.1 ∧ ∀ i, SVRep ρ (abs st) g w (q.2 i) (b.tmps.getD i undef)) (sv.map fun q => (q.1, absSlots q.1 q.2)) bs →
            All2 (fun (q : Nat × (Nat → SV)) (b : Act) => b.defers = [] ∧ b.tmps.size = q.1 ∧ ∀ i, SVRep (ρ.take nv ++ ds) (abs hd) g' w (q.2 i) (b.tmps.getD i undef)) (sv.map fun q => (q.1, absSlots q.1 q.2)) bs := by
          intro sv; induction sv with
          | nil => intro bs _ hh; cases hh; exact .nil
          | cons q sv ih =>
            intro bs hsc hh; cases hh with
            | cons k1 k2 =>
              refine .cons ⟨k1.1, k1.2.1, fun i => ?_⟩ (ih _ (fun x hx => hsc x (by simp [hx])) k2)
              have := k1.2.2 i
              simp only [absSlots] at this ⊢; split
              · rename_i hlt; rw [if_pos hlt] at this; cases hlk : look q.2 i with
                | none => rw [hlk] at this; exact this
                | some v =>
                  rw [hlk] at this; exact SVRep.reb hreb this (hsc q (by simp) (i, v) (look_mem _ _ _ hlk))
              · rename_i hlt; rw [if_neg hlt] at this; exact this
        exact key _ _ b6 hs
      · have hβ : β < hd.nb := by
          simp only [abs] at hr; split at hr
          · assumption
          · cases hr
        have hlr : look hd.boxes β = some row := by simpa [abs, hβ] using hr
        rcases boxesOk_get _ b8 β hβ with ⟨_, h1⟩ | ⟨s, h', h1, h2, h3⟩
        · rw [hlr] at h1; cases h1
        · rw [hlr] at h2; cases h2; have hbo := h.box β s (box_abs (by omega) h1)
          obtain ⟨cs, el, h4, h5⟩ := hbo.cells; refine ⟨hbo.lo, gB _ _ hbo.ow, hbo.np, cs, el, h4, ?_⟩
          have hloc : ∀ j v, cs.toList[j]? = some v → locVal a w g (.bx β j) = v := by
            intro j v hj; simp only [locVal, h4, List.getD_eq_getElem?_getD, hj, Option.getD_some]
          have hgl : ∀ j c, row[j]? = some c → getLoc hd (.bx β j) = some c := by
            intro j c hj; simp only [getLoc, blt_eq, hβ, decide_true, if_true, hlr, Option.bind_some, nth_eq]; exact hj
          have key : ∀ (s row' : List SC) (us : List Value) (j : Nat), rowOk hd nv (hdToks l) car β j s row' = true → All2 (SCRep ρ (abs st) g w) s us →
              (∀ i v, us[i]? = some v → locVal a w g (.bx β (j + i)) = v) → (∀ i c, row'[i]? = some c → getLoc hd (.bx β (j + i)) = some c) → All2 (SCRep (ρ.take nv ++ ds) (abs hd) g' w) row' us := by
            intro s; induction s with
            | nil =>
              intro row' us j k1 k2 _ _; cases row' with
              | nil => cases k2; exact .nil
              | cons => simp [rowOk] at k1
            | cons c s ih =>
              intro row' us j k1 k2 k3 k4; cases row' with
              | nil => simp [rowOk] at k1
              | cons c' row' =>
                cases k2 with
                | cons q1 q2 =>
                  simp only [rowOk, Bool.and_eq_true, Bool.or_eq_true, List.contains_eq_mem, decide_eq_true_eq, beq_iff_eq] at k1; refine .cons ?_ (ih _ _ (j + 1) k1.2 q2 (fun i v hi => ?_) fun i c hi => ?_)
                  · rcases k1.1 with hm | ⟨rfl, hm⟩
                    · obtain ⟨c2, e1, e2⟩ := hnew _ hm (by simp)
                      have e3 := k4 0 c' rfl
                      rw [Nat.add_zero, e1] at e3; cases e3; have e4 := k3 0 _ rfl
                      rw [Nat.add_zero] at e4; rw [← e4]; exact e2
                    · exact SCRep.reb hreb q1 hm
                  · have := k3 (i + 1) v (by simpa using hi)
                    rwa [show j + (i + 1) = j + 1 + i by omega] at this
                  · have := k4 (i + 1) c (by simpa using hi)
                    rwa [show j + (i + 1) = j + 1 + i by omega] at this
          exact key s row cs.toList 0 h3 h5 (fun i v hi => by rw [Nat.zero_add]; exact hloc i v hi) (fun i c hi => by rw [Nat.zero_add]; exact hgl i c hi)
      · simp only [List.all_eq_true, Bool.and_eq_true, Bool.or_eq_true, blt_eq, decide_eq_true_eq, List.contains_eq_mem, Bool.not_eq_true', decide_eq_false_iff_not] at b9; obtain ⟨hlt, hor⟩ := b9 k hk; refine ⟨hlt, ?_⟩
        by_cases hkc : k ∈ hdToks l
        · obtain ⟨loc, s, htk⟩ := (hct k).1 hkc
          obtain ⟨e1, e2, e3⟩ := gT _ _ _ htk; have hnd : ∀ {n : Nat} {xs : List Value}, DynOk (ρ.take nv ++ ds) (abs hd) g' w k n xs := by
            intro n xs x hx; obtain ⟨i, t, e⟩ := x; exact absurd hkc (dynsOk_get _ bd k hlt i t e hx).1
          rcases hcar k loc s htk with ⟨i0, k0, t, e, i, rfl, h5, h6, h7⟩ | ⟨t, e, e', i, rfl, h5, h6⟩
          · obtain ⟨ys, q1, q2, q3, q4, q5, q6⟩ := loc_rep h h5 (ownNe h5)
            obtain ⟨_, n, xs, h8, h9, _⟩ := h.live k0 h7; have e2' : g'.te k = g.te k0 := by rw [e2, q5]; simp [teOf, h6]
            have e3' : g'.tw k = g.tw k0 := by rw [e3, q6]; simp [teOf, h6]
            have e1' : g'.T k = g.T k0 := by rw [e1, q4]
            refine ⟨n, xs, by rw [e1', e2', e3']; exact h8, ?_, hnd⟩
            rw [e1', e3']; intro b hb; refine ⟨?_, (h9 b hb).2⟩
            have hh : ∃ k, ∃ loc s, Tk k loc (some s) ∧ (g.T s).ownBlock = some b := ⟨k, loc, k0, htk, hb⟩
            obtain ⟨loc', s', h10, h11⟩ := hh.choose_spec; obtain ⟨_, n', xs', _, h12, _⟩ := h.live s' (hlive _ _ _ h10).1
            have h13 := (h12 b h11).1
            rw [(h9 b hb).1] at h13; simp only [oi, Res.tok.injEq] at h13; subst h13; have := hTs _ _ _ _ _ h10 htk
            simp only [g', dif_pos hh, this]
          · have hv : locVal a w g loc = .slice none 0 0 := loc_rep h h5 (nlNe h5)
            refine ⟨0, [], ?_, ?_, hnd⟩
            · rw [e1, hv]; exact ⟨by simp, .inl ⟨rfl, rfl⟩⟩
            · rw [e1, hv]; intro b hb; simp [Value.ownBlock] at hb
        · rcases hor with hor | ⟨h1, h2⟩
          · exact absurd hor hkc
          · obtain ⟨e1, e2, e3⟩ := gN k hkc; obtain ⟨_, n, xs, h3, h4, hdy⟩ := h.live k h1; refine ⟨n, xs, by rw [e1, e2, e3]; exact h3, ?_, fun x hx => ?_⟩
            rotate_left 1
            · obtain ⟨i, t, e⟩ := x; obtain ⟨_, j, hj, hor⟩ := dynsOk_get _ bd k hlt i t e hx; obtain ⟨⟨f1, f2, ys, f3, f4, f5⟩, f6⟩ := hdy (j, t, e) hj
              refine ⟨⟨by rw [e2]; exact f1, by rw [e3]; exact f2, ys, ?_, f4, f5⟩, by rw [e1]; exact f6⟩
              simp only at f3 ⊢
              rcases hor with hor | ⟨rfl, hlt2⟩
              · obtain ⟨q, hq⟩ := List.getElem?_of_mem hor
                obtain ⟨y, g1, g2⟩ := hget q _ hq; obtain ⟨d, g3, g4⟩ := hds q y g1; have ge1 : getLoc st (.dn k) = some (.a (.v j) (.sl t)) := by simp only [getLoc, hj, Option.map_some]
                have ge2 : getLoc hd (.dn k) = some (.a (.v i) (.sl t)) := by
                  have hx' : hd.dynAt k = some (i, t, e) := hx
                  simp only [getLoc, hx', Option.map_some]
                rcases carOne_cases g2 with ⟨c, t', y', h5, h6, h7, h8⟩ | ⟨i0, k0, t', e', k', h5, _⟩ | ⟨t', e', e2, k', h5, _⟩
                · rw [ge1] at h5; rw [ge2] at h6; cases h5; simp only [oi, SC.a.injEq, A.v.injEq, Ty.sl.injEq] at h6; obtain ⟨rfl, rfl⟩ := h6; simp only [SC.arg, oi, Prod.mk.injEq, and_true] at h7; subst h7; subst h8; have g3' : nth ρ j = some d := g3
                  rw [f3] at g3'; cases g3'; rw [nth_eq, List.getElem?_append_right (by rw [List.length_take]; omega), List.length_take, Nat.min_eq_left hn, Nat.add_sub_cancel_left]
                  exact g4
                · rw [ge1] at h5; cases h5
                · rw [ge1] at h5; cases h5
              · exact hreb.env _ _ hlt2 f3
            rw [e1, e3]; intro b hb; refine ⟨?_, (h4 b hb).2⟩
            have hh : ¬ ∃ k, ∃ loc s, Tk k loc (some s) ∧ (g.T s).ownBlock = some b := by
              rintro ⟨k', loc, s, h5, h6⟩
              obtain ⟨h7, h8⟩ := hlive _ _ _ h5; obtain ⟨_, n', xs', _, h9, _⟩ := h.live s h7; have h10 := (h9 b h6).1
              rw [(h4 b hb).1] at h10; simp only [oi, Res.tok.injEq] at h10; subst h10; exact h2 h8
            simp only [g', dif_neg hh]; exact (h4 b hb).1
      · simp only [List.all_eq_true, blt_eq, decide_eq_true_eq] at bk; have hx' : (look hd.dyn k).getD none = some x := hx
        cases hlk : look hd.dyn k with
        | none => rw [hlk] at hx'; cases hx'
        | some y => exact bk _ (look_mem _ _ _ hlk)
      · obtain ⟨a1, a2, a3, a4⟩ := arsOk_get ba; have htokb : ∀ b, (∃ k, ∃ loc s, Tk k loc (some s) ∧ (g.T s).ownBlock = some b) → ∃ s, g.ow b = some (.tok s) := by
          rintro b ⟨k, loc, s, h1, h2⟩
          obtain ⟨_, n, xs, _, h3, _⟩ := h.live s (hlive k loc s h1).1
          exact ⟨s, (h3 b h2).1⟩
        have hoo : ∀ b r, g'.ow b = some r → ∃ r', g.ow b = some r' := by
          intro b r hr; simp only [g'] at hr; split at hr
          · rename_i hh; obtain ⟨s, hs⟩ := htokb b hh; exact ⟨_, hs⟩
          · exact ⟨r, hr⟩
        have hob : ∀ b r, g.ow b = some r → r.isObj → g'.ow b = some r := by
          intro b r hr ho; have hh : ¬ ∃ k, ∃ loc s, Tk k loc (some s) ∧ (g.T s).ownBlock = some b := by
            intro hh; obtain ⟨s, hs⟩ := htokb b hh; rw [hr] at hs; simp only [oi] at hs; subst hs; exact ho
          simp only [g', dif_neg hh]; exact hr
        refine { b0 := h.hl.b0, om := fun b r hr => ?_, owb := fun b r hr => ?_, fr := h.hl.fr, p0m := h.hl.p0m, adm := h.hl.adm, adf := h.hl.adf, ark := fun k x hx => (by obtain ⟨T, x⟩ := x; obtain ⟨y, hy, _⟩ := a1 k T x hx; exact h.hl.ark k _ hy), ar := ⟨fun k T x hk => ?_, fun k xv β hk => ?_⟩ }
        · obtain ⟨r', h1⟩ := hoo b r hr; exact h.hl.om b r' h1
        · obtain ⟨r', h1⟩ := hoo b r hr; exact h.hl.owb b r' h1
        · obtain ⟨y, hy, hor⟩ := a1 k T x hk; obtain ⟨xs, e1, e2, e3⟩ := (h.hl.ar.ars k T y hy).ex
          refine ⟨xs, ?_, e2, fun j z hz => ?_⟩
          · rcases hor with hor | ⟨rfl, hsc⟩
            · obtain ⟨q, hq⟩ := List.getElem?_of_mem hor
              obtain ⟨y', g1, g2⟩ := hget q _ hq; obtain ⟨d, g3, g4⟩ := hds q y' g1; have ge1 : getLoc st (.ar k) = some (.a y (.sl T.t)) := by simp only [getLoc, hy, Option.map_some]
              have ge2 : getLoc hd (.ar k) = some (.a x (.sl T.t)) := by
                have hk' : hd.arAt k = some (T, x) := hk
                simp only [getLoc, hk', Option.map_some]
              rcases carOne_cases g2 with ⟨c, t', y2, h5, h6, h7, h8⟩ | ⟨i0, k0, t', e', k', h5, _⟩ | ⟨t', e', e2, k', h5, _⟩
              · rw [ge1] at h5; rw [ge2] at h6; cases h5; simp only [oi, SC.a.injEq, Ty.sl.injEq] at h6; obtain ⟨rfl, _⟩ := h6; simp only [SC.arg, oi, Prod.mk.injEq] at h7; obtain ⟨rfl, _⟩ := h7; subst h8; have g3' : y.ev ρ = some d := g3
                rw [e1] at g3'; cases g3'; show nth _ _ = _
                rw [nth_eq, List.getElem?_append_right (by rw [List.length_take]; omega), List.length_take, Nat.min_eq_left hn, Nat.add_sub_cancel_left]
                exact g4
              · rw [ge1] at h5; cases h5
              · rw [ge1] at h5; cases h5
            · cases x with
              | v i =>
                simp only [A.inScope, blt_eq, decide_eq_true_eq] at hsc; exact hreb.env _ _ hsc e1
              | l c => exact e1
          · obtain ⟨b, f1, f2⟩ := e3 j z hz; refine ⟨b, f1, .inr ?_⟩
            rcases f2 with ⟨xv, β, f3, _⟩ | f2
            · have : st.outAt k = some (xv, β) := f3
              rw [a4 k] at this; cases this
            · exact f2.relab hob
        · have : hd.outAt k = some (xv, β) := hk
          rw [a3 k] at this; cases this
    · cases hj
  · cases hj
end
end Go.Proofs.Ytmglkddddpipgaa.Sx

namespace Go.Proofs.Ytmglkddddpipgaa.Sx
open Go.RowKit

section
variable {X : Cx} {B : Base} {ρ : List D} {st : SS} {α : AS} {a : Act} {bs : List Act} {w : World} {g : G}

def PartRep (ρ : List D) (α : AS) (g : G) (w : World) (q : Bool × List SC) (u : Value) : Prop :=
  ∃ vs : List Value, All2 (SCRep ρ α g w) q.2 vs ∧ ((q.1 = true ∧ u = Value.agg vs.toArray) ∨ (q.1 = false ∧ vs = [u]))

noncomputable def resOne (a : Act) : ResultVar → Sem Value
  | .tmp t => pure (a.tmps.getD t undef)
  | .cell b t => do loadVar t (← asAddr (a.tmps.getD b undef))

theorem load_cells [Arn] {b off : Nat} {vs : List Value} (h : ∀ j v, vs[j]? = some v → w.cell? ⟨b, off + j, none⟩ = some v) {t : TypeId} (hu : (X.P.underlying t).isSome = true) (hl : vs.length = sizeT X.P t)
    (h1 : isAgg' X.P t = false → sizeT X.P t = 1) : (loadVar t ⟨b, off, none⟩).run X.P w = .ok (valOf X.P t vs) w := by
  have := cellsAt_load h hu hl h1
  simpa [Instr.loadAt, Instr.sureAddr, Sem.run_bind] using this

theorem resSV_run [Arn] (h : RelG B ρ (abs st) a bs w g) : ∀ (l : List ResultVar) (rs : List (Bool × List SC)), resSV X.P st l = some rs →
    ∃ us, (l.mapM (resOne a)).run X.P w = .ok us w ∧ All2 (PartRep ρ (abs st) g w) rs us
  | [], rs, hs => by
    simp only [resSV, oi] at hs; subst hs; exact ⟨[], rfl, .nil⟩
  | .tmp t :: r, rs, hs => by
    simp only [resSV] at hs; split at hs
    · rename_i cs l h1 h2; cases hs; obtain ⟨us, h3, h4⟩ := resSV_run h r _ h2; have hr := h.slot t
      rw [(slot_abs h1).2] at hr; obtain ⟨vs, h5, h6⟩ := hr; refine ⟨a.tmps.getD t undef :: us, ?_, .cons ⟨vs.toList, h6, .inl ⟨rfl, by simpa using h5⟩⟩ h4⟩
      simp only [List.mapM_cons, resOne, Sem.run_bind, Sem.run_pure, Result.andThen_ok, h3]
    · rename_i c l h1 h2; cases hs; obtain ⟨us, h3, h4⟩ := resSV_run h r _ h2; have hr := h.slot t
      rw [(slot_abs h1).2] at hr; refine ⟨a.tmps.getD t undef :: us, ?_, .cons ⟨[a.tmps.getD t undef], .cons hr .nil, .inr ⟨rfl, rfl⟩⟩ h4⟩
      simp only [List.mapM_cons, resOne, Sem.run_bind, Sem.run_pure, Result.andThen_ok, h3]
    · cases hs
  | .cell b t :: r, rs, hs => by
    simp only [resSV] at hs; split at hs
    · rename_i β off l h1 h2; split at hs
      · rename_i row hrow; split at hs
        · rename_i hb; simp only [Bool.and_eq_true, Nat.ble_eq, Bool.or_eq_true, Nat.beq_eq] at hb; cases hs; obtain ⟨us, h3, h4⟩ := resSV_run h r _ h2; have hr := h.slot b
          rw [(slot_abs h1).2] at hr; obtain ⟨⟨row', hrw⟩, hv⟩ := hr; have hbx : (abs st).box β = some row := by rw [← boxAt_abs]; exact hrow
          obtain ⟨cs, el, h5, h6⟩ := (h.box β row hbx).cells
          have hlen := h6.len
          have h1' : isAgg' X.P t = false → sizeT X.P t = 1 := fun ha => hb.2.resolve_left (by simp [ha])
          have hrun : (loadVar t ⟨g.θ β, off, none⟩).run X.P w = .ok (valOf X.P t (take2 cs.toList off (sizeT X.P t))) w := by
            refine load_cells (fun j v hj => ?_) hb.1.1 (take2_len (by omega)) h1'
            rw [take2_get] at hj; split at hj
            · rw [cell_of_row w _ _ cs el (0, 0) h5]; simpa using hj
            · cases hj
          refine ⟨valOf X.P t (take2 cs.toList off (sizeT X.P t)) :: us, ?_, .cons ⟨take2 cs.toList off (sizeT X.P t), h6.take2 off _, ?_⟩ h4⟩
          · simp only [List.mapM_cons, resOne, hv, asAddr, Sem.run_bind, Sem.run_pure, Result.andThen_ok, hrun, h3]
          · unfold valOf; cases ha : isAgg' X.P t with
            | true => exact .inl ⟨rfl, by simp⟩
            | false =>
              refine .inr ⟨rfl, ?_⟩
              have hl1 := take2_len (l := cs.toList) (off := off) (n := sizeT X.P t) (by omega)
              rw [h1' ha] at hl1 ⊢; match take2 cs.toList off 1, hl1 with
              | [v], _ => rfl
        · cases hs
      · cases hs
    · cases hs

theorem results_run [Arn] (h : RelG B ρ (abs st) a bs w g) {fn : Func} {rs : List (Bool × List SC)} (hs : resSV X.P st fn.results.toList = some rs) :
    ∃ us, (results fn a.tmps).run X.P w = .ok (resVal us) w ∧ All2 (PartRep ρ (abs st) g w) rs us := by
  obtain ⟨us, h1, h2⟩ := resSV_run h _ _ hs; refine ⟨us, ?_, h2⟩
  have hm : fn.results.mapM (resOne a) = (do let l ← fn.results.toList.mapM (resOne a); pure l.toArray) := by
    rw [Array.mapM_eq_mapM_toList]; rfl
  have h0 : results fn a.tmps = (do let vs ← fn.results.mapM (resOne a); pure (if h : vs.size = 1 then vs[0] else .tuple vs)) := by
    unfold results; congr 1
  rw [h0, hm]; simp only [bind_assoc, pure_bind, Sem.run_bind, h1, Result.andThen_ok, Sem.run_pure]; match us with
  | [] => rfl
  | [u] => rfl
  | _ :: _ :: _ => rfl

theorem own_cells [Arn] (h : RelG B ρ (abs st) a bs w g) : ∀ (cs : List SC) (l : List (Ty × Option TypeId)) (used : List Nat) (vs : List Value), resFits st used cs l = true → All2 (SCRep ρ (abs st) g w) cs vs →
    (∀ (j : Nat) (v : Value) (e : TypeId) (sz : Nat), (ownList l vs)[j]? = some (v, e, sz) → v = .slice none 0 0 ∨ ∃ k, k ∈ st.live ∧ k ∉ used ∧ v = g.T k ∧ g.te k = e ∧ g.tw k = sz) ∧
    (∀ (i j : Nat) (x y : Value × TypeId × Nat) (b : Nat), (ownList l vs)[i]? = some x → (ownList l vs)[j]? = some y → x.1.ownBlock = some b → y.1.ownBlock = some b → i = j)
  | [], [], used, vs, hf, hr => by cases hr; exact ⟨fun j v e sz hj => by simp [ownList] at hj, fun i j x y b hi => by simp [ownList] at hi⟩
  | [], _ :: _, used, vs, hf, hr => by simp [resFits] at hf
  | _ :: _, [], used, vs, hf, hr => by simp [resFits] at hf
  | c :: cs, (t, ow) :: l, used, vs, hf, hr => by
    cases hr with
    | cons h1 h2 =>
      rename_i v vs; simp only [resFits, Bool.and_eq_true] at hf; obtain ⟨_, hf⟩ := hf; cases ow with
      | none =>
        have ho : ownList ((t, none) :: l) (v :: vs) = ownList l vs := by cases t <;> rfl
        rw [ho]; exact own_cells h cs l used vs (by cases t <;> simpa using hf) h2
      | some e =>
        have other : ownList ((t, some e) :: l) (v :: vs) = ownList l vs → resFits st used cs l = true → _ ∧ _ := fun ho hf' =>
          (show (∀ (j : Nat) (v' : Value) (e' : TypeId) (sz : Nat), (ownList ((t, some e) :: l) (v :: vs))[j]? = some (v', e', sz) → v' = .slice none 0 0 ∨ ∃ k, k ∈ st.live ∧ k ∉ used ∧ v' = g.T k ∧ g.te k = e' ∧ g.tw k = sz) ∧
            (∀ (i j : Nat) (x y : Value × TypeId × Nat) (b : Nat), (ownList ((t, some e) :: l) (v :: vs))[i]? = some x → (ownList ((t, some e) :: l) (v :: vs))[j]? = some y → x.1.ownBlock = some b → y.1.ownBlock = some b → i = j)
            by rw [ho]; exact own_cells h cs l used vs hf' h2)
        cases t with
        | sl te =>
          cases c with
          | own i0 k t0 e' =>
            simp only [Bool.and_eq_true, beq_iff_eq, List.contains_eq_mem, decide_eq_true_eq, Bool.not_eq_true', decide_eq_false_iff_not] at hf; obtain ⟨⟨⟨rfl, hk⟩, hu⟩, hf⟩ := hf; have hty : t0 = te := by
              have := ‹(match (SC.own i0 k t0 e).arg with | some (_, u) => u == Ty.sl te | none => false) = true›
              simpa [SC.arg] using this
            subst hty; obtain ⟨i1, i2⟩ := own_cells h cs l (k :: used) vs hf h2
            obtain ⟨xs, q1, q2, q3, q4, q5, q6⟩ := h1; have hne : ∀ (j : Nat) (y : Value × TypeId × Nat) (b : Nat), (ownList l vs)[j]? = some y → v.ownBlock = some b → y.1.ownBlock = some b → False := by
              rintro j ⟨y, e2, sz⟩ b hj hb hb'
              rcases i1 j y e2 sz hj with rfl | ⟨k', h3, h4, rfl, _, _⟩
              · simp [Value.ownBlock] at hb'
              · obtain ⟨_, n, xs', _, h5, _⟩ := h.live k hk; obtain ⟨_, n', xs'', _, h6, _⟩ := h.live k' h3; rw [q4] at hb; have e1 := (h5 b hb).1
                have e2 := (h6 b hb').1
                rw [e1] at e2; simp only [oi, Res.tok.injEq] at e2; subst e2; simp at h4
            refine ⟨fun j v' e' sz hj => ?_, fun i j x y b hi hj hb hb' => ?_⟩
            · cases j with
              | zero =>
                simp only [ownList, List.getElem?_cons_zero, oi, Prod.mk.injEq] at hj; obtain ⟨rfl, rfl, rfl⟩ := hj; exact .inr ⟨k, hk, hu, q4, q5, q6⟩
              | succ j =>
                rcases i1 j v' e' sz (by simpa [ownList] using hj) with h3 | ⟨k', h3, h4, h5⟩
                · exact .inl h3
                · exact .inr ⟨k', h3, fun hm => h4 (by simp [hm]), h5⟩
            · cases i with
              | zero => cases j with
                | zero => rfl
                | succ j =>
                  simp only [ownList, List.getElem?_cons_zero, oi] at hi; subst hi; exact (hne j y b (by simpa [ownList] using hj) hb hb').elim
              | succ i => cases j with
                | zero =>
                  simp only [ownList, List.getElem?_cons_zero, oi] at hj; subst hj; exact (hne i x b (by simpa [ownList] using hi) hb' hb).elim
                | succ j => have := i2 i j x y b (by simpa [ownList] using hi) (by simpa [ownList] using hj) hb hb'; omega
          | nl t0 e' =>
            simp only at hf
            obtain ⟨i1, i2⟩ := own_cells h cs l used vs hf h2; have hv : v = .slice none 0 0 := h1
            refine ⟨fun j v' e' sz hj => ?_, fun i j x y b hi hj hb hb' => ?_⟩
            · cases j with
              | zero =>
                simp only [ownList, List.getElem?_cons_zero, oi, Prod.mk.injEq] at hj; obtain ⟨rfl, rfl, rfl⟩ := hj; exact .inl hv
              | succ j => exact i1 j v' e' sz (by simpa [ownList] using hj)
            · cases i with
              | zero =>
                simp only [ownList, List.getElem?_cons_zero, oi] at hi; subst hi; simp [hv, Value.ownBlock] at hb
              | succ i => cases j with
                | zero =>
                  simp only [ownList, List.getElem?_cons_zero, oi] at hj; subst hj; simp [hv, Value.ownBlock] at hb'
                | succ j => have := i2 i j x y b (by simpa [ownList] using hi) (by simpa [ownList] using hj) hb hb'; omega
          | _ => simp at hf
        | _ => exact other rfl (by simpa using hf)

theorem parts_flat [Arn] : ∀ (rs : List (Bool × List SC)) (outs : List (Bool × List (Ty × Option TypeId))) (us : List Value), rs.map (·.1) = outs.map (·.1) → rs.map (·.2.length) = outs.map (·.2.length) → All2 (PartRep ρ α g w) rs us →
    ∃ cs, partVals (outs.map fun q => (q.1, q.2.length)) us cs ∧ All2 (SCRep ρ α g w) (rs.map (·.2)).flatten cs
  | [], [], us, _, _, h => by cases h; exact ⟨[], rfl, .nil⟩
  | [], _ :: _, us, h, _, _ => by simp at h
  | _ :: _, [], us, h, _, _ => by simp at h
  | (ag, c) :: rs, (ag', l) :: outs, us, h1, h2, h => by
    cases h with
    | cons h3 h4 =>
      rename_i u us; simp only [List.map_cons, List.cons.injEq] at h1 h2; obtain ⟨cs, h5, h6⟩ := parts_flat rs outs us h1.2 h2.2 h4; obtain ⟨vs, h7, h8⟩ := h3; have he : ag = ag' := h1.1
      subst he; refine ⟨vs ++ cs, ⟨vs, cs, rfl, ?_, h8, h5⟩, by simpa using h7.app h6⟩
      have : c.length = l.length := h2.1
      rw [← h7.len]; exact this

theorem resFits_tys [Arn] : ∀ (cs : List SC) (l : List (Ty × Option TypeId)) (used : List Nat) (xs : List A) (ts : List Ty), resFits st used cs l = true → args cs = some (xs, ts) → ts = l.map (·.1)
  | [], [], used, xs, ts, h, ha => by simp only [args, oi, Prod.mk.injEq] at ha; exact ha.2.symm
  | [], _ :: _, used, xs, ts, h, ha => by simp [resFits] at h
  | _ :: _, [], used, xs, ts, h, ha => by simp [resFits] at h
  | c :: cs, (t, ow) :: l, used, xs, ts, h, ha => by
    simp only [resFits, Bool.and_eq_true] at h; obtain ⟨h1, h2⟩ := h; simp only [args] at ha; split at ha
    · rename_i x u xs' ts' e1 e2; cases ha; simp only [e1, beq_iff_eq] at h1; subst h1; have : ∃ used', resFits st used' cs l = true := by
        split at h2
        · simp only [Bool.and_eq_true] at h2; exact ⟨_, h2.2⟩
        · exact ⟨_, h2⟩
        · cases h2
        · exact ⟨_, h2⟩
      obtain ⟨used', h3⟩ := this; simp [resFits_tys cs l used' xs' ts' h3 e2]
    · cases ha

theorem returned [Arn] (h : RelG B ρ (abs st) a bs w g) {sig : Sig} {rs : List (Bool × List SC)} {us : List Value} (hp : All2 (PartRep ρ (abs st) g w) rs us) (hf : resFitsAll st rs sig.outs = true)
    {xs : List A} {ts : List Ty} (ha : args (rs.map (·.2)).flatten = some (xs, ts)) {ds das : List D} (hx : evs ρ xs = some ds) {as : List A} (has : arArgs st sig.ars = some as) (hxa : evs ρ as = some das) :
    ∃ cs, ReturnedA sig B.w0 B.p0 B.om0 (ds ++ das) (resVal us) w g.p (labs sig.ars g.ow) us cs := by
  simp only [resFitsAll, Bool.and_eq_true, beq_iff_eq] at hf; obtain ⟨⟨h1, h2⟩, h3⟩ := hf; obtain ⟨cs, h4, h5⟩ := parts_flat rs sig.outs us h1 h2 hp; obtain ⟨ds', h6, h7, h8⟩ := args_rep _ _ _ _ ha h5; rw [hx] at h6; cases h6; obtain ⟨o1, o2⟩ := own_cells h _ _ _ _ h3 h5; obtain ⟨das', a1, a2, _⟩ := arArgs_rep h (st := st) (fun _ _ h => h) (fun _ => rfl) sig.ars as has sig.ars (fun _ h => h)
  rw [hxa] at a1; cases a1; have hB0 := h.hl.b0
  have htok : ∀ (j : Nat) (x : Value × TypeId × Nat) (b : Nat), (ownList (outL sig) cs)[j]? = some x → x.1.ownBlock = some b → ∃ k, g.ow b = some (.tok k) := by
    rintro j ⟨v, e, sz⟩ b hj hb
    rcases o1 j v e sz hj with rfl | ⟨k, k1, _, rfl, rfl, rfl⟩
    · cases hb
    · obtain ⟨_, n, xs', k2, k3, _⟩ := h.live k k1; exact ⟨k, (k3 b hb).1⟩
  refine ⟨cs, rfl, ⟨h.bel.os, h.bel.tape, h.bel.output, h.bel.size, fun k hk => by omega⟩, fun b hb hm => h.hl.fr b hb (by rintro ⟨r, h⟩; rw [hm] at h; cases h), h.hl.p0m, h.pwf, fun b r hb => ⟨h.hl.owb b r (labs_some.1 hb).1, (labs_some.1 hb).2⟩, fun b r hb => h.hl.om b r (labs_some.1 hb).1, h4, ⟨ds, das, rfl, h8, ?_, a2⟩, ⟨?_, o2⟩, fun j x b hj hb => ?_⟩
  · rw [h7]; exact resFits_tys _ _ _ _ _ h3 ha
  · intro j v e sz hj; rcases o1 j v e sz hj with rfl | ⟨k, k1, _, rfl, rfl, rfl⟩
    · exact ⟨0, [], ⟨by simp, .inl ⟨rfl, rfl⟩⟩, fun b hb => by simp [Value.ownBlock] at hb⟩
    · obtain ⟨_, n, xs', k2, k3, _⟩ := h.live k k1; exact ⟨n, xs', by rw [← hB0]; exact k2, fun b hb => (k3 b hb).2⟩
  · obtain ⟨k, hk⟩ := htok j x b hj hb; refine ⟨labs_none fun r hr => ?_, h.hl.om b _ hk⟩
    rw [hk] at hr; simp only [oi] at hr; subst hr; rintro ⟨q, _, ⟨j, e⟩ | ⟨j, c, e⟩⟩ <;> cases e
end
end Go.Proofs.Ytmglkddddpipgaa.Sx

namespace Go.Proofs.Ytmglkddddpipgaa.Sx
open Go.RowKit

section
variable {X : Cx} {B : Base} {ρ : List D} {st : SS} {o : Oper} {α : AS} {a : Act} {bs : List Act} {w : World} {g : G} {Φ : Nat → Cont}

theorem isSlT_some [Arn] {d : Option TypeDesc} (h : isSlT d = true) : ∃ e, d = some (.slice e) := by
  unfold isSlT at h; split at h
  · exact ⟨_, rfl⟩
  · cases h

theorem eqSl [Arn] {t el : TypeId} {b : Option Addr} {n c : Nat} (hu : X.P.underlying t = some (.slice el)) (d : Nat) : (Op.equalIn (d + 1) t (.slice b n c) (.slice none 0 0)).run X.P w = .ok b.isNone w := by
  cases b <;> simp [Op.equalIn, run_underlying hu]

theorem nilc_does [Arn] (p : Pre X.P B ρ st o α a bs w g) {c : A} {y z : Δ} (hs : stepOp X st o = some (.nilc c y z)) :
    ∃ (e : Ty) (xs : List e.den), c.ev ρ = some ⟨.sl e, xs⟩ ∧ ((xs = [] ∧ Does X.P o a w (Post B ρ α y st.nb st.ntok bs)) ∨ Does X.P o a w (Post B ρ α z st.nb st.ntok bs)) ∧
      (y.dst = o.dst ∧ z.dst = o.dst ∧ y.nv = 0 ∧ z.nv = 0 ∧ okδ st y = true ∧ okδ st z = true) := by
  have bl : ∀ b : Bool, ∀ {α' : AS}, SVRep ρ α' g w (boolSV b) (.bool b) := fun b => ⟨⟨.bool, b⟩, rfl, rfl, rfl⟩
  have hbin : ∃ op t x x' yt sx sy, o.op = .binOp op t x x' yt ∧ st.ev X.P (some t) x = some sx ∧ st.ev X.P (some t) x' = some sy ∧ doBin X.P st o op t sx sy = some (.nilc c y z) := by
    simp only [stepOp] at hs; split at hs
    case h_11 op t x x' yt ho =>
      split at hs
      · rename_i sx sy h1 h2; exact ⟨_, _, _, _, _, sx, sy, ho, h1, h2, hs⟩
      · cases hs
    all_goals first
      | ((repeat' (first | (cases hs; done) | (simp [eOne, ePr, Option.bind_eq_some_iff] at hs; done) | split at hs)); done)
      | (simp only [opPick, opLoad, opStore, opConvert, opSlice, opSliceD, opIndexD, opIndexAddr, opMakeSlice, opBuildSlice, opCallV, doBuiltin, opAppD, doAppend, doAppendP, doCall, opLookup, opMapUpdate, opMakeMap, opDelete, opMapLen, fL_eq] at hs; (repeat' (first | (cases hs; done) | (simp [eOne, ePr, Option.bind_eq_some_iff] at hs; done) | split at hs)); done)
  obtain ⟨op, t, x, x', yt, sx, sy, ho, h1, h2, h3⟩ := hbin; have hx := p.ev (by rw [ho]; simp [Op.operands]) h1
  have hy := p.ev (by rw [ho]; simp [Op.operands]) h2
  unfold doBin at h3; split at h3
  · rename_i cx cy; unfold doBinC at h3; split at h3
    · split at h3
      · split at h3 <;> simp [eOne] at h3
      · cases h3
    · split at h3
      · split at h3 <;> simp [eOne] at h3
      · cases h3
    · split at h3
      · split at h3 <;> simp [eOne] at h3
      · cases h3
    · split at h3
      · rename_i ax tx ay ty e1 e2; split at h3
        · split at h3
          · simp [eOne] at h3
          split at h3
          · split at h3 <;> simp [ePr] at h3
          · split at h3 <;> simp [ePr] at h3
        · split at h3
          · simp [ePr] at h3
          · split at h3 <;> simp [ePr] at h3
        · split at h3
          · split at h3 <;> simp [ePr] at h3
          · cases h3
        · split at h3
          · rename_i hsl; obtain ⟨el, hu⟩ := isSlT_some hsl; obtain ⟨d, k1, k2, k3⟩ := arg_rep e1 hx; obtain ⟨xs, rfl, hr⟩ := sl_of k2 k3; obtain ⟨base, n, cap, hv, hnil⟩ : ∃ base n cap, a.eval x = .slice base n cap ∧ (base = none → xs = []) := by
              rcases sl_cases hr with ⟨h4, h5⟩ | ⟨b, off, cap, h4, _⟩ | ⟨ad, h4, _⟩
              · exact ⟨_, _, _, h4, fun _ => h5⟩
              rotate_left
              · exact ⟨_, _, _, h4, fun h => by cases h⟩
              · exact ⟨_, _, _, h4, fun h => by cases h⟩
            have hone : (a.eval x).oneCell' = true := by rw [hv]; rfl
            have hnif : a.eval x ≠ .nilIface := by rw [hv]; simp
            split at h3
            · simp only [oi, Eff.nilc.injEq] at h3; obtain ⟨rfl, rfl, rfl⟩ := h3; have hvy : a.eval x' = .slice none 0 0 := hy
              refine ⟨_, xs, k1, ?_, rfl, rfl, rfl, rfl, rfl, rfl⟩
              have hrun : (execOp a.eval o).run X.P w = .ok (.value (.bool base.isNone)) w := run_binOp (r := .bool base.isNone) ho hone hnif (by rw [hv, hvy]; exact eqOf (eq_run (eqSl hu)) rfl)
              cases base with
              | none => exact .inl ⟨hnil rfl, p.value (nv := 0) hrun (bl true)⟩
              | some b => exact .inr (p.value (nv := 0) hrun (bl false))
            · simp only [oi, Eff.nilc.injEq] at h3; obtain ⟨rfl, rfl, rfl⟩ := h3; have hvy : a.eval x' = .slice none 0 0 := hy
              refine ⟨_, xs, k1, ?_, rfl, rfl, rfl, rfl, rfl, rfl⟩
              have hrun : (execOp a.eval o).run X.P w = .ok (.value (.bool (!base.isNone))) w := run_binOp (r := .bool (!base.isNone)) ho hone hnif (by rw [hv, hvy]; exact neqOf (eq_run (eqSl hu)) rfl)
              cases base with
              | none => exact .inl ⟨hnil rfl, p.value (nv := 0) hrun (bl false)⟩
              | some b => exact .inr (p.value (nv := 0) hrun (bl true))
            · cases h3
          · cases h3
        · split at h3
          · split at h3 <;> simp [ePr] at h3
          · cases h3
        · split at h3
          · split at h3 <;> simp [ePr, Sx.eOne] at h3
          · cases h3
        · split at h3
          · split at h3 <;> simp [ePr, Sx.eOne] at h3
          · cases h3
        · cases h3
      · cases h3
  · split at h3
    · split at h3
      · split at h3 <;> simp [ePr] at h3
      · cases h3
    · cases h3
  · cases h3
end
end Go.Proofs.Ytmglkddddpipgaa.Sx

namespace Go.Proofs.Ytmglkddddpipgaa.Sx
open Go.RowKit

section
variable {X : Cx} {B : Base} {ρ : List D} {st : SS} {o : Oper} {α : AS} {a : Act} {bs : List Act} {w : World} {g : G} {Φ : Nat → Cont}

theorem ev_rep [Arn] (h : RelG B ρ (abs st) a bs w g) {ty : Option TypeId} {x : Operand} {s : SV} (hs : st.ev X.P ty x = some s) : SVRep ρ (abs st) g w s (a.eval x) := by
  cases x with
  | tmp i =>
    have := h.slot i
    rw [(slot_abs hs).2] at this; exact this
  | const v => exact litSV_rep hs
  | func f =>
    simp only [SS.ev, oi] at hs; subst hs; exact ⟨#[], rfl, .nil⟩
  | global n => simp [SS.ev] at hs

theorem enter_does [Arn] (p : Pre X.P B ρ st o α a bs w g) {f : FuncId} {vs : List SV} (hs : stepOp X st o = some (.enter f vs)) {fn : Func} {c : Code} (h1 : X.P.funcs[f]? = some fn) (h2 : fn.body = some c) (h3 : (fn.name == "runtime.NumGoroutine") = false) :
    ∃ us : Array Value, All2 (SVRep ρ α g w) vs us.toList ∧ ∀ (next : Act → World → Prop) (Q : Exit → Act → World → Prop), Calls X.P f us w (fun
      | .returned v, w'' => next (a.put o.dst v) w''
      | .panicked chain, w'' => Q (.panic chain) a w''
      | .outgrown, _ => LetsOut Q) → o.wp X.P a w next Q := by
  have hcall : ∃ fo xs ts caps vs0, o.op = .call { callee := .value fo, args := xs, argTypes := ts } ∧ st.ev X.P none fo = some (.one (.fn f caps)) ∧ evL X.P st xs.toList ts.toList = some vs0 ∧
      vs = vs0 ++ caps.map fun p => .one (.adr p.1 p.2) := by
    simp only [stepOp] at hs; split at hs
    case h_23 c ho =>
      obtain ⟨callee, xs, ts⟩ := c; split at hs
      · simp only [doBuiltin, opAppD, doAppend, doAppendP, opDelete, opMapLen, fL_eq] at hs; (repeat' (first | (cases hs; done) | (simp [eOne, ePr, Option.bind_eq_some_iff] at hs; done) | split at hs))
      · rename_i fo hc; simp only at hc; subst hc
        simp only [opCallV] at hs; split at hs
        · rename_i f' caps hev; split at hs
          · rename_i vs0 hvs; split at hs
            · simp at hs
            simp only [doCall] at hs; split at hs
            · split at hs
              · (repeat' (first | (cases hs; done) | (simp at hs; done) | split at hs))
              · cases hs
            · split at hs
              · simp only [oi, Eff.enter.injEq] at hs; obtain ⟨rfl, rfl⟩ := hs; exact ⟨fo, xs, ts, caps, vs0, ho, hev, hvs, rfl⟩
              · cases hs
          · cases hs
        · cases hs
      · cases hs
    all_goals first
      | ((repeat' (first | (cases hs; done) | (simp [eOne, ePr, Option.bind_eq_some_iff] at hs; done) | split at hs)); done)
      | (simp only [opPick, opLoad, opStore, opConvert, opSlice, opSliceD, opIndexD, opIndexAddr, opMakeSlice, opBuildSlice, doBin, doBinC, opLookup, opMapUpdate, opMakeMap, fL_eq] at hs; (repeat' (first | (cases hs; done) | (simp [eOne, ePr, Option.bind_eq_some_iff] at hs; done) | split at hs)); done)
  obtain ⟨fo, xs, ts, caps, vs0, ho, hf, hx, rfl⟩ := hcall; have hr : SCRep ρ α g w (.fn f caps) (a.eval fo) := p.ev (by rw [ho]; simp [Op.operands, Call.operands]) hf
  obtain ⟨cvs, hv, hcap⟩ := hr; have hus := (evL_rep p _ _ _ hx fun y hy => by rw [ho]; simp [Op.operands, Call.operands, Array.mem_toList_iff.1 hy]).app (caps_svrep (ρ := ρ) (w := w) hcap)
  refine ⟨xs.map a.eval ++ cvs, by simpa using hus, fun next Q hc => ?_⟩
  unfold Oper.wp; rw [call_run ho hv h1 h2 h3]; exact hc

theorem guard_spec [Arn] (h : RelG B ρ α a bs w g) {ops : Array Oper} (hsl : ∀ j want, o.guard = some (j, want) → ∀ t sv, (ops[j]?).bind (·.dst) = some t → st.slot t = some sv → α.slot t = sv)
    (hfact : ∀ i b, look st.facts i = some b → nth ρ i = some ⟨.bool, b⟩) :
    (guardOf st ops o.guard = .yes → Region.wanted o (yielded ops a.tmps) = true) ∧ (guardOf st ops o.guard = .no → Region.wanted o (yielded ops a.tmps) = false) := by
  unfold guardOf Region.wanted; cases hg : o.guard with
  | none => simp
  | some jw =>
    obtain ⟨j, want⟩ := jw; simp only
    cases ht : (ops[j]?).bind (·.dst) with
    | none => simp
    | some t =>
      cases hsv : st.slot t with
      | none => simp [hsv]
      | some sv =>
        have hr := h.slot t
        rw [hsl j want hg t sv ht hsv] at hr; have hget : ∀ v, a.tmps.getD t undef = v → v ≠ undef → a.tmps[t]? = some v := by
          intro v hv hne; rw [Array.getD_eq_getD_getElem?] at hv; cases hh : a.tmps[t]? with
          | none => rw [hh] at hv; exact absurd hv.symm hne
          | some u => rw [hh] at hv; rw [← hv]; rfl
        have hyb : ∀ b : Bool, a.tmps.getD t undef = .bool b → yielded ops a.tmps j = some b := by
          intro b hb; unfold yielded; rw [ht, Option.bind_some, hget _ hb (by simp [undef])]
        simp only [Option.bind_some, hsv]; cases sv with
        | dead =>
          refine ⟨by simp, fun _ => ?_⟩
          have hv : a.tmps.getD t undef = undef := hr
          have : yielded ops a.tmps j = none := by
            unfold yielded; rw [ht, Option.bind_some]; cases hh : a.tmps[t]? with
            | none => rfl
            | some u =>
              rw [Array.getD_eq_getD_getElem?, hh] at hv; have hu : u = undef := hv
              subst hu; rfl
          rw [this]; rfl
        | one c =>
          cases c with
          | a x ty =>
            cases x with
            | l c =>
              cases c with
              | bool v =>
                obtain ⟨d, k1, k2, k3⟩ := hr; simp only [A.ev, oi] at k1; subst k1; have k3' : [a.tmps.getD t undef] = [Value.bool v] := k3
                simp only [List.cons.injEq, and_true] at k3'; rw [hyb v k3']; by_cases e : v = want
                · subst e; simp
                · simp [e]
              | _ => simp
            | v i =>
              cases ty with
              | bool =>
                obtain ⟨d, k1, k2, k3⟩ := hr; obtain ⟨b, rfl, hb⟩ := bool_of k2 k3; rw [hyb b hb]; simp only [SS.known]; cases hk : look st.facts i with
                | none => simp
                | some v =>
                  have h1 := hfact i v hk
                  have h2 : nth ρ i = some ⟨.bool, b⟩ := k1
                  rw [h1] at h2; simp only [oi, D.mk.injEq, heq_eq_eq, true_and] at h2; subst h2; by_cases e : v = want
                  · subst e; simp
                  · simp [e]
              | _ => simp
          | _ => simp
        | _ => simp
end

def KP (P : Program) (fin : Exit → Act → World → Prop) : List KI → List Nat → List Act → Exit → Act → World → Prop
  | [], _, _ => fin
  | .code c :: K, ns, bs => Exit.then (c.wp P (KP P fin K ns bs)) (KP P fin K ns bs)
  | .ops ops l :: K, ns, bs => Exit.then (wpOps P ops (KP P fin K ns bs) l) (KP P fin K ns bs)
  | .blk id :: K, ns, bs => Exit.inBlock id (KP P fin K ns bs)
  | .loop c _ :: K, n :: ns, bs => Exit.then (Code.rounds P c (KP P fin K ns bs) n) (KP P fin K ns bs)
  | .loop _ _ :: _, [], _ => fun _ _ _ => False
  | .unr c n :: K, ns, bs => Exit.then (Code.rounds P c (KP P fin K ns bs) n) (KP P fin K ns bs)
  | .sc :: K, ns, bs => Exit.noGoto (KP P fin K ns bs)
  | .stop :: _, _, _ => fun _ _ _ => False
  | .frame fn d :: K, ns, b :: bs => bodyPost P fn (fun
      | .returned v, w' => KP P fin K ns bs .normal (b.put d v) w'
      | .panicked ch, w' => KP P fin K ns bs (.panic ch) b w'
      | .outgrown, _ => LetsOut (KP P fin K ns bs))
  | .frame _ _ :: _, _, [] => fun _ _ _ => False

def KInv (P : Program) (B : Base) (fin : Exit → Act → World → Prop) (ρ : List D) (J : Nat → List D → Prop) : Nat → List KI → List Nat → List Act → Prop
  | _, [], _, _ => True
  | lv, .code _ :: K, ns, bs => KInv P B fin ρ J lv K ns bs
  | lv, .ops _ _ :: K, ns, bs => KInv P B fin ρ J lv K ns bs
  | lv, .blk _ :: K, ns, bs => KInv P B fin ρ J lv K ns bs
  | lv, .loop c h :: K, n :: ns, bs => h.lvl < lv ∧ h.nv ≤ ρ.length ∧
      (∀ ds a w g, J h.lvl ds → RelG B (ρ.take h.nv ++ ds) (abs h.st) a bs w g → Code.rounds P c (KP P fin K ns bs) n a w) ∧ KInv P B fin ρ J h.lvl K ns bs
  | _, .loop _ _ :: _, [], _ => False
  | lv, .unr _ _ :: K, ns, bs => KInv P B fin ρ J lv K ns bs
  | lv, .sc :: K, ns, bs => KInv P B fin ρ J lv K ns bs
  | _, .stop :: _, _, _ => False
  | lv, .frame _ _ :: K, ns, _ :: bs => KInv P B fin ρ J lv K ns bs
  | _, .frame _ _ :: _, _, [] => False

section
variable {P : Program} {B : Base} {fin : Exit → Act → World → Prop}

theorem KInv.mono [Arn] {ρ ρ' : List D} {J J' : Nat → List D → Prop} (hl : ρ.length ≤ ρ'.length) (ht : ∀ m, m ≤ ρ.length → ρ'.take m = ρ.take m) :
    ∀ (K : List KI) (lv lv' : Nat) (ns : List Nat) (bs : List Act), lv ≤ lv' → (∀ l ds, l < lv → J' l ds → J l ds) → KInv P B fin ρ J lv K ns bs → KInv P B fin ρ' J' lv' K ns bs
  | [], _, _, _, _, _, _, h => trivial
  | .code _ :: K, lv, lv', ns, bs, h1, h2, h => KInv.mono hl ht K lv lv' ns bs h1 h2 h
  | .ops _ _ :: K, lv, lv', ns, bs, h1, h2, h => KInv.mono hl ht K lv lv' ns bs h1 h2 h
  | .blk _ :: K, lv, lv', ns, bs, h1, h2, h => KInv.mono hl ht K lv lv' ns bs h1 h2 h
  | .loop c hd :: K, lv, lv', n :: ns, bs, h1, h2, h => by
    obtain ⟨h3, h4, h5, h6⟩ := h; refine ⟨by omega, by omega, fun ds a w g hj hr => ?_, KInv.mono hl ht K hd.lvl hd.lvl ns bs (Nat.le_refl _) (fun l ds hlt => h2 l ds (by omega)) h6⟩
    rw [ht _ h4] at hr; exact h5 ds a w g (h2 _ _ h3 hj) hr
  | .loop _ _ :: _, _, _, [], _, _, _, h => h.elim
  | .unr _ _ :: K, lv, lv', ns, bs, h1, h2, h => KInv.mono hl ht K lv lv' ns bs h1 h2 h
  | .sc :: K, lv, lv', ns, bs, h1, h2, h => KInv.mono hl ht K lv lv' ns bs h1 h2 h
  | .stop :: _, _, _, _, _, _, _, h => h.elim
  | .frame _ _ :: K, lv, lv', ns, _ :: bs, h1, h2, h => KInv.mono hl ht K lv lv' ns bs h1 h2 h
  | .frame _ _ :: _, _, _, _, [], _, _, h => h.elim

theorem popTo_spec [Arn] {ρ : List D} {J : Nat → List D → Prop} {id : Nat} : ∀ (K : List KI) (K' : List KI) (lv : Nat) (ns : List Nat) (bs : List Act), popTo id K = some K' → KInv P B fin ρ J lv K ns bs →
    ∃ ns', KInv P B fin ρ J lv K' ns' bs ∧ ∀ a w, KP P fin K' ns' bs .normal a w → KP P fin K ns bs (.exit id) a w
  | [], _, _, _, _, h, _ => by simp [popTo] at h
  | .code _ :: K, K', lv, ns, bs, h, hk => popTo_spec K K' lv ns bs (by simpa [popTo] using h) hk
  | .ops _ _ :: K, K', lv, ns, bs, h, hk => popTo_spec K K' lv ns bs (by simpa [popTo] using h) hk
  | .unr _ _ :: K, K', lv, ns, bs, h, hk => popTo_spec K K' lv ns bs (by simpa [popTo] using h) hk
  | .sc :: K, K', lv, ns, bs, h, hk => popTo_spec K K' lv ns bs (by simpa [popTo] using h) hk
  | .stop :: _, _, _, _, _, _, hk => hk.elim
  | .blk i :: K, K', lv, ns, bs, h, hk => by
    simp only [popTo] at h; split at h
    · rename_i e; subst e; cases h; exact ⟨ns, hk, fun a w hh => by simp only [KP, Exit.inBlock, if_true]; exact hh⟩
    · rename_i e; obtain ⟨ns', h1, h2⟩ := popTo_spec K K' lv ns bs h hk; exact ⟨ns', h1, fun a w hh => by simp only [KP, Exit.inBlock, if_neg (Ne.symm e)]; exact h2 a w hh⟩
  | .loop _ hd :: K, K', lv, n :: ns, bs, h, hk => by
    obtain ⟨h3, h4, h5, h6⟩ := hk; obtain ⟨ns', h1, h2⟩ := popTo_spec K K' hd.lvl ns bs (by simpa [popTo] using h) h6
    exact ⟨ns', KInv.mono (Nat.le_refl _) (fun _ _ => rfl) K' _ _ ns' bs (by omega) (fun _ _ _ h => h) h1, h2⟩
  | .loop _ _ :: _, _, _, [], _, _, hk => hk.elim
  | .frame _ _ :: K, K', lv, ns, _, h, hk => by simp [popTo] at h

theorem popRet_none [Arn] {ρ : List D} {J : Nat → List D → Prop} : ∀ (K K' : List KI) (lv : Nat) (ns : List Nat) (bs : List Act), popRet K = (none, K') → KInv P B fin ρ J lv K ns bs →
    ∀ a w, fin .ret a w → KP P fin K ns bs .ret a w
  | [], _, _, _, _, h, _, a, w, hh => hh
  | .code _ :: K, K', lv, ns, bs, h, hk, a, w, hh => popRet_none K K' lv ns bs (by simpa [popRet] using h) hk a w hh
  | .ops _ _ :: K, K', lv, ns, bs, h, hk, a, w, hh => popRet_none K K' lv ns bs (by simpa [popRet] using h) hk a w hh
  | .unr _ _ :: K, K', lv, ns, bs, h, hk, a, w, hh => popRet_none K K' lv ns bs (by simpa [popRet] using h) hk a w hh
  | .sc :: K, K', lv, ns, bs, h, hk, a, w, hh => popRet_none K K' lv ns bs (by simpa [popRet] using h) hk a w hh
  | .stop :: _, _, _, _, _, _, hk, _, _, _ => hk.elim
  | .blk i :: K, K', lv, ns, bs, h, hk, a, w, hh => popRet_none K K' lv ns bs (by simpa [popRet] using h) hk a w hh
  | .loop _ hd :: K, K', lv, n :: ns, bs, h, hk, a, w, hh => popRet_none K K' hd.lvl ns bs (by simpa [popRet] using h) hk.2.2.2 a w hh
  | .loop _ _ :: _, _, _, [], _, _, hk, _, _, _ => hk.elim
  | .frame _ _ :: K, K', lv, ns, _, h, hk, _, _, _ => by simp [popRet] at h

theorem popRet_some [Arn] {ρ : List D} {J : Nat → List D → Prop} {fn : Func} {d : Option Tmp} : ∀ (K K' : List KI) (lv : Nat) (ns : List Nat) (bs : List Act), popRet K = (some (fn, d), K') → KInv P B fin ρ J lv K ns bs →
    ∃ ns' b bs', bs = b :: bs' ∧ KInv P B fin ρ J lv K' ns' bs' ∧ ∀ a w, KP P fin (.frame fn d :: K') ns' bs .ret a w → KP P fin K ns bs .ret a w
  | [], _, _, _, _, h, _ => by simp [popRet] at h
  | .code _ :: K, K', lv, ns, bs, h, hk => popRet_some K K' lv ns bs (by simpa [popRet] using h) hk
  | .ops _ _ :: K, K', lv, ns, bs, h, hk => popRet_some K K' lv ns bs (by simpa [popRet] using h) hk
  | .unr _ _ :: K, K', lv, ns, bs, h, hk => popRet_some K K' lv ns bs (by simpa [popRet] using h) hk
  | .sc :: K, K', lv, ns, bs, h, hk => popRet_some K K' lv ns bs (by simpa [popRet] using h) hk
  | .stop :: _, _, _, _, _, _, hk => hk.elim
  | .blk i :: K, K', lv, ns, bs, h, hk => popRet_some K K' lv ns bs (by simpa [popRet] using h) hk
  | .loop _ hd :: K, K', lv, n :: ns, bs, h, hk => by
    obtain ⟨ns', b, bs', h1, h2, h3⟩ := popRet_some K K' hd.lvl ns bs (by simpa [popRet] using h) hk.2.2.2
    exact ⟨ns', b, bs', h1, KInv.mono (Nat.le_refl _) (fun _ _ => rfl) K' _ _ ns' bs' (Nat.le_of_lt hk.1) (fun _ _ _ h => h) h2, h3⟩
  | .loop _ _ :: _, _, _, [], _, _, hk => hk.elim
  | .frame fn' d' :: K, K', lv, ns, b :: bs, h, hk => by
    simp only [popRet, Prod.mk.injEq, oi] at h; obtain ⟨⟨rfl, rfl⟩, rfl⟩ := h; exact ⟨ns, b, bs, rfl, hk, fun a w h => h⟩
  | .frame _ _ :: _, _, _, _, [], _, hk => hk.elim
end
end Go.Proofs.Ytmglkddddpipgaa.Sx

namespace Go.Proofs.Ytmglkddddpipgaa.Sx
open Go.RowKit

theorem join1_eq [Arn] {t : Ty} {l rest : List D} {x : t.den} (h : join1 t l = some (x, rest)) : l = ⟨t, x⟩ :: rest := by
  cases l with
  | nil => simp [join1] at h
  | cons d l =>
    simp only [join1, D.get] at h; split at h
    · rename_i y hy; split at hy
      · rename_i e; obtain ⟨dt, dx⟩ := d; simp only at e
        subst e; simp only [oi] at hy; simp only [oi, Prod.mk.injEq] at h; obtain ⟨rfl, rfl⟩ := h; subst hy; rfl
      · cases hy
    · cases h

theorem join_eq [Arn] : ∀ (t : Ty) (l rest : List D) (x : t.den), join t l = some (x, rest) → l = split t x ++ rest
  | .unit, l, rest, x, h => by simp only [join, oi, Prod.mk.injEq] at h; rw [h.2]; rfl
  | .int k, l, rest, x, h => join1_eq (by simpa [join] using h)
  | .bool, l, rest, x, h => join1_eq (by simpa [join] using h)
  | .str, l, rest, x, h => join1_eq (by simpa [join] using h)
  | .sl e, l, rest, x, h => join1_eq (by simpa [join] using h)
  | .pt e, l, rest, x, h => join1_eq (by simpa [join] using h)
  | .ref k, l, rest, x, h => join1_eq (by simpa [join] using h)
  | .nd e, l, rest, x, h => join1_eq (by simpa [join] using h)
  | .pair a b, l, rest, x, h => by
    simp only [join] at h; split at h
    · rename_i y l1 h1; split at h
      · rename_i z l2 h2; simp only [oi, Prod.mk.injEq] at h; obtain ⟨rfl, rfl⟩ := h; rw [join_eq a _ _ _ h1, join_eq b _ _ _ h2]; simp [split]
      · cases h
    · cases h

theorem toTup_eq [Arn] {ts : List Ty} {l : List D} {x : (pairs ts).den} (h : toTup ts l = some x) : split (pairs ts) x = l := by
  unfold toTup at h; split at h
  · rename_i y hy; simp only [oi] at h; subst h; have := join_eq _ _ _ _ hy
    simpa using this.symm
  · cases h

theorem runLoop_spec [Arn] {body : SS → Head → Option IR} {lv : Nat} {ds : List Nat} {st : SS} {fz : Bool} {locs : List Loc} {ir : IR} (h : runLoop body lv ds st false fz locs = some ir) :
    ∃ hd xs ts b, jumpTo st hd st.nv locs = some xs ∧ body hd ⟨lv, st.nv, hd, locs⟩ = some b ∧ ir = .loop xs ts b ∧ hd.facts = [] := by
  simp only [runLoop] at h; split at h
  · rename_i xs ts hs h1; simp only [headSS, fL_eq, fN_eq, Bool.false_eq_true, if_false] at h; split at h
    · rename_i xs' h2; split at h
      · rename_i b h3; simp only [oi] at h; exact ⟨_, _, _, _, h2, h3, h.symm, rfl⟩
      · cases h
    · cases h
  · cases h

section
variable {X : Cx} {top : Func} {sig : Sig} {B : Base} {Φ : Nat → Cont} {rs0 : List D}

def Fin (P : Program) (top : Func) (sig : Sig) (B : Base) (rs0 : List D) : Exit → Act → World → Prop :=
  bodyPost P top fun e w' => ∃ v, e = .returned v ∧ ∃ p' om' us cs, ReturnedA sig B.w0 B.p0 B.om0 rs0 v w' p' om' us cs ∧ ∀ k j b, (B.p0.ad k j b → p'.ad k j b) ∧ (¬ B.ks k → p'.ad k j b → B.p0.ad k j b)

def Goal (P : Program) (fin : Exit → Act → World → Prop) (K : List KI) (ns : List Nat) (bs : List Act) (a : Act) (w : World) : Task → Prop
  | .code c => c.wp P (KP P fin K ns bs) a w
  | .ops ops l => wpOps P ops (KP P fin K ns bs) l a w
  | .dops _ _ _ => True
  | .res .norm => KP P fin K ns bs .normal a w
  | .res .ret => KP P fin K ns bs .ret a w
  | .res (.exit id) => KP P fin K ns bs (.exit id) a w

structure Ev (st : SS) (ρ : List D) : Prop where
  len : ρ.length = st.nv
  fact : ∀ i b, look st.facts i = some b → nth ρ i = some ⟨.bool, b⟩

def Sound [Arn] (X : Cx) (top : Func) (sig : Sig) (B : Base) (Φ : Nat → Cont) (rs0 : List D) (n : Nat) : Prop :=
  ∀ (lv : Nat) (t : Task) (st : SS) (K : List KI) (ir : IR), go X top sig n false lv t st K = some ir →
    ∀ (R : Type) (ρ : List D) (kr : List D → Option R) (kj : Nat → List D → Option R) (r : R) (ns : List Nat) (bs : List Act) (a : Act) (w : World) (g : G),
      den Φ ir R lv ρ kr kj = some r → (∀ ds, kr ds = some r → ds = rs0) → KInv X.P B (Fin X.P top sig B rs0) ρ (fun l ds => kj l ds = some r) lv K ns bs → Ev st ρ →
      RelG B ρ (abs st) a bs w g → Goal X.P (Fin X.P top sig B rs0) K ns bs a w t

theorem Ev.add [Arn] {st : SS} {ρ outs : List D} {δ : Δ} (h : Ev st ρ) (hl : outs.length = δ.nv) : Ev (st.after δ) (ρ ++ outs) := by
  rw [after_eq]; refine ⟨by simp [h.len, hl], fun i b hi => ?_⟩
  have := h.fact i b hi
  rw [nth_eq] at this ⊢; rw [List.getElem?_append_left (List.getElem?_eq_some_iff.1 this).1]; exact this

theorem Ev.know [Arn] {st : SS} {ρ : List D} (h : Ev st ρ) {i : Nat} {b : Bool} (hb : nth ρ i = some ⟨.bool, b⟩) : Ev (st.fact i b) ρ := by
  refine ⟨h.len, fun j c hj => ?_⟩
  simp only [SS.fact] at hj; rw [look_cons] at hj; split at hj
  · rename_i e; subst e; simp only [oi] at hj; subst hj; exact hb
  · exact h.fact j c hj

theorem nth_app [Arn] {ρ outs : List D} {i : Nat} {d : D} (h : nth ρ i = some d) : nth (ρ ++ outs) i = some d := by
  rw [nth_eq] at h ⊢; rw [List.getElem?_append_left (List.getElem?_eq_some_iff.1 h).1]; exact h

theorem evs_mono [Arn] {ρ ρ' : List D} (h : ∀ i d, nth ρ i = some d → nth ρ' i = some d) : ∀ (xs : List A) (ds : List D), evs ρ xs = some ds → evs ρ' xs = some ds
  | [], ds, hx => hx
  | x :: xs, ds, hx => by
    simp only [evs] at hx; split at hx
    · rename_i d hd; split at hx
      · rename_i ds' hds; cases hx; simp only [evs, A.ev_mono h hd, evs_mono h xs ds' hds]
      · cases hx
    · cases hx

theorem op_eval [Arn] (hΦ : ΦOk X Φ) {st : SS} {o : Oper} {e : Option (Pr × List A × List Ty)} {δ : Δ} (hi : Info X st o e δ) {k : Option IR} {ir : IR} (h : addOp e k = some ir) {R : Type} {lv : Nat} {ρ : List D}
    {kr : List D → Option R} {kj : Nat → List D → Option R} {r : R} (hd : den Φ ir R lv ρ kr kj = some r) (hl : ρ.length = st.nv) :
    ∃ k' outs, k = some k' ∧ outs.length = δ.nv ∧ den Φ k' R lv (ρ ++ outs) kr kj = some r ∧ ∀ q ys us, e = some (q, ys, us) → EnvOk Φ (ρ ++ outs) st.nv q ys := by
  cases e with
  | none =>
    cases k with
    | none => simp [addOp] at h
    | some k' =>
      simp only [addOp, oi] at h; subst h; exact ⟨k', [], rfl, (hi.nov rfl).symm, by rw [List.append_nil]; exact hd, fun _ _ _ h => by cases h⟩
  | some q =>
    obtain ⟨q, xs, ts⟩ := q; cases k with
    | none => simp [addOp] at h
    | some k' =>
      simp only [addOp, oi] at h; subst h; simp only [den] at hd; split at hd
      · rename_i ds hx; obtain ⟨outs, h1, h2, h3⟩ := env_step hΦ hi rfl hx hd; refine ⟨k', outs, rfl, h3, h2, fun q' ys us h => ?_⟩
        simp only [oi, Prod.mk.injEq] at h; obtain ⟨rfl, rfl, rfl⟩ := h; refine ⟨ds, outs, evs_mono (fun i d h => nth_app h) _ _ hx, h1, fun j d hj => ?_⟩
        rw [nth_eq, ← hl, List.getElem?_append_right (Nat.le_add_right _ _), Nat.add_sub_cancel_left]; exact hj
      · cases hd

theorem KInv.env [Arn] {P : Program} {fin : Exit → Act → World → Prop} {ρ outs : List D} {J : Nat → List D → Prop} {lv : Nat} {K : List KI} {ns : List Nat} {bs : List Act} (h : KInv P B fin ρ J lv K ns bs) :
    KInv P B fin (ρ ++ outs) J lv K ns bs :=
  KInv.mono (by simp) (fun m hm => by rw [List.take_append_of_le_length hm]) K lv lv ns bs (Nat.le_refl _) (fun _ _ _ h => h) h

theorem SS.seq_step [Arn] {st : SS} {ρ : List D} {a : Act} {bs : List Act} {w : World} {g : G} (h : RelG B ρ (abs st) a bs w g) {o : Oper} (hd : ∀ d, o.dst = some d → d < st.n) : Pre X.P B ρ st o (abs st) a bs w g :=
  ⟨h, hd, fun i sv _ hs => (slot_abs hs).2⟩

theorem stepOk_seq [Arn] {st : SS} {ρ : List D} {o : Oper} {e : Option (Pr × List A × List Ty)} {δ : Δ} (hi : Info X st o e δ) (hf : ∀ i b, look st.facts i = some b → nth ρ i = some ⟨.bool, b⟩)
    (he : ∀ q ys us, e = some (q, ys, us) → EnvOk Φ ρ st.nv q ys) : StepOk X ρ st o (abs st) δ Φ e where
  box := fun β row _ _ hl => by rw [← boxAt_abs]; exact hl
  live := fun k hk => hi.kill k hk
  fb := fun _ => by simp [abs]
  ft := fun k hk _ h => by simp only [abs] at h; omega
  fact := hf
  env := he
  dyn := fun k x hx => by
    unfold SS.dynL at hx; split at hx
    · rename_i hc; exact ⟨by show k ∈ st.live; simpa using hc, hx⟩
    · cases hx
  ar := fun _ k x hx => hx
  out := fun k => rfl
theorem both_some [Arn] {f : IR → IR → IR} {x y : Option IR} {ir : IR} (h : both f x y = some ir) : ∃ a b, x = some a ∧ y = some b ∧ ir = f a b := by
  cases x <;> cases y <;> simp [both] at h
  exact ⟨_, _, rfl, rfl, h.symm⟩

theorem ite_eval [Arn] {R : Type} {lv i : Nat} {a b : IR} {ρ : List D} {kr : List D → Option R} {kj : Nat → List D → Option R} {r : R} (h : den Φ (.ite (.v i) a b) R lv ρ kr kj = some r) :
    ∃ v, nth ρ i = some ⟨.bool, v⟩ ∧ den Φ (if v then a else b) R lv ρ kr kj = some r := by
  simp only [den] at h; split at h
  · rename_i v hv; refine ⟨v, hv, ?_⟩
    cases v <;> simpa using h
  · cases h

theorem look_zip [Arn] : ∀ (vs : List SV) (k i : Nat), look ((vs.zipIdx k).map fun q => (q.2, q.1)) i = if k ≤ i then vs[i - k]? else none
  | [], k, i => by simp only [List.zipIdx_nil, List.map_nil, List.getElem?_nil, ite_self]; rfl
  | v :: vs, k, i => by
    simp only [List.zipIdx_cons, List.map_cons, look_cons, look_zip vs (k + 1) i]; by_cases e : k = i
    · subst e; simp
    · rw [if_neg e]; by_cases h : k + 1 ≤ i
      · rw [if_pos h, if_pos (by omega)]; rw [show i - k = (i - (k + 1)) + 1 by omega]; rfl
      · rw [if_neg h, if_neg (by omega)]

theorem BoxOk.congr [Arn] {ρ : List D} {α α' : AS} {g : G} {w : World} (hb : α'.box = α.box) (hk : α'.known = α.known) {β : Nat} {row : List SC} (h : BoxOk B ρ α g w β row) : BoxOk B ρ α' g w β row := by
  obtain ⟨h1, h2, h3, cs, el, h4, h5⟩ := h; exact ⟨h1, h2, h3, cs, el, h4, Forall2.mono (fun _ _ h => SCRep.congr hb hk h) h5⟩

theorem dstOut_spec [Arn] {n : Nat} {d : Option Tmp} (h : ¬ dstOut n d = true) : ∀ i, d = some i → i < n := by
  rintro i rfl
  simpa [dstOut, blt_eq] using h

theorem enter_rel [Arn] {st : SS} {ρ : List D} {a : Act} {bs : List Act} {w : World} {g : G} (h : RelG B ρ (abs st) a bs w g) {fn : Func} {vs : List SV} {us : Array Value} (hu : All2 (SVRep ρ (abs st) g w) vs us.toList)
    (hn : vs.length ≤ fn.ntmps) : RelG B ρ (abs (enter st fn vs)) { tmps := us ++ Array.replicate (fn.ntmps - us.size) undef, defers := [] } (a :: bs) w g := by
  have hl := hu.len
  simp only [Array.length_toList] at hl; refine { nodef := rfl, sz := by simp [abs, enter]; omega, slot := fun i => ?_, saved := ?_, box := fun β row hr => BoxOk.congr (α := abs st) (α' := abs (enter st fn vs)) rfl rfl (h.box β row hr), live := fun k hk => ⟨(h.live k hk).1, ⟨(h.live k hk).2.own⟩⟩, pwf := h.pwf, bel := h.bel, hB := h.hB, dk := h.dk, hl := h.hl.st h.bel.size ⟨fun _ _ h => h, fun β row h => ⟨⟨row, h⟩, rfl⟩, fun k h => ⟨h, rfl, rfl, rfl⟩, fun _ _ h => ⟨h, rfl⟩, fun _ _ _ h => h⟩ rfl rfl }
  · refine SVRep.congr (α := abs st) rfl rfl ?_
    show SVRep ρ (abs st) g w (absSlots fn.ntmps (vs.zipIdx.map fun (v, i) => (i, v)) i) _
    have hlk : look (vs.zipIdx.map fun (v, i) => (i, v)) i = vs[i]? := by
      have := look_zip vs 0 i
      simpa using this
    simp only [absSlots, hlk]; by_cases hi : i < vs.length
    · obtain ⟨u, h1, h2⟩ := hu.get i vs[i] (List.getElem?_eq_getElem hi)
      rw [if_pos (by omega), List.getElem?_eq_getElem hi]; have : (us ++ Array.replicate (fn.ntmps - us.size) undef).getD i undef = u := by
        rw [Array.getD_eq_getD_getElem?, Array.getElem?_append_left (by omega), ← Array.getElem?_toList, h1]; rfl
      rw [this]; exact h2
    · have : (us ++ Array.replicate (fn.ntmps - us.size) undef).getD i undef = undef := by
        rw [Array.getD_eq_getD_getElem?, Array.getElem?_append_right (by omega), Array.getElem?_replicate]; split <;> rfl
      rw [this, List.getElem?_eq_none (by omega)]; split <;> rfl
  · exact .cons ⟨h.nodef, h.sz, fun i => SVRep.congr (α := abs st) rfl rfl (h.slot i)⟩ (Forall2.mono (fun _ _ ⟨h1, h2, h3⟩ => ⟨h1, h2, fun i => SVRep.congr (α := abs st) rfl rfl (h3 i)⟩) h.saved)

end
end Go.Proofs.Ytmglkddddpipgaa.Sx
