/-
  Regions whose order is left open; the soundness of the executor; from its word to a contract and to a row; laws for reckoning a text.
-/
import Derived.Test.YtdjknicjnaiomaaK3
import Derived.ProofKit
import Derived.Deep.Slices
import Derived.JoinedCond
import Derived.IntWalk
set_option linter.unusedVariables false
set_option linter.unusedSimpArgs false
/- Regions that draw their order: what the check says. -/
namespace Go.Proofs.Ytdjknicjnaiomaa.Sx
open Go.RowKit

theorem ancs_spec : ∀ (l : List Oper) (acc : List (List Nat)),
    (ancs l acc).length = acc.length + l.length ∧ (∀ i, i < acc.length → (ancs l acc).reverse[i]? = acc.reverse[i]?) ∧
    ∀ (k : Nat) (o : Oper), l[k]? = some o → (∀ j ∈ edgesOn o, j < acc.length + k) →
      (ancs l acc).reverse[acc.length + k]? = some (edgesOn o ++ ((edgesOn o).map fun j => ((ancs l acc).reverse[j]?).getD []).flatten)
  | [], acc => ⟨by simp [ancs], fun i _ => by simp [ancs], fun k o h => by simp at h⟩
  | o :: r, acc => by
    obtain ⟨h1, h2, h3⟩ := ancs_spec r ((edgesOn o ++ ((edgesOn o).map fun j => acc.getD (acc.length - 1 - j) []).flatten) :: acc)
    simp only [List.length_cons] at h1 h2 h3
    refine ⟨by simp only [ancs, List.length_cons]; rw [h1]; omega, fun i hi => ?_, fun k o' hk he => ?_⟩
    · simp only [ancs]
      rw [h2 i (by omega), List.reverse_cons, List.getElem?_append_left (by simpa using hi)]
    · simp only [ancs]
      cases k with
      | zero =>
        simp only [List.getElem?_cons_zero, Option.some.injEq] at hk
        subst hk
        rw [Nat.add_zero, h2 _ (by omega), List.reverse_cons, List.getElem?_append_right (by simp)]
        simp only [List.length_reverse, Nat.sub_self, List.getElem?_cons_zero, Option.some.injEq]
        congr 2
        refine List.map_congr_left fun j hj => ?_
        have hlt : j < acc.length := by have := he j hj; omega
        rw [h2 j (by omega), List.reverse_cons, List.getElem?_append_left (by simpa using hlt), List.getElem?_reverse hlt, List.getD_eq_getElem?_getD]
      | succ k =>
        have := h3 k o' (by simpa using hk) (fun j hj => by have := he j hj; omega)
        rw [show acc.length + (k + 1) = acc.length + 1 + k by omega]
        exact this

structure Stat (X : Cx) (ops : Array Oper) (an : Nat → List Nat) : Prop where
  call : ∀ (i : Nat) (o : Oper), ops[i]? = some o → callOk X o = true
  back : ∀ (i j : Nat) (o : Oper), ops[i]? = some o → j ∈ edgesOn o → j < i
  reads : ∀ (i j : Nat) (o o' : Oper) (d : Tmp), ops[i]? = some o → ops[j]? = some o' → o'.dst = some d → d ∈ o.looksAt ops → j ∈ an i ∨ i ∈ an j
  dst : ∀ (i j : Nat) (o o' : Oper) (d : Tmp), ops[i]? = some o → ops[j]? = some o' → i ≠ j → o.dst = some d → o'.dst ≠ some d
  mem : ∀ (i j : Nat) (o o' : Oper), ops[i]? = some o → ops[j]? = some o' → i ≠ j → stores o = true → touches o' = true → j ∈ an i ∨ i ∈ an j
  anc : ∀ (i j : Nat) (o : Oper), ops[i]? = some o → j ∈ an i → j ∈ edgesOn o ∨ ∃ k ∈ edgesOn o, j ∈ an k

theorem drawOk_spec {X : Cx} {ops : Array Oper} (h : drawOk X ops = true) : ∃ an, Stat X ops an := by
  simp only [drawOk, Bool.and_eq_true, List.all_eq_true] at h
  obtain ⟨hc, hq⟩ := h
  obtain ⟨l1, _, l3⟩ := ancs_spec ops.toList []
  simp only [List.length_nil, Nat.zero_add, Array.length_toList] at l1 l3
  have hget : ∀ (i : Nat) (o : Oper), ops[i]? = some o → ∃ a, (ancs ops.toList []).reverse[i]? = some a ∧ ((o, a), i) ∈ (ops.toList.zip (ancs ops.toList []).reverse).zipIdx := by
    intro i o ho
    have hi : i < ops.size := (Array.getElem?_eq_some_iff.1 ho).1
    have ha : i < (ancs ops.toList []).reverse.length := by rw [List.length_reverse, l1]; exact hi
    refine ⟨_, List.getElem?_eq_getElem ha, ?_⟩
    rw [List.mem_zipIdx_iff_getElem?, List.getElem?_zip_eq_some]
    exact ⟨by rw [Array.getElem?_toList]; exact ho, List.getElem?_eq_getElem ha⟩
  refine ⟨fun i => ((ancs ops.toList []).reverse[i]?).getD [], ?_⟩
  have hb : ∀ (i j : Nat) (o : Oper), ops[i]? = some o → j ∈ edgesOn o → j < i := by
    intro i j o ho hj
    obtain ⟨a, _, h1⟩ := hget i o ho
    have := (hq _ h1).1 j hj
    rwa [blt_eq, decide_eq_true_eq] at this
  refine ⟨fun i o ho => hc o (by rw [Array.mem_toList_iff]; exact Array.mem_of_getElem? ho), hb, ?_, ?_, ?_, ?_⟩
  · intro i j o o' d hi hj hd hl
    obtain ⟨a, ha, h1⟩ := hget i o hi
    obtain ⟨a', ha', h2⟩ := hget j o' hj
    have := ((hq _ h1).2 _ h2).1
    simp only [hd, Bool.or_eq_true, Bool.not_eq_true', List.contains_eq_mem, decide_eq_false_iff_not, decide_eq_true_eq] at this
    rw [ha, ha']
    rcases this with (h | h) | h
    · exact absurd hl h
    · exact .inl h
    · exact .inr h
  · intro i j o o' d hi hj hne hd
    obtain ⟨a, ha, h1⟩ := hget i o hi
    obtain ⟨a', ha', h2⟩ := hget j o' hj
    have := ((hq _ h1).2 _ h2).2
    simp only [hd, Bool.or_eq_true, Bool.and_eq_true, Nat.beq_eq, bne_iff_ne] at this
    exact (this.resolve_left hne).1
  · intro i j o o' hi hj hne hs ht
    obtain ⟨a, ha, h1⟩ := hget i o hi
    obtain ⟨a', ha', h2⟩ := hget j o' hj
    have := ((hq _ h1).2 _ h2).2
    simp only [hs, ht, Bool.or_eq_true, Bool.and_eq_true, Nat.beq_eq, List.contains_eq_mem, decide_eq_true_eq, Bool.true_and, Bool.not_true, Bool.false_eq_true, false_or] at this
    rw [ha, ha']
    exact (this.resolve_left hne).2
  · intro i j o hi hj
    have := l3 i o (by rw [Array.getElem?_toList]; exact hi) (fun k hk => hb i k o hi hk)
    rw [this] at hj
    simp only [Option.getD_some, List.mem_append, List.mem_flatten, List.mem_map] at hj
    rcases hj with hj | ⟨l, ⟨k, hk, rfl⟩, hj⟩
    · exact .inl hj
    · exact .inr ⟨k, hk, hj⟩

/-- those that are listed with all for whom they wait -/
theorem anc_closed {X : Cx} {ops : Array Oper} {an : Nat → List Nat} (h : Stat X ops an) {S : Nat → Prop} (hS : ∀ (i j : Nat) (o : Oper), S i → ops[i]? = some o → j ∈ edgesOn o → S j) (hin : ∀ i, S i → i < ops.size) :
    ∀ (i : Nat) (o : Oper), ops[i]? = some o → (∀ j ∈ edgesOn o, S j) → ∀ j ∈ an i, S j ∧ j < i := by
  intro i
  induction i using Nat.strongRecOn with
  | ind i ih =>
    intro o ho he j hj
    rcases h.anc i j o ho hj with h1 | ⟨k, h1, h2⟩
    · exact ⟨he j h1, h.back i j o ho h1⟩
    · have hk := h.back i k o ho h1
      have hks := he k h1
      obtain ⟨o', ho'⟩ : ∃ o', ops[k]? = some o' := ⟨_, Array.getElem?_eq_getElem (hin k hks)⟩
      have := ih k hk o' ho' (fun j' hj' => hS k j' o' hks ho' hj') j h2
      exact ⟨this.1, by omega⟩
end Go.Proofs.Ytdjknicjnaiomaa.Sx

/- Effects in any order. -/
namespace Go.Proofs.Ytdjknicjnaiomaa.Sx
open Go.RowKit

def AS.step (α : AS) (q : SS × Δ) : AS := α.upd q.2 q.1.nb q.1.ntok

def isNew (q : SS × Δ) (k : Nat) : Prop := q.1.ntok ≤ k ∧ k < q.1.ntok + q.2.nt

structure Comm (q q' : SS × Δ) : Prop where
  dst : ∀ d, q.2.dst = some d → q'.2.dst ≠ some d
  ss : ∀ β r β' r', q.2.setb = some (β, r) → q'.2.setb = some (β', r') → β ≠ β'
  nn : q.2.newb.isSome = true → q'.2.newb.isSome = true → q.1.nb ≠ q'.1.nb
  sn : ∀ β r, q.2.setb = some (β, r) → q'.2.newb.isSome = true → β ≠ q'.1.nb
  ns : ∀ β r, q'.2.setb = some (β, r) → q.2.newb.isSome = true → β ≠ q.1.nb
  kn : ∀ k, q.2.kill = some k → ¬ isNew q' k
  nk : ∀ k, q'.2.kill = some k → ¬ isNew q k

theorem step_comm (α : AS) {q q' : SS × Δ} (h : Comm q q') : (α.step q).step q' = (α.step q').step q := by
  obtain ⟨st, ⟨dst, sv, newb, setb, kill, nt, nv⟩⟩ := q
  obtain ⟨st', ⟨dst', sv', newb', setb', kill', nt', nv'⟩⟩ := q'
  obtain ⟨h1, h2, h3, h4, h5, h6, h7⟩ := h
  simp only at h1 h2 h3 h4 h5 h6 h7
  unfold AS.step AS.upd
  simp only [AS.mk.injEq, true_and, and_true]
  refine ⟨?_, ?_, ?_, ?_⟩
  · funext i
    cases dst with
    | none => simp
    | some d =>
      have := h1 d rfl
      by_cases e : d = i
      · subst e; simp [this]
      · simp [e]
  · funext β
    have h3' : ∀ r r', newb = some r → newb' = some r' → st.nb ≠ st'.nb := fun r r' a b => h3 (by simp [a]) (by simp [b])
    have h4' : ∀ β r r', setb = some (β, r) → newb' = some r' → β ≠ st'.nb := fun β r r' a b => h4 β r a (by simp [b])
    have h5' : ∀ β r r', setb' = some (β, r) → newb = some r' → β ≠ st.nb := fun β r r' a b => h5 β r a (by simp [b])
    clear h1 h3 h4 h5 h6 h7
    cases newb with
    | none =>
      cases newb' with
      | none =>
        cases setb with
        | none => cases setb' <;> rfl
        | some p =>
          cases setb' with
          | none => rfl
          | some p' =>
            have := h2 _ _ _ _ rfl rfl
            by_cases e : β = p.1
            · have e' : ¬ β = p'.1 := by omega
              simp [e, e', this]
            · simp [e]
      | some r' =>
        cases setb with
        | none => cases setb' <;> rfl
        | some p =>
          have k4 := h4' _ _ _ rfl rfl
          cases setb' with
          | none =>
            by_cases e : β = st'.nb
            · have : ¬ β = p.1 := by omega
              simp [e, Ne.symm k4]
            · simp [e]
          | some p' =>
            have := h2 _ _ _ _ rfl rfl
            by_cases e : β = st'.nb
            · simp [e, Ne.symm k4]
            · by_cases e2 : β = p.1
              · have e' : ¬ β = p'.1 := by omega
                simp [e2, k4, this]
              · simp [e, e2]
    | some r =>
      cases newb' with
      | none =>
        cases setb' with
        | none => cases setb <;> rfl
        | some p' =>
          have k5 := h5' _ _ _ rfl rfl
          cases setb with
          | none =>
            by_cases e : β = st.nb
            · simp [e, Ne.symm k5]
            · simp [e]
          | some p =>
            have := h2 _ _ _ _ rfl rfl
            by_cases e : β = st.nb
            · simp [e, Ne.symm k5]
            · by_cases e2 : β = p.1
              · simp [e2, this]
              · simp [e, e2]
      | some r' =>
        have k3 := h3' _ _ rfl rfl
        by_cases e : β = st.nb
        · have e1 : ¬ β = st'.nb := by omega
          have e2 : ∀ p', setb' = some p' → ¬ β = p'.1 := fun p' hp => by have := h5' p'.1 p'.2 r hp rfl; omega
          cases setb' with
          | none => simp [e, k3]
          | some p' => have := e2 _ rfl; subst e; simp [k3, this]
        · by_cases e1 : β = st'.nb
          · have e2 : ∀ p, setb = some p → ¬ β = p.1 := fun p hp => by have := h4' p.1 p.2 r' hp rfl; omega
            cases setb with
            | none => simp [e1, Ne.symm k3]
            | some p => have := e2 _ rfl; subst e1; simp [Ne.symm k3, this]
          · simp only [e, e1, if_false]
            cases setb with
            | none => cases setb' <;> rfl
            | some p =>
              cases setb' with
              | none => rfl
              | some p' =>
                have := h2 _ _ _ _ rfl rfl
                by_cases e2 : β = p.1
                · have e' : ¬ β = p'.1 := by omega
                  simp [e2, this]
                · simp [e2]
  · funext k; apply propext; constructor <;> (rintro ((h | h) | h) <;> simp [h])
  · funext k
    apply propext
    have a6 := h6 k
    have a7 := h7 k
    simp only [isNew] at a6 a7
    constructor
    · rintro (⟨⟨h, hk⟩ | h, hk'⟩ | h)
      · exact .inl ⟨.inl ⟨h, hk'⟩, hk⟩
      · exact .inr h
      · exact .inl ⟨.inr h, fun e => a6 e h⟩
    · rintro (⟨⟨h, hk⟩ | h, hk'⟩ | h)
      · exact .inl ⟨.inl ⟨h, hk'⟩, hk⟩
      · exact .inr h
      · exact .inl ⟨.inr h, fun e => a7 e h⟩

open Classical in
/-- the effects of those that are listed -/
noncomputable def mask : List (SS × Δ) → (Nat → Prop) → Nat → AS → AS
  | [], _, _, α => α
  | q :: E, S, k, α => mask E S (k + 1) (if S k then α.step q else α)

theorem mask_push {S : Nat → Prop} {q : SS × Δ} : ∀ (E : List (SS × Δ)) (k : Nat) (α : AS), (∀ j q', E[j]? = some q' → S (k + j) → Comm q q') → (mask E S k α).step q = mask E S k (α.step q)
  | [], _, _, _ => rfl
  | q' :: E, k, α, h => by
    simp only [mask]
    rw [mask_push E (k + 1) _ fun j q'' hj hs => h (j + 1) q'' (by simpa using hj) (by rwa [show k + (j + 1) = k + 1 + j by omega])]
    by_cases hs : S k
    · rw [if_pos hs, if_pos hs, step_comm α (h 0 q' rfl hs)]
    · rw [if_neg hs, if_neg hs]

theorem mask_congr {S S' : Nat → Prop} : ∀ (E : List (SS × Δ)) (k : Nat) (α : AS), (∀ j, j < E.length → (S (k + j) ↔ S' (k + j))) → mask E S k α = mask E S' k α
  | [], _, _, _ => rfl
  | q :: E, k, α, h => by
    have h0 : S k ↔ S' k := h 0 (by simp)
    have hr := fun α => mask_congr (S := S) (S' := S') E (k + 1) α (fun j hj => by have := h (j + 1) (by simpa using hj); rwa [show k + (j + 1) = k + 1 + j by omega] at this)
    simp only [mask]
    rw [hr]
    by_cases hs : S k
    · rw [if_pos hs, if_pos (h0.1 hs)]
    · rw [if_neg hs, if_neg (fun h => hs (h0.2 h))]

theorem mask_insert {S : Nat → Prop} {q : SS × Δ} {i : Nat} : ∀ (E : List (SS × Δ)) (k : Nat) (α : AS), k ≤ i → E[i - k]? = some q → ¬ S i → (∀ j q', E[j]? = some q' → i < k + j → S (k + j) → Comm q q') →
    mask E (fun j => S j ∨ j = i) k α = (mask E S k α).step q
  | [], _, _, _, h, _, _ => by simp at h
  | q' :: E, k, α, hk, h, hn, hc => by
    by_cases e : k = i
    · subst e
      simp only [Nat.sub_self, List.getElem?_cons_zero, Option.some.injEq] at h
      subst h
      have h1 : mask (q' :: E) (fun j => S j ∨ j = k) k α = mask E (fun j => S j ∨ j = k) (k + 1) (α.step q') := by
        rw [mask]; exact congrArg _ (if_pos (Or.inr rfl))
      have h2 : mask (q' :: E) S k α = mask E S (k + 1) α := by
        rw [mask]; exact congrArg _ (if_neg hn)
      rw [h1, h2, mask_push E (k + 1) α fun j q'' hj hs => hc (j + 1) q'' (by simpa using hj) (by omega) (by rwa [show k + (j + 1) = k + 1 + j by omega])]
      exact mask_congr E (k + 1) _ fun j _ => ⟨fun h => h.resolve_right (by omega), .inl⟩
    · have hi := fun α => mask_insert (S := S) (q := q) (i := i) E (k + 1) α (by omega) (by rw [show i - k = (i - (k + 1)) + 1 by omega] at h; simpa using h) hn
        (fun j q'' hj hl hs => hc (j + 1) q'' (by simpa using hj) (by omega) (by rwa [show k + (j + 1) = k + 1 + j by omega]))
      by_cases hs : S k
      · have h1 : mask (q' :: E) (fun j => S j ∨ j = i) k α = mask E (fun j => S j ∨ j = i) (k + 1) (α.step q') := by
          rw [mask]; exact congrArg _ (if_pos (Or.inl hs))
        have h2 : mask (q' :: E) S k α = mask E S (k + 1) (α.step q') := by
          rw [mask]; exact congrArg _ (if_pos hs)
        rw [h1, h2]; exact hi _
      · have h1 : mask (q' :: E) (fun j => S j ∨ j = i) k α = mask E (fun j => S j ∨ j = i) (k + 1) α := by
          rw [mask]; exact congrArg _ (if_neg (fun h => h.elim hs e))
        have h2 : mask (q' :: E) S k α = mask E S (k + 1) α := by
          rw [mask]; exact congrArg _ (if_neg hs)
        rw [h1, h2]; exact hi _

theorem mask_all : ∀ (E : List (SS × Δ)) (k : Nat) (α : AS) (S : Nat → Prop), (∀ j, j < E.length → S (k + j)) → mask E S k α = E.foldl AS.step α
  | [], _, _, _, _ => rfl
  | q :: E, k, α, S, h => by
    simp only [mask, List.foldl_cons]
    rw [if_pos (show S k from h 0 (by simp))]
    exact mask_all E (k + 1) _ S fun j hj => by have := h (j + 1) (by simpa using hj); rwa [show k + (j + 1) = k + 1 + j by omega] at this

theorem mask_none : ∀ (E : List (SS × Δ)) (k : Nat) (α : AS) (S : Nat → Prop), (∀ j, j < E.length → ¬ S (k + j)) → mask E S k α = α
  | [], _, _, _, _ => rfl
  | q :: E, k, α, S, h => by
    simp only [mask]
    rw [if_neg (show ¬ S k from h 0 (by simp))]
    exact mask_none E (k + 1) _ S fun j hj => by have := h (j + 1) (by simpa using hj); rwa [show k + (j + 1) = k + 1 + j by omega] at this

theorem mask_n : ∀ (E : List (SS × Δ)) (S : Nat → Prop) (k : Nat) (α : AS), (mask E S k α).n = α.n
  | [], _, _, _ => rfl
  | q :: E, S, k, α => by
    simp only [mask]
    rw [mask_n E S (k + 1) _]
    split <;> rfl

theorem mask_slot {S S' : Nat → Prop} {t : Nat} : ∀ (E : List (SS × Δ)) (k : Nat) (α α' : AS), α.slot t = α'.slot t → (∀ j q, E[j]? = some q → q.2.dst = some t → (S (k + j) ↔ S' (k + j))) →
    (mask E S k α).slot t = (mask E S' k α').slot t
  | [], _, _, _, h, _ => h
  | q :: E, k, α, α', h, hs => by
    simp only [mask]
    refine mask_slot E (k + 1) _ _ ?_ fun j q' hj hd => by have := hs (j + 1) q' (by simpa using hj) hd; rwa [show k + (j + 1) = k + 1 + j by omega] at this
    have st : ∀ α : AS, (α.step q).slot t = if q.2.dst = some t then q.2.sv else α.slot t := fun _ => rfl
    by_cases e : q.2.dst = some t
    · have := hs 0 q rfl e
      rw [Nat.add_zero] at this
      by_cases hk : S k
      · rw [if_pos hk, if_pos (this.1 hk), st, st, if_pos e, if_pos e]
      · rw [if_neg hk, if_neg (fun h' => hk (this.2 h'))]; exact h
    · have : ∀ (p : Prop) [Decidable p] (α : AS), (if p then α.step q else α).slot t = α.slot t := by
        intro p _ α
        split
        · rw [st, if_neg e]
        · rfl
      rw [this, this]; exact h

theorem mask_box {S S' : Nat → Prop} {β : Nat} : ∀ (E : List (SS × Δ)) (k : Nat) (α α' : AS), α.box β = α'.box β →
    (∀ j q, E[j]? = some q → ((∃ r, q.2.setb = some (β, r)) ∨ (q.2.newb.isSome = true ∧ q.1.nb = β)) → (S (k + j) ↔ S' (k + j))) → (mask E S k α).box β = (mask E S' k α').box β
  | [], _, _, _, h, _ => h
  | q :: E, k, α, α', h, hs => by
    simp only [mask]
    refine mask_box E (k + 1) _ _ ?_ fun j q' hj hd => by have := hs (j + 1) q' (by simpa using hj) hd; rwa [show k + (j + 1) = k + 1 + j by omega] at this
    have st : ∀ α α' : AS, α.box β = α'.box β → (α.step q).box β = (α'.step q).box β := by
      intro α α' h
      simp only [AS.step, AS.upd, h]
    have st' : ¬ ((∃ r, q.2.setb = some (β, r)) ∨ (q.2.newb.isSome = true ∧ q.1.nb = β)) → ∀ α : AS, (α.step q).box β = α.box β := by
      intro hn α
      simp only [not_or, not_and, not_exists] at hn
      simp only [AS.step, AS.upd]
      have h1 : (match q.2.setb with | some (β', row) => if β = β' then some row else α.box β | none => α.box β) = α.box β := by
        cases hq : q.2.setb with
        | none => rfl
        | some p => simp only; rw [if_neg]; rintro rfl; exact hn.1 p.2 (by rw [hq])
      cases hq : q.2.newb with
      | none => exact h1
      | some r => simp only; rw [if_neg (fun e => hn.2 (by rw [hq]; rfl) e.symm)]; exact h1
    by_cases e : (∃ r, q.2.setb = some (β, r)) ∨ (q.2.newb.isSome = true ∧ q.1.nb = β)
    · have := hs 0 q rfl e
      rw [Nat.add_zero] at this
      by_cases hk : S k
      · rw [if_pos hk, if_pos (this.1 hk)]; exact st _ _ h
      · rw [if_neg hk, if_neg (fun h' => hk (this.2 h'))]; exact h
    · have : ∀ (p : Prop) [Decidable p] (α : AS), (if p then α.step q else α).box β = α.box β := by
        intro p _ α
        split
        · exact st' e α
        · rfl
      rw [this, this]; exact h

theorem mask_live {S S' : Nat → Prop} {x : Nat} : ∀ (E : List (SS × Δ)) (k : Nat) (α α' : AS), (α.live x ↔ α'.live x) → (∀ j q, E[j]? = some q → (q.2.kill = some x ∨ isNew q x) → (S (k + j) ↔ S' (k + j))) →
    ((mask E S k α).live x ↔ (mask E S' k α').live x)
  | [], _, _, _, h, _ => h
  | q :: E, k, α, α', h, hs => by
    simp only [mask]
    refine mask_live E (k + 1) _ _ ?_ fun j q' hj hd => by have := hs (j + 1) q' (by simpa using hj) hd; rwa [show k + (j + 1) = k + 1 + j by omega] at this
    have st : ∀ α : AS, (α.step q).live x ↔ ((α.live x ∧ q.2.kill ≠ some x) ∨ isNew q x) := fun _ => Iff.rfl
    by_cases e : q.2.kill = some x ∨ isNew q x
    · have := hs 0 q rfl e
      rw [Nat.add_zero] at this
      by_cases hk : S k
      · rw [if_pos hk, if_pos (this.1 hk), st, st, h]
      · rw [if_neg hk, if_neg (fun h' => hk (this.2 h'))]; exact h
    · simp only [not_or] at e
      have : ∀ (p : Prop) [Decidable p] (α : AS), (if p then α.step q else α).live x ↔ α.live x := by
        intro p _ α
        split
        · rw [st]; exact ⟨fun h => h.elim And.left (fun h => absurd h e.2), fun h => .inl ⟨h, e.1⟩⟩
        · rfl
      rw [this, this]; exact h

theorem mask_known {S : Nat → Prop} {x : Nat} : ∀ (E : List (SS × Δ)) (k : Nat) (α : AS), (mask E S k α).known x ↔ (α.known x ∨ ∃ j q, E[j]? = some q ∧ S (k + j) ∧ isNew q x)
  | [], _, _ => by simp [mask]
  | q :: E, k, α => by
    simp only [mask]
    rw [mask_known E (k + 1) _]
    have st : ∀ α : AS, (α.step q).known x ↔ (α.known x ∨ isNew q x) := fun _ => Iff.rfl
    constructor
    · rintro (h | ⟨j, q', h1, h2, h3⟩)
      · split at h
        · rename_i hs
          rcases (st _).1 h with h | h
          · exact .inl h
          · exact .inr ⟨0, q, rfl, hs, h⟩
        · exact .inl h
      · exact .inr ⟨j + 1, q', by simpa using h1, by rwa [show k + (j + 1) = k + 1 + j by omega], h3⟩
    · rintro (h | ⟨j, q', h1, h2, h3⟩)
      · left
        split
        · exact (st _).2 (.inl h)
        · exact h
      · cases j with
        | zero =>
          simp only [List.getElem?_cons_zero, Option.some.injEq] at h1
          subst h1
          left
          rw [if_pos (show S k from h2)]
          exact (st _).2 (.inr h3)
        | succ j => exact .inr ⟨j, q', by simpa using h1, by rwa [show k + 1 + j = k + (j + 1) by omega], h3⟩
end Go.Proofs.Ytdjknicjnaiomaa.Sx

/- A region's path, in the text's order. -/
namespace Go.Proofs.Ytdjknicjnaiomaa.Sx
open Go.RowKit

section
variable {X : Cx} {top : Func} {sig : Sig} {B : Base} {Φ : Nat → Cont} {st : SS} {o : Oper}

theorem nilc_bin {c : A} {y z : Δ} (hs : stepOp X st o = some (.nilc c y z)) : ∃ op t x x' yt, o.op = .binOp op t x x' yt ∧ isSlT (X.P.underlying t) = true := by
  simp only [stepOp] at hs
  split at hs
  case h_11 op t x x' yt ho =>
    refine ⟨op, t, x, x', yt, ho, ?_⟩
    split at hs
    · simp only [doBin] at hs
      split at hs
      · simp only [doBinC] at hs
        by_cases h : isSlT (X.P.underlying t) = true
        · exact h
        · have h' : isSlT (X.P.underlying t) = false := by simpa using h
          simp only [h', Bool.false_eq_true, if_false] at hs
          (repeat' (first | (cases hs; done) | (simp [eOne, ePr, Option.bind_eq_some_iff] at hs; done) | split at hs))
      · (repeat' (first | (cases hs; done) | (simp [eOne, ePr, Option.bind_eq_some_iff] at hs; done) | split at hs))
      · cases hs
    · cases hs
  all_goals first
    | ((repeat' (first | (cases hs; done) | (simp [eOne, ePr, Option.bind_eq_some_iff] at hs; done) | split at hs)); done)
    | (simp only [opPick, opLoad, opStore, opConvert, opSlice, opIndexAddr, opBuildSlice, opCallV, doBuiltin, doAppend, doAppendP, doCall, fL_eq] at hs; (repeat' (first | (cases hs; done) | (simp [eOne, ePr, Option.bind_eq_some_iff] at hs; done) | split at hs)); done)

theorem enter_call {f : FuncId} {vs : List SV} (hs : stepOp X st o = some (.enter f vs)) : ∃ fo xs ts caps, o.op = .call { callee := .value fo, args := xs, argTypes := ts } ∧ st.ev X.P none fo = some (.one (.fn f caps)) ∧ X.Γ f = none := by
  simp only [stepOp] at hs
  split at hs
  case h_23 c ho =>
    obtain ⟨callee, xs, ts⟩ := c
    split at hs
    · simp only [doBuiltin, doAppend, doAppendP, fL_eq] at hs; (repeat' (first | (cases hs; done) | (simp [eOne, ePr, Option.bind_eq_some_iff] at hs; done) | split at hs))
    · rename_i fo hc
      simp only at hc; subst hc
      simp only [opCallV] at hs
      split at hs
      · rename_i f' caps hev
        split at hs
        · rename_i vs0 hvs
          simp only [doCall] at hs
          split at hs
          · split at hs
            · split at hs <;> simp at hs
            · cases hs
          · rename_i hΓ
            split at hs
            · simp only [Option.some.injEq, Eff.enter.injEq] at hs
              obtain ⟨rfl, rfl⟩ := hs
              exact ⟨fo, xs, ts, caps, ho, hev, hΓ⟩
            · cases hs
        · cases hs
      · cases hs
    · cases hs
  all_goals first
    | ((repeat' (first | (cases hs; done) | (simp [eOne, ePr, Option.bind_eq_some_iff] at hs; done) | split at hs)); done)
    | (simp only [opPick, opLoad, opStore, opConvert, opSlice, opIndexAddr, opBuildSlice, doBin, doBinC, fL_eq] at hs; (repeat' (first | (cases hs; done) | (simp [eOne, ePr, Option.bind_eq_some_iff] at hs; done) | split at hs)); done)

theorem callOk_nilc (h : callOk X o = true) {c : A} {y z : Δ} : stepOp X st o ≠ some (.nilc c y z) := fun hs => by
  obtain ⟨op, t, x, x', yt, ho, h1⟩ := nilc_bin hs
  simp only [callOk, ho, h1] at h
  cases h

theorem callOk_enter (h : callOk X o = true) {f : FuncId} {vs : List SV} : stepOp X st o ≠ some (.enter f vs) := fun hs => by
  obtain ⟨fo, xs, ts, caps, ho, h1, h2⟩ := enter_call hs
  simp only [callOk, ho] at h
  cases fo with
  | func f' =>
    simp only [SS.ev, Option.some.injEq, SV.one.injEq, SC.fn.injEq] at h1
    obtain ⟨rfl, _⟩ := h1
    simp only [h2] at h
    cases h
  | _ => simp at h

/-- alike but for what is known of bools -/
def like (s t : SS) : Prop := ∃ f, t = { s with facts := f }

def chain : List (SS × Δ) → SS → SS → Prop
  | [], s, s' => like s s'
  | q :: E, s, s' => like s q.1 ∧ chain E (q.1.after q.2) s'

/-- what an entry of a path is -/
structure OkE (X : Cx) (ops : Array Oper) (Φ : Nat → Cont) (ρ : List D) (i : Nat) (q : SS × Δ) : Prop where
  ex : ∃ o, ops[i]? = some o ∧ (∀ d, o.dst = some d → d < q.1.n) ∧ q.2.dst = o.dst ∧ okδ q.1 q.2 = true ∧
    ((guardOf q.1 ops o.guard = .no ∧ q.2 = { dst := o.dst, sv := .dead }) ∨
     (guardOf q.1 ops o.guard = .yes ∧ ∃ e, stepOp X q.1 o = some (.go e q.2) ∧ ∀ p ys us, e = some (p, ys, us) → EnvOk Φ ρ q.1.nv p ys))
  fact : ∀ i b, look q.1.facts i = some b → nth ρ i = some ⟨.bool, b⟩

theorem EnvOk.app {ρ outs : List D} {nv : Nat} {p : Pr} {xs : List A} (h : EnvOk Φ ρ nv p xs) : EnvOk Φ (ρ ++ outs) nv p xs := by
  obtain ⟨ds, os, h1, h2, h3⟩ := h
  exact ⟨ds, os, evs_mono (fun i d h => nth_app h) _ _ h1, h2, fun j d hj => nth_app (h3 j d hj)⟩

theorem OkE.app {ops : Array Oper} {ρ outs : List D} {i : Nat} {q : SS × Δ} (h : OkE X ops Φ ρ i q) : OkE X ops Φ (ρ ++ outs) i q := by
  obtain ⟨⟨o, h1, h2, h3, h4, h5⟩, h6⟩ := h
  refine ⟨⟨o, h1, h2, h3, h4, h5.imp id ?_⟩, fun i b hb => nth_app (h6 i b hb)⟩
  rintro ⟨k1, e, k2, k3⟩
  exact ⟨k1, e, k2, fun p ys us he => (k3 p ys us he).app⟩

theorem chain_like {E : List (SS × Δ)} {s t s' : SS} (h : like s t) (hc : chain E t s') : chain E s s' := by
  cases E with
  | nil => obtain ⟨f, rfl⟩ := h; obtain ⟨f', rfl⟩ := hc; exact ⟨f', rfl⟩
  | cons q E =>
    obtain ⟨f, rfl⟩ := h
    obtain ⟨⟨f', h1⟩, h2⟩ := hc
    exact ⟨⟨f', h1⟩, h2⟩

theorem path (hΦ : ΦOk X Φ) {ops : Array Oper} : ∀ (n : Nat) (l : List Nat) (lv : Nat) (st : SS) (K : List KI) (ir : IR), go X top sig n false lv (.ops ops l) st K = some ir →
    (∀ i ∈ l, ∀ o, ops[i]? = some o → callOk X o = true) → ∀ (R : Type) (ρ : List D) (kr : List D → Option R) (kj : Nat → List D → Option R) (r : R), den Φ ir R lv ρ kr kj = some r → Ev st ρ →
    ∃ (E : List (SS × Δ)) (st' : SS) (outs : List D) (n' : Nat) (ir' : IR), E.length = l.length ∧ chain E st st' ∧ (∀ (k : Nat) (q : SS × Δ) (i : Nat), E[k]? = some q → l[k]? = some i → OkE X ops Φ (ρ ++ outs) i q) ∧
      n' < n ∧ go X top sig n' false lv (.res .norm) st' K = some ir' ∧ den Φ ir' R lv (ρ ++ outs) kr kj = some r ∧ Ev st' (ρ ++ outs) := by
  intro n
  induction n with
  | zero => intro l lv st K ir h; simp [go] at h
  | succ n ih =>
    intro l lv st K ir h hc R ρ kr kj r hd hE
    cases l with
    | nil =>
      simp only [go] at h
      exact ⟨[], st, [], n, ir, rfl, ⟨st.facts, rfl⟩, fun k q i hk => by simp at hk, Nat.lt_succ_self _, h, by rw [List.append_nil]; exact hd, by rw [List.append_nil]; exact hE⟩
    | cons i rest =>
      simp only [go] at h
      split at h
      · cases h
      · rename_i o ho
        split at h
        · cases h
        · rename_i hdst
          have hdst : ∀ d, o.dst = some d → d < st.n := dstOut_spec hdst
          have hco := hc i (by simp) o ho
          have hcr : ∀ i ∈ rest, ∀ o, ops[i]? = some o → callOk X o = true := fun i hi => hc i (by simp [hi])
          have part : ∀ x, both (.ite (.v x)) (go X top sig n false lv (.ops ops (i :: rest)) (st.fact x true) K) (go X top sig n false lv (.ops ops (i :: rest)) (st.fact x false) K) = some ir →
              ∃ (E : List (SS × Δ)) (st' : SS) (outs : List D) (n' : Nat) (ir' : IR), E.length = (i :: rest).length ∧ chain E st st' ∧ (∀ (k : Nat) (q : SS × Δ) (j : Nat), E[k]? = some q → (i :: rest)[k]? = some j → OkE X ops Φ (ρ ++ outs) j q) ∧
                n' < n + 1 ∧ go X top sig n' false lv (.res .norm) st' K = some ir' ∧ den Φ ir' R lv (ρ ++ outs) kr kj = some r ∧ Ev st' (ρ ++ outs) := by
            intro x hx
            obtain ⟨ia, ib, h1, h2, rfl⟩ := both_some hx
            obtain ⟨v, hv, hd'⟩ := ite_eval hd
            have : ∃ ir1, go X top sig n false lv (.ops ops (i :: rest)) (st.fact x v) K = some ir1 ∧ den Φ ir1 R lv ρ kr kj = some r := by
              cases v with
              | true => exact ⟨_, h1, hd'⟩
              | false => exact ⟨_, h2, hd'⟩
            obtain ⟨ir1, h3, h4⟩ := this
            obtain ⟨E, st', outs, n', ir', k1, k2, k3, k4, k5⟩ := ih _ _ _ _ _ h3 hc R ρ kr kj r h4 (hE.know hv)
            exact ⟨E, st', outs, n', ir', k1, chain_like ⟨_, rfl⟩ k2, k3, by omega, k5⟩
          -- one entry, then the rest
          have one : ∀ (δ : Δ) (outs1 : List D) (ir1 : IR), OkE X ops Φ (ρ ++ outs1) i (st, δ) → outs1.length = δ.nv → go X top sig n false lv (.ops ops rest) (st.after δ) K = some ir1 → den Φ ir1 R lv (ρ ++ outs1) kr kj = some r →
              ∃ (E : List (SS × Δ)) (st' : SS) (outs : List D) (n' : Nat) (ir' : IR), E.length = (i :: rest).length ∧ chain E st st' ∧ (∀ (k : Nat) (q : SS × Δ) (j : Nat), E[k]? = some q → (i :: rest)[k]? = some j → OkE X ops Φ (ρ ++ outs) j q) ∧
                n' < n + 1 ∧ go X top sig n' false lv (.res .norm) st' K = some ir' ∧ den Φ ir' R lv (ρ ++ outs) kr kj = some r ∧ Ev st' (ρ ++ outs) := by
            intro δ outs1 ir1 hok hl hg hdn
            obtain ⟨E, st', outs, n', ir', k1, k2, k3, k4, k5, k6, k7⟩ := ih _ _ _ _ _ hg hcr R _ kr kj r hdn (hE.add hl)
            refine ⟨(st, δ) :: E, st', outs1 ++ outs, n', ir', by simp [k1], ⟨⟨st.facts, rfl⟩, k2⟩, fun k q j hk hj => ?_, by omega, k5, by rw [← List.append_assoc]; exact k6, by rw [← List.append_assoc]; exact k7⟩
            rw [← List.append_assoc]
            cases k with
            | zero =>
              simp only [List.getElem?_cons_zero, Option.some.injEq] at hk hj
              subst hk; subst hj
              exact hok.app
            | succ k => exact k3 k q j (by simpa using hk) (by simpa using hj)
          split at h
          · cases h
          · rename_i hg
            rw [SS.app_eq] at h
            refine one { dst := o.dst, sv := .dead } [] _ ?_ rfl h (by rw [List.append_nil]; exact hd)
            rw [List.append_nil]
            exact ⟨⟨o, ho, hdst, rfl, rfl, .inl ⟨hg, rfl⟩⟩, hE.fact⟩
          · exact part _ h
          · rename_i hg
            split at h
            · cases h
            · rename_i e δ hst
              split at h
              · rename_i hok
                rw [SS.app_eq] at h
                have hi := step_info hst
                obtain ⟨k', outs, h1, h2, h3, h4⟩ := op_eval hΦ hi h hd hE.len
                refine one δ outs k' ⟨⟨o, ho, hdst, hi.dst, hok, .inr ⟨hg, e, hst, h4⟩⟩, fun j b hj => nth_app (hE.fact j b hj)⟩ h2 h1 h3
              · cases h
            · simp only [Option.some.injEq] at h
              subst h
              simp [den] at hd
            · exact part _ h
            · rename_i hst; exact absurd hst (callOk_nilc hco)
            · rename_i hst; exact absurd hst (callOk_enter hco)
end
end Go.Proofs.Ytdjknicjnaiomaa.Sx

/- Regions that draw their order: any order gives the same. -/
namespace Go.Proofs.Ytdjknicjnaiomaa.Sx
open Go.RowKit

section
variable {X : Cx} {top : Func} {sig : Sig} {B : Base} {Φ : Nat → Cont} {ops : Array Oper}

def bump (q : SS × Δ) : Nat := q.1.nb + (match q.2.newb with | some _ => 1 | none => 0)

theorem after_nb (q : SS × Δ) : (q.1.after q.2).nb = bump q := by
  rw [after_eq]; simp only [newNb, bump]; cases q.2.newb <;> rfl

theorem abs_like {s t : SS} (h : like s t) : abs t = abs s := by obtain ⟨f, rfl⟩ := h; rfl

/-- what a chain says of its entries -/
theorem chain_spec : ∀ (E : List (SS × Δ)) (s s' : SS), chain E s s' → (∀ q ∈ E, (∀ d, q.2.dst = some d → d < q.1.n) ∧ okδ q.1 q.2 = true) →
    abs s' = E.foldl AS.step (abs s) ∧ s.nb ≤ s'.nb ∧ s.ntok ≤ s'.ntok ∧
    (∀ (i : Nat) (q : SS × Δ), E[i]? = some q → q.1.n = s.n ∧ abs q.1 = (E.take i).foldl AS.step (abs s) ∧ s.nb ≤ q.1.nb ∧ s.ntok ≤ q.1.ntok ∧ bump q ≤ s'.nb ∧ q.1.ntok + q.2.nt ≤ s'.ntok) ∧
    (∀ (i j : Nat) (q q' : SS × Δ), E[i]? = some q → E[j]? = some q' → i < j → bump q ≤ q'.1.nb ∧ q.1.ntok + q.2.nt ≤ q'.1.ntok) ∧
    (∀ k, k < s.ntok → k ∉ s.live → ∀ q ∈ E, k ∉ q.1.live) ∧
    (∀ (i j k : Nat) (q q' : SS × Δ), E[i]? = some q → E[j]? = some q' → i < j → q.2.kill = some k → k ∉ q'.1.live)
  | [], s, s', h, _ => by
    obtain ⟨f, rfl⟩ := h
    exact ⟨rfl, Nat.le_refl _, Nat.le_refl _, fun i q h => by simp at h, fun i j q q' h => by simp at h, fun k _ _ q h => by simp at h, fun i j k q q' h => by simp at h⟩
  | q :: E, s, s', h, hok => by
    obtain ⟨h1, h2⟩ := h
    obtain ⟨k1, k2⟩ := hok q (by simp)
    obtain ⟨e1, e2, e3, e4, e5, e6, e7⟩ := chain_spec E _ _ h2 (fun q' hq => hok q' (by simp [hq]))
    have ha : abs (q.1.after q.2) = (abs s).step q := by rw [abs_after _ _ k1 k2, abs_like h1]; rfl
    have hnb : q.1.nb = s.nb := by obtain ⟨f, h⟩ := h1; rw [h]
    have hnt : q.1.ntok = s.ntok := by obtain ⟨f, h⟩ := h1; rw [h]
    have hn : q.1.n = s.n := by obtain ⟨f, h⟩ := h1; rw [h]
    have hlv : q.1.live = s.live := by obtain ⟨f, h⟩ := h1; rw [h]
    have hb := after_nb q
    have ht : (q.1.after q.2).ntok = q.1.ntok + q.2.nt := by rw [after_eq]
    have hnn : (q.1.after q.2).n = q.1.n := by rw [after_eq]
    have hbb : q.1.nb ≤ bump q := by unfold bump; omega
    rw [hb] at e2; rw [ht] at e3
    refine ⟨by rw [e1, ha]; rfl, by omega, by omega, fun i q' hi => ?_, fun i j p p' hi hj hlt => ?_, fun k hk hkl p hp => ?_, fun i j k p p' hi hj hlt hkl => ?_⟩
    · cases i with
      | zero =>
        simp only [List.getElem?_cons_zero, Option.some.injEq] at hi
        subst hi
        exact ⟨hn, by rw [abs_like h1]; rfl, by omega, by omega, e2, e3⟩
      | succ i =>
        obtain ⟨f1, f2, f3, f4, f5, f6⟩ := e4 i q' (by simpa using hi)
        rw [hb] at f3; rw [ht] at f4
        refine ⟨by rw [f1, hnn, hn], by rw [f2, ha]; rfl, by omega, by omega, f5, f6⟩
    · cases j with
      | zero => omega
      | succ j =>
        cases i with
        | zero =>
          simp only [List.getElem?_cons_zero, Option.some.injEq] at hi
          subst hi
          obtain ⟨f1, f2, f3, f4, f5, f6⟩ := e4 j p' (by simpa using hj)
          rw [hb] at f3; rw [ht] at f4
          exact ⟨f3, f4⟩
        | succ i => exact e5 i j p p' (by simpa using hi) (by simpa using hj) (by omega)
    · rcases List.mem_cons.1 hp with rfl | hp
      · rw [hlv]; exact hkl
      · refine e6 k (by rw [ht]; omega) ?_ p hp
        rw [after_eq]
        simp only [newLive, List.mem_append, toks_mem, not_or]
        refine ⟨by omega, ?_⟩
        cases q.2.kill with
        | none => rw [hlv]; exact hkl
        | some j => simp only [List.mem_filter, not_and]; intro hm; rw [hlv] at hm; exact absurd hm hkl
    · cases j with
      | zero => omega
      | succ j =>
        cases i with
        | zero =>
          simp only [List.getElem?_cons_zero, Option.some.injEq] at hi
          subst hi
          have hkn : k < q.1.ntok := by
            simp only [okδ, hkl, Bool.and_eq_true, blt_eq, decide_eq_true_eq] at k2
            exact k2.2
          refine e6 k (by rw [ht]; omega) ?_ p' (List.mem_of_getElem? (by simpa using hj))
          rw [after_eq]
          simp only [newLive, List.mem_append, toks_mem, not_or, hkl, List.mem_filter, not_and]
          exact ⟨by omega, fun _ => by simp⟩
        | succ i => exact e7 i j k p p' (by simpa using hi) (by simpa using hj) (by omega) hkl

theorem mask_take {S : Nat → Prop} : ∀ (E : List (SS × Δ)) (k i : Nat) (α : AS), (∀ j, S j ↔ j < k + i) → mask E S k α = (E.take i).foldl AS.step α
  | [], k, i, α, _ => by simp [mask]
  | q :: E, k, 0, α, h => by
    rw [mask_none]
    · rfl
    · intro j _ hs; have := (h _).1 hs; omega
  | q :: E, k, i + 1, α, h => by
    have h1 : mask (q :: E) S k α = mask E S (k + 1) (α.step q) := by rw [mask]; exact congrArg _ (if_pos ((h k).2 (by omega)))
    rw [h1, mask_take E (k + 1) i _ (fun j => by rw [h j]; omega)]
    rfl
end
end Go.Proofs.Ytdjknicjnaiomaa.Sx

/- Which memory an effect needs. -/
namespace Go.Proofs.Ytdjknicjnaiomaa.Sx
open Go.RowKit

section
variable {X : Cx} {st : SS} {o : Oper} {e : Option (Pr × List A × List Ty)} {δ : Δ}

def Plain (δ : Δ) : Prop := δ.kill = none ∧ δ.setb = none

theorem Plain.eOne {sv : SV} (h : eOne o sv = some (.go e δ)) : Plain δ := by
  obtain ⟨rfl, rfl⟩ := eOne_go h; exact ⟨rfl, rfl⟩

theorem Plain.bind {s : Option SV} (h : (s.bind fun sv => Sx.eOne o sv) = some (.go e δ)) : Plain δ := by
  simp only [Option.bind_eq_some_iff] at h
  obtain ⟨sv, _, h⟩ := h
  exact .eOne h

theorem Plain.ePr {q : Pr} {xs : List A} {t : Ty} (h : ePr st o q xs t = some (.go e δ)) : Plain δ := by
  obtain ⟨rfl, rfl⟩ := ePr_go h; exact ⟨rfl, rfl⟩

theorem Plain.go {e0 : Option (Pr × List A × List Ty)} {δ0 : Δ} (h : (some (Eff.go e0 δ0) : Option Eff) = some (.go e δ)) (hk : δ0.kill = none) (hb : δ0.setb = none) : Plain δ := by
  simp only [Option.some.injEq, Eff.go.injEq] at h
  obtain ⟨rfl, rfl⟩ := h
  exact ⟨hk, hb⟩

theorem appTok_own {te : Ty} {el : TypeId} {c : SC} {k : Nat} (h : appTok st te el c = some (some k)) : ∃ i t e, c = .own i k t e := by
  unfold appTok at h
  split at h
  · split at h
    · simp only [Option.some.injEq] at h; subst h; exact ⟨_, _, _, rfl⟩
    · cases h
  · split at h <;> simp at h
  · cases h

/-- a cell that is a token's -/
def SC.isTok (c : SC) (k : Nat) : Prop := (∃ i t e, c = .own i k t e) ∨ ∃ ps e, c = .lst k ps e

theorem lstOf_own {el : TypeId} {c : SC} {ps : List (Nat × Nat)} {k : Nat} (h : lstOf st el c = some (ps, some k)) : c.isTok k := by
  unfold lstOf at h
  split at h
  · simp at h
  · split at h
    · simp only [Option.some.injEq, Prod.mk.injEq] at h; obtain ⟨_, rfl⟩ := h; exact .inr ⟨_, _, rfl⟩
    · cases h
  · cases h

theorem doAppend_mem {t0 t1 : TypeId} {x y : Operand} (hs : doAppend X.P st o t0 t1 x y = some (.go e δ)) :
    δ.setb = none ∧ ∀ k, δ.kill = some k → ∃ c, (st.ev X.P (some t0) x).bind SV.c1 = some c ∧ c.isTok k := by
  unfold doAppend at hs
  split at hs
  · split at hs
    · rename_i cx ay ty hcx hay
      split at hs
      · split at hs
        · rename_i kl ax tx htok harg
          have fin : ∀ k, kl = some k → ∃ c, (st.ev X.P (some t0) x).bind SV.c1 = some c ∧ c.isTok k := by
            rintro k rfl
            obtain ⟨i, t, e', rfl⟩ := appTok_own htok
            exact ⟨_, hcx, .inl ⟨i, t, e', rfl⟩⟩
          simp only at hs
          split at hs
          · split at hs
            · simp only [Option.some.injEq, Eff.go.injEq] at hs
              obtain ⟨rfl, rfl⟩ := hs
              exact ⟨rfl, fin⟩
            · cases hs
          · split at hs
            · simp only [Option.some.injEq, Eff.go.injEq] at hs
              obtain ⟨rfl, rfl⟩ := hs
              exact ⟨rfl, fin⟩
            · cases hs
          · cases hs
        · cases hs
      · cases hs
    · cases hs
  · simp only [doAppendP] at hs
    split at hs
    · rename_i cx k2 qs e2 e1 hcx hcy hu1
      split at hs
      · rename_i ps kl htok
        split at hs
        · simp only [fL_eq, Option.some.injEq, Eff.go.injEq] at hs
          obtain ⟨rfl, rfl⟩ := hs
          refine ⟨rfl, fun k hk => ?_⟩
          simp only at hk
          subst hk
          exact ⟨_, hcx, lstOf_own htok⟩
        · cases hs
      · cases hs
    · cases hs
  · cases hs

theorem step_mem (hs : stepOp X st o = some (.go e δ)) :
    (∀ k, δ.kill = some k → ∃ h x c, x ∈ o.op.operands ∧ (st.ev X.P h x).bind SV.c1 = some c ∧ c.isTok k) ∧
    (∀ β r, δ.setb = some (β, r) → stores o = true ∧ ∃ x off, x ∈ o.op.operands ∧ st.ev X.P none x = some (.one (.adr β off))) := by
  have plain : Plain δ → ((∀ k, δ.kill = some k → ∃ h x c, x ∈ o.op.operands ∧ (st.ev X.P h x).bind SV.c1 = some c ∧ c.isTok k) ∧
    (∀ β r, δ.setb = some (β, r) → stores o = true ∧ ∃ x off, x ∈ o.op.operands ∧ st.ev X.P none x = some (.one (.adr β off)))) := fun ⟨h1, h2⟩ => ⟨fun k hk => absurd (h1.symm.trans hk) (by simp), fun β r hr => absurd (h2.symm.trans hr) (by simp)⟩
  simp only [stepOp] at hs
  split at hs
  case h_9 t x y ho =>
    simp only [opStore, fL_eq] at hs
    split at hs
    · rename_i β off hev
      split at hs
      · split at hs
        · simp only [Option.some.injEq, Eff.go.injEq] at hs
          obtain ⟨rfl, rfl⟩ := hs
          refine ⟨fun k hk => by simp at hk, fun β' r hr => ?_⟩
          simp only [Option.some.injEq, Prod.mk.injEq] at hr
          obtain ⟨rfl, _⟩ := hr
          refine ⟨?_, x, off, by rw [ho]; simp [Op.operands], hev⟩
          obtain ⟨d, op, ty, pos, af, gu⟩ := o
          simp only at ho; subst ho; rfl
        · cases hs
      · cases hs
    · cases hs
  case h_23 c ho =>
    obtain ⟨callee, xs, ts⟩ := c
    split at hs
    · rename_i b hc
      simp only at hc; subst hc
      simp only [doBuiltin] at hs
      split at hs
      · exact plain (by (repeat' (first | (cases hs; done) | exact Plain.eOne hs | exact Plain.bind hs | exact Plain.ePr hs | exact Plain.go hs rfl rfl | (simp at hs; done) | (simp only [Option.bind_eq_some_iff] at hs; obtain ⟨_, _, h'⟩ := hs; exact Plain.eOne h') | (simp only [Option.bind_eq_some_iff] at hs; obtain ⟨_, _, h'⟩ := hs; exact Plain.go h' rfl rfl) | split at hs)))
      · rename_i x y t0 t1 hxs hts
        obtain ⟨h1, h2⟩ := doAppend_mem hs
        refine ⟨fun k hk => ?_, fun β r hr => by rw [h1] at hr; cases hr⟩
        obtain ⟨c, h3, h4⟩ := h2 k hk
        refine ⟨_, x, c, ?_, h3, h4⟩
        have hm : x ∈ xs.toList := by rw [hxs]; simp
        rw [ho]; simp [Op.operands, Call.operands, Array.mem_toList_iff.1 hm]
      · exact plain (by (repeat' (first | (cases hs; done) | exact Plain.eOne hs | exact Plain.bind hs | exact Plain.ePr hs | exact Plain.go hs rfl rfl | (simp at hs; done) | (simp only [Option.bind_eq_some_iff] at hs; obtain ⟨_, _, h'⟩ := hs; exact Plain.eOne h') | (simp only [Option.bind_eq_some_iff] at hs; obtain ⟨_, _, h'⟩ := hs; exact Plain.go h' rfl rfl) | split at hs)))
      · exact plain (by (repeat' (first | (cases hs; done) | exact Plain.eOne hs | exact Plain.bind hs | exact Plain.ePr hs | exact Plain.go hs rfl rfl | (simp at hs; done) | (simp only [Option.bind_eq_some_iff] at hs; obtain ⟨_, _, h'⟩ := hs; exact Plain.eOne h') | (simp only [Option.bind_eq_some_iff] at hs; obtain ⟨_, _, h'⟩ := hs; exact Plain.go h' rfl rfl) | split at hs)))
      · cases hs
    · simp only [opCallV, doCall] at hs; exact plain (by (repeat' (first | (cases hs; done) | exact Plain.eOne hs | exact Plain.bind hs | exact Plain.ePr hs | exact Plain.go hs rfl rfl | (simp at hs; done) | (simp only [Option.bind_eq_some_iff] at hs; obtain ⟨_, _, h'⟩ := hs; exact Plain.eOne h') | (simp only [Option.bind_eq_some_iff] at hs; obtain ⟨_, _, h'⟩ := hs; exact Plain.go h' rfl rfl) | split at hs)))
    · cases hs
  all_goals exact plain (by first
    | ((repeat' (first | (cases hs; done) | exact Plain.eOne hs | exact Plain.bind hs | exact Plain.ePr hs | exact Plain.go hs rfl rfl | (simp at hs; done) | (simp only [Option.bind_eq_some_iff] at hs; obtain ⟨_, _, h'⟩ := hs; exact Plain.eOne h') | (simp only [Option.bind_eq_some_iff] at hs; obtain ⟨_, _, h'⟩ := hs; exact Plain.go h' rfl rfl) | split at hs)); done)
    | (simp only [opPick, opLoad, opConvert, opSlice, opIndexAddr, opBuildSlice, doBin, doBinC, fL_eq] at hs; (repeat' (first | (cases hs; done) | exact Plain.eOne hs | exact Plain.bind hs | exact Plain.ePr hs | exact Plain.go hs rfl rfl | (simp at hs; done) | (simp only [Option.bind_eq_some_iff] at hs; obtain ⟨_, _, h'⟩ := hs; exact Plain.eOne h') | (simp only [Option.bind_eq_some_iff] at hs; obtain ⟨_, _, h'⟩ := hs; exact Plain.go h' rfl rfl) | split at hs))))
end
end Go.Proofs.Ytdjknicjnaiomaa.Sx

/- Regions that draw their order: any order gives the same. -/
namespace Go.Proofs.Ytdjknicjnaiomaa.Sx
open Go.RowKit

section
variable {X : Cx} {top : Func} {sig : Sig} {B : Base} {Φ : Nat → Cont} {ops : Array Oper}

/-- where a region stands: what is listed, and what that says -/
structure DInv (ops : Array Oper) (E : List (SS × Δ)) (ρ : List D) (α0 : AS) (B : Base) (bs : List Act) (S : Nat → Prop) (a : Act) (w : World) : Prop where
  rel : ∃ g, RelG B ρ (mask E S 0 α0) a bs w g
  cl : ∀ (i j : Nat) (o : Oper), S i → ops[i]? = some o → j ∈ edgesOn o → S j
  lt : ∀ i, S i → i < ops.size
  box : ∀ (j i : Nat) (q q' : SS × Δ) (β : Nat) (r : List SC), S j → E[j]? = some q → q.2.setb = some (β, r) → ¬ S i → E[i]? = some q' → q'.2.newb.isSome = true → β ≠ q'.1.nb
  kil : ∀ (j i k : Nat) (q q' : SS × Δ), S j → E[j]? = some q → q.2.kill = some k → ¬ S i → E[i]? = some q' → ¬ isNew q' k

theorem dinv_step (hΦ : ΦOk X Φ) {an : Nat → List Nat} (hst : Stat X ops an) {E : List (SS × Δ)} {st st' : SS} {ρ : List D} (hch : chain E st st') (hlen : E.length = ops.size)
    (hE : ∀ (i : Nat) (q : SS × Δ), E[i]? = some q → OkE X ops Φ ρ i q) {S : Nat → Prop} {bs : List Act} {a : Act} {w : World} (hd : DInv ops E ρ (abs st) B bs S a w)
    {i : Nat} {o : Oper} (ho : ops[i]? = some o) (hn : ¬ S i) (hr : ∀ j ∈ edgesOn o, S j) {Q : Exit → Act → World → Prop} {K : Act → World → Prop}
    (hK : ∀ a' w', DInv ops E ρ (abs st) B bs (fun j => S j ∨ j = i) a' w' → K a' w') : wpOp X.P ops Q i K a w := by
  obtain ⟨g, hrel⟩ := hd.rel
  have hi : i < E.length := by rw [hlen]; exact (Array.getElem?_eq_some_iff.1 ho).1
  obtain ⟨q, hq⟩ : ∃ q, E[i]? = some q := ⟨_, List.getElem?_eq_getElem hi⟩
  have hok : ∀ q ∈ E, (∀ d, q.2.dst = some d → d < q.1.n) ∧ okδ q.1 q.2 = true := by
    intro q hq
    obtain ⟨j, hj⟩ := List.getElem?_of_mem hq
    obtain ⟨⟨o', h1, h2, h3, h4, _⟩, _⟩ := hE j q hj
    exact ⟨by rw [h3]; exact h2, h4⟩
  obtain ⟨c1, c2, c3, c4, c5, c6, c7⟩ := chain_spec E st st' hch hok
  obtain ⟨⟨o', ho', hdst, hqd, hqo, hcase⟩, hfact⟩ := hE i q hq
  rw [ho] at ho'
  cases ho'
  obtain ⟨qn, qa, qb, qt, _, _⟩ := c4 i q hq
  have hanc := anc_closed hst hd.cl hd.lt i o ho hr
  -- the entry's state is the effect of those ahead
  have habs : abs q.1 = mask E (fun j => j < i) 0 (abs st) := by rw [qa]; exact (mask_take E 0 i (abs st) (fun j => by simp)).symm
  have hdstE : ∀ (j : Nat) (q' : SS × Δ) (oj : Oper), E[j]? = some q' → ops[j]? = some oj → q'.2.dst = oj.dst := by
    intro j q' oj h1 h2
    obtain ⟨⟨o', k1, _, k3, _⟩, _⟩ := hE j q' h1
    rw [h2] at k1; cases k1; exact k3
  have hop : ∀ (j : Nat) (q' : SS × Δ), E[j]? = some q' → ∃ oj, ops[j]? = some oj := fun j q' h1 => by
    obtain ⟨⟨o', k1, _⟩, _⟩ := hE j q' h1; exact ⟨o', k1⟩
  -- slots that the operation looks at
  have hslot : ∀ (t : Tmp) (sv : SV), t ∈ o.looksAt ops → q.1.slot t = some sv → (mask E S 0 (abs st)).slot t = sv := by
    intro t sv ht hs
    rw [← (slot_abs hs).2, habs]
    refine mask_slot E 0 _ _ rfl fun j q' hj hjd => ?_
    rw [Nat.zero_add]
    obtain ⟨oj, hoj⟩ := hop j q' hj
    rw [hdstE j q' oj hj hoj] at hjd
    rcases hst.reads i j o oj t ho hoj hjd ht with h | h
    · have := hanc j h
      exact ⟨fun _ => this.2, fun _ => this.1⟩
    · have hij := (anc_closed hst (S := fun k => k < ops.size) (fun a b o' _ h1 h2 => by
        have := hst.back a b o' h1 h2
        have := (Array.getElem?_eq_some_iff.1 h1).1
        omega) (fun _ h => h) j oj hoj (fun b hb => by
        have := hst.back j b oj hoj hb
        have := (Array.getElem?_eq_some_iff.1 hoj).1
        omega) i h).2
      refine ⟨fun hs => absurd ?_ hn, fun hlt => by omega⟩
      exact (anc_closed hst hd.cl hd.lt j oj hoj (fun k hk => hd.cl j k oj hs hoj hk) i h).1
  -- freshness
  have hfb : ∀ (j : Nat) (q' : SS × Δ), ¬ S j → E[j]? = some q' → q'.2.newb.isSome = true → (mask E S 0 (abs st)).box q'.1.nb = none := by
    intro j q' hj hq' hnew
    have h0 : (abs st).box q'.1.nb = none := by simp only [abs]; rw [if_neg]; have := (c4 j q' hq').2.2.1; omega
    rw [← h0]
    refine Eq.trans (mask_box (S' := fun _ => False) E 0 _ _ rfl fun k p hk hp => ?_) (by rw [mask_none]; intro _ _ h; exact h)
    rw [Nat.zero_add]
    refine ⟨fun hs => ?_, False.elim⟩
    rcases hp with ⟨r, hp⟩ | ⟨hp1, hp2⟩
    · exact hd.box k j p q' _ r hs hk hp hj hq' hnew rfl
    · rcases Nat.lt_trichotomy k j with hlt | heq | hgt
      · have := (c5 k j p q' hk hq' hlt).1
        obtain ⟨r, hr⟩ := Option.isSome_iff_exists.1 hp1
        simp only [bump, hr] at this; omega
      · subst heq; exact hj hs
      · have := (c5 j k q' p hq' hk hgt).1
        obtain ⟨r, hr⟩ := Option.isSome_iff_exists.1 hnew
        simp only [bump, hr] at this; omega
  have hft : ∀ (j : Nat) (q' : SS × Δ) (k : Nat), ¬ S j → E[j]? = some q' → isNew q' k → ¬ (mask E S 0 (abs st)).known k := by
    intro j q' k hj hq' hnew hkn
    rw [mask_known] at hkn
    rcases hkn with h | ⟨m, p, h1, h2, h3⟩
    · simp only [abs] at h
      have := (c4 j q' hq').2.2.2.1
      unfold isNew at hnew; omega
    · rw [Nat.zero_add] at h2
      unfold isNew at hnew h3
      rcases Nat.lt_trichotomy m j with hlt | heq | hgt
      · have := (c5 m j p q' h1 hq' hlt).2; omega
      · subst heq; exact hj h2
      · have := (c5 j m q' p hq' h1 hgt).2; omega
  have hset : ∀ (j : Nat) (q' : SS × Δ) (oj : Oper) (β : Nat) (r : List SC), E[j]? = some q' → ops[j]? = some oj → q'.2.setb = some (β, r) → stores oj = true := by
    intro j q' oj β r h1 h2 h3
    obtain ⟨⟨o', k1, _, _, _, k5⟩, _⟩ := hE j q' h1
    rw [h2] at k1; cases k1
    rcases k5 with ⟨_, k6⟩ | ⟨_, e, k6, _⟩
    · rw [k6] at h3; cases h3
    · exact ((step_mem k6).2 β r h3).1
  have htouch : ∀ o : Oper, stores o = true → touches o = true := by
    intro o h
    unfold stores at h
    split at h
    · rfl
    · cases h
  have hlater : ∀ (j : Nat) (oj : Oper), ops[j]? = some oj → S j → i ∉ an j := by
    intro j oj h1 h2 h3
    exact hn (anc_closed hst hd.cl hd.lt j oj h1 (fun k hk => hd.cl j k oj h2 h1 hk) i h3).1
  have hcomm : ∀ (j : Nat) (q' : SS × Δ), E[j]? = some q' → i < j → S j → Comm q q' := by
    intro j q' hj hlt hs
    obtain ⟨oj, hoj⟩ := hop j q' hj
    have h5 := c5 i j q q' hq hj hlt
    simp only [okδ, Bool.and_eq_true] at hqo
    refine ⟨fun d h1 h2 => ?_, fun β r β' r' h1 h2 he => ?_, fun h1 h2 => ?_, fun β r h1 h2 => ?_, fun β r h1 h2 => hd.box j i q' q β r hs hj h1 hn hq h2, fun k h1 h2 => ?_, fun k h1 => hd.kil j i k q' q hs hj h1 hn hq⟩
    · rw [hqd] at h1; rw [hdstE j q' oj hj hoj] at h2
      exact hst.dst i j o oj d ho hoj (by omega) h1 h2
    · rcases hst.mem i j o oj ho hoj (by omega) (hset i q o β r hq ho h1) (htouch _ (hset j q' oj β' r' hj hoj h2)) with h | h
      · have := (hanc j h).2; omega
      · exact hlater j oj hoj hs h
    · obtain ⟨r, hr'⟩ := Option.isSome_iff_exists.1 h1
      have := h5.1
      simp only [bump, hr'] at this; omega
    · have h6 := hqo.1
      rw [h1] at h6
      simp only [blt_eq, decide_eq_true_eq] at h6
      have := h5.1
      unfold bump at this; omega
    · have h6 := hqo.2
      rw [h1] at h6
      simp only [blt_eq, decide_eq_true_eq] at h6
      have := h5.2
      unfold isNew at h2; omega
  have hins : mask E (fun j => S j ∨ j = i) 0 (abs st) = (mask E S 0 (abs st)).step q :=
    mask_insert E 0 _ (Nat.zero_le _) (by simpa using hq) hn fun j q' hj hl hs => hcomm j q' hj (by omega) (by simpa using hs)
  have hp : Pre X.P B ρ q.1 o (mask E S 0 (abs st)) a bs w g :=
    ⟨hrel, fun d hd' => by rw [mask_n]; show d < st.n; rw [← qn]; exact hdst d hd', fun t sv hm hs => hslot t sv (List.mem_append_left _ (List.mem_filterMap.2 ⟨.tmp t, by simpa using hm, rfl⟩)) hs⟩
  have hnext : (∀ β r, q.2.setb = some (β, r) → ∃ row, (mask E S 0 (abs st)).box β = some row) → (∀ k, q.2.kill = some k → (mask E S 0 (abs st)).known k) →
      ∀ a' w', (∃ g', RelG B ρ ((mask E S 0 (abs st)).step q) a' bs w' g') → K a' w' := by
    intro hb hk a' w' h
    refine hK a' w' ⟨by rw [hins]; exact h, ?_, ?_, ?_, ?_⟩
    · rintro j k oj (hs | rfl) h1 h2
      · exact .inl (hd.cl j k oj hs h1 h2)
      · rw [ho] at h1; cases h1; exact .inl (hr k h2)
    · rintro j (hs | rfl)
      · exact hd.lt j hs
      · omega
    · intro j i' p q' β r hs h1 h2 h3 h4 h5
      rcases hs with hs | rfl
      · exact hd.box j i' p q' β r hs h1 h2 (fun h => h3 (.inl h)) h4 h5
      · rw [hq] at h1; cases h1
        obtain ⟨row, hrow⟩ := hb β r h2
        have := hfb i' q' (fun h => h3 (.inl h)) h4 h5
        rintro rfl
        rw [this] at hrow; cases hrow
    · intro j i' k p q' hs h1 h2 h3 h4
      rcases hs with hs | rfl
      · exact hd.kil j i' k p q' hs h1 h2 (fun h => h3 (.inl h)) h4
      · rw [hq] at h1; cases h1
        intro h5
        exact hft i' q' k (fun h => h3 (.inl h)) h4 h5 (hk k h2)
  obtain ⟨gy, gn⟩ := guard_spec (st := q.1) (o := o) (ops := ops) hrel (fun j want hg t sv ht hs => hslot t sv (List.mem_append_right _ (by rw [hg]; simp only; rw [ht]; simp)) hs) hfact
  unfold wpOp
  simp only [ho]
  rcases hcase with ⟨hg, hδ⟩ | ⟨hg, e, hstp, henv⟩
  · rw [gn hg, if_neg (by simp)]
    refine hnext (fun β r h => by rw [hδ] at h; cases h) (fun k h => by rw [hδ] at h; cases h) _ _ ⟨g, ?_⟩
    show RelG B ρ ((mask E S 0 (abs st)).upd q.2 q.1.nb q.1.ntok) _ bs w g
    rw [hδ]
    exact upd_put _ _ _ 0 _ _ (hrel.put hp.dst rfl)
  · rw [gy hg, if_pos rfl]
    obtain ⟨m1, m2⟩ := step_mem hstp
    have hb : ∀ β r, q.2.setb = some (β, r) → ∃ row, (mask E S 0 (abs st)).box β = some row := by
      intro β r h
      obtain ⟨_, x, off, hx, hev⟩ := m2 β r h
      have hr : SCRep ρ (mask E S 0 (abs st)) g w (.adr β off) (a.eval x) := hp.ev hx hev
      exact hr.1
    have hk : ∀ k, q.2.kill = some k → (mask E S 0 (abs st)).known k := by
      intro k h
      obtain ⟨ty, x, c, hx, hc, htk⟩ := m1 k h
      have hcr := hp.c1 hx hc
      rcases htk with ⟨i0, t, e', rfl⟩ | ⟨ps, e', rfl⟩
      · obtain ⟨_, _, _, h3, _⟩ := hcr
        exact h3
      · exact hcr.1
    have hi' := step_info hstp
    have hqo' := hqo
    simp only [okδ, Bool.and_eq_true] at hqo'
    have hstep : StepOk X ρ q.1 o (mask E S 0 (abs st)) q.2 Φ e := by
      refine ⟨fun β row htch ⟨row', hrow'⟩ hl => ?_, fun k hkl => ?_, fun h => hfb i q hn hq h, fun k h1 h2 h3 => hft i q k hn hq ⟨h1, h2⟩ h3, hfact, henv⟩
      · rw [← hl, boxAt_abs, habs]
        have hβ : β < q.1.nb := by
          rw [boxAt_abs] at hl
          simp only [abs] at hl
          split at hl
          · assumption
          · cases hl
        have hto : touches o = true := by
          obtain ⟨d, op, ty, pos, af, gu⟩ := o
          rcases htch with ⟨t, x, h⟩ | ⟨t, x, y, h⟩ <;> (simp only at h; subst h; rfl)
        refine mask_box E 0 _ _ rfl fun j q' hj hpj => ?_
        rw [Nat.zero_add]
        obtain ⟨oj, hoj⟩ := hop j q' hj
        rcases hpj with ⟨r, hpj⟩ | ⟨hp1, hp2⟩
        · by_cases e0 : j = i
          · subst e0; exact ⟨fun h => absurd h hn, fun h => absurd h (Nat.lt_irrefl _)⟩
          · rcases hst.mem j i oj o hoj ho e0 (hset j q' oj β r hj hoj hpj) hto with h | h
            · refine ⟨fun hs => absurd h (hlater j oj hoj hs), fun hlt => ?_⟩
              have : i < j := by
                have hb := anc_closed (S := fun k => k < ops.size) hst (fun a b o h1 h2 h3 => by have := hst.back a b o h2 h3; omega) (fun _ h => h) j oj hoj
                  (fun k hk => by have := hst.back j k oj hoj hk; have := (Array.getElem?_eq_some_iff.1 hoj).1; omega) i h
                exact hb.2
              omega
            · have := hanc j h
              exact ⟨fun _ => this.2, fun _ => this.1⟩
        · constructor
          · intro hs
            rcases Nat.lt_trichotomy j i with hlt | heq | hgt
            · exact hlt
            · subst heq; exact absurd hs hn
            · have := (c5 i j q q' hq hj hgt).1
              unfold bump at this; omega
          · intro hlt
            apply Classical.byContradiction
            intro hs
            have := hfb j q' hs hj hp1
            rw [hp2, hrow'] at this
            cases this
      · have hkin := hi'.kill k hkl
        have hkn := hk k hkl
        have hknt : k < q.1.ntok := by
          have := hqo'.2
          rw [hkl] at this
          simpa [blt_eq] using this
        have h0 : (abs q.1).live k := hkin
        rw [habs] at h0
        refine (mask_live E 0 _ _ Iff.rfl fun j q' hj hpj => ?_).2 h0
        rw [Nat.zero_add]
        rcases hpj with hpj | hpj
        · constructor
          · intro hs
            rcases Nat.lt_trichotomy j i with hlt | heq | hgt
            · exact hlt
            · subst heq; exact absurd hs hn
            · obtain ⟨⟨oj, k1, _, _, _, k5⟩, _⟩ := hE j q' hj
              rcases k5 with ⟨_, k6⟩ | ⟨_, e', k6, _⟩
              · rw [k6] at hpj; cases hpj
              · exact absurd ((step_info k6).kill k hpj) (c7 i j k q q' hq hj hgt hkl)
          · intro hlt
            exact absurd hkin (c7 j i k q' q hj hq hlt hpj)
        · constructor
          · intro hs
            rcases Nat.lt_trichotomy j i with hlt | heq | hgt
            · exact hlt
            · subst heq; exact absurd hs hn
            · have := (c5 i j q q' hq hj hgt).2
              unfold isNew at hpj; omega
          · intro hlt
            apply Classical.byContradiction
            intro hs
            exact hft j q' k hs hj hpj hkn
    refine .inl (step_does (Φ := Φ) hp hΦ hstep hstp _ _ ?_)
    rintro a' w' ⟨g', hg'⟩
    exact hnext hb hk a' w' ⟨g', hg'⟩
end
end Go.Proofs.Ytdjknicjnaiomaa.Sx

/- Regions that draw their order: the whole. -/
namespace Go.Proofs.Ytdjknicjnaiomaa.Sx
open Go.RowKit

section
variable {X : Cx} {top : Func} {sig : Sig} {B : Base} {Φ : Nat → Cont} {ops : Array Oper}

def open' (ops : Array Oper) (listed : Array Bool) : List Nat := (List.range ops.size).filter fun i => !listed.getD i true

theorem ready_first {an : Nat → List Nat} (hst : Stat X ops an) {listed : Array Bool} (hl : listed.size = ops.size) (h : Region.ready .any ops listed = []) : ∀ i, i < ops.size → listed.getD i true = true := by
  intro i
  induction i using Nat.strongRecOn with
  | ind i ih =>
    intro hi
    apply Classical.byContradiction
    intro hn
    have : i ∈ Region.ready .any ops listed := by
      unfold Region.ready
      simp only [List.mem_filter, List.mem_range, Bool.and_eq_true, Bool.not_eq_true']
      refine ⟨hi, by simpa using hn, ?_⟩
      rw [Array.getElem?_eq_getElem hi]
      simp only [Option.map_some, Option.getD_some, Array.all_eq_true', Bool.or_eq_true, Bool.not_eq_true']
      intro e he
      by_cases hb : Region.binds .any e = true
      · right
        have hj : e.on ∈ edgesOn ops[i] := by
          unfold edgesOn
          simp only [List.mem_map, List.mem_filter]
          exact ⟨e, ⟨by simpa using he, hb⟩, rfl⟩
        have hlt := hst.back i e.on ops[i] (Array.getElem?_eq_getElem hi) hj
        have := ih e.on hlt (by omega)
        simp only [Array.getD_eq_getD_getElem?] at this ⊢
        rw [Array.getElem?_eq_getElem (by omega)] at this ⊢
        exact this
      · left; simpa using hb
    rw [h] at this
    simp at this

theorem getD_tf (l : Array Bool) (i : Nat) (h : i < l.size) : l.getD i true = l.getD i false := by
  simp [Array.getD_eq_getD_getElem?, Array.getElem?_eq_getElem h]

theorem DInv.congr {E : List (SS × Δ)} {ρ : List D} {α0 : AS} {bs : List Act} {S S' : Nat → Prop} {a : Act} {w : World} (h : DInv ops E ρ α0 B bs S a w) (hs : ∀ i, S i ↔ S' i) : DInv ops E ρ α0 B bs S' a w := by
  have : S = S' := funext fun i => propext (hs i)
  rw [← this]; exact h

theorem wpAny_inv (hΦ : ΦOk X Φ) {an : Nat → List Nat} (hst : Stat X ops an) {E : List (SS × Δ)} {st st' : SS} {ρ : List D} (hch : chain E st st') (hlen : E.length = ops.size)
    (hE : ∀ (i : Nat) (q : SS × Δ), E[i]? = some q → OkE X ops Φ ρ i q) {bs : List Act} {Q : Exit → Act → World → Prop}
    (hfin : ∀ a w, DInv ops E ρ (abs st) B bs (fun i => i < ops.size) a w → Q .normal a w) :
    ∀ (fuel : Nat) (listed : Array Bool) (a : Act) (w : World), listed.size = ops.size → (open' ops listed).length ≤ fuel → DInv ops E ρ (abs st) B bs (fun i => listed.getD i false = true) a w → wpAny X.P .any ops Q fuel listed a w := by
  have done : ∀ (listed : Array Bool) (a : Act) (w : World), listed.size = ops.size → (∀ i, i < ops.size → listed.getD i true = true) → DInv ops E ρ (abs st) B bs (fun i => listed.getD i false = true) a w → Q .normal a w := by
    intro listed a w hl hall hd
    refine hfin a w (hd.congr fun i => ⟨hd.lt i, fun hi => ?_⟩)
    rw [← getD_tf _ _ (by omega)]; exact hall i hi
  intro fuel
  induction fuel with
  | zero =>
    intro listed a w hl ho hd
    have hnil : open' ops listed = [] := List.length_eq_zero_iff.1 (by omega)
    have hall : ∀ i, i < ops.size → listed.getD i true = true := by
      intro i hi
      apply Classical.byContradiction
      intro hn
      have : i ∈ open' ops listed := List.mem_filter.2 ⟨List.mem_range.2 hi, by simpa using hn⟩
      rw [hnil] at this; simp at this
    refine ⟨?_, done listed a w hl hall hd⟩
    rw [List.eq_nil_iff_forall_not_mem]
    intro i hi
    unfold Region.ready at hi
    simp only [List.mem_filter, List.mem_range, Bool.and_eq_true, Bool.not_eq_true'] at hi
    rw [hall i hi.1] at hi
    simp at hi
  | succ fuel ih =>
    intro listed a w hl ho hd
    refine ⟨fun hr => done listed a w hl (ready_first hst hl hr) hd, fun i hi => ?_⟩
    unfold Region.ready at hi
    simp only [List.mem_filter, List.mem_range, Bool.and_eq_true, Bool.not_eq_true'] at hi
    obtain ⟨hlt, hn, hdep⟩ := hi
    have hoi := Array.getElem?_eq_getElem hlt
    refine dinv_step hΦ hst hch hlen hE hd hoi (by rw [← getD_tf _ _ (by omega), hn]; simp) (fun j hj => ?_) fun a' w' hd' => ih _ a' w' (by simp [hl]) ?_ (hd'.congr fun j => ?_)
    · rw [hoi] at hdep
      simp only [Option.map_some, Option.getD_some, Array.all_eq_true', Bool.or_eq_true, Bool.not_eq_true'] at hdep
      unfold edgesOn at hj
      simp only [List.mem_map, List.mem_filter] at hj
      obtain ⟨e, ⟨he, hb⟩, rfl⟩ := hj
      rcases hdep e (by simpa using he) with h | h
      · rw [hb] at h; cases h
      · exact h
    · have hsub : (open' ops (listed.setIfInBounds i true)).length < (open' ops listed).length := by
        have he : open' ops (listed.setIfInBounds i true) = (open' ops listed).filter fun j => !(j == i) := by
          unfold open'
          rw [List.filter_filter]
          refine List.filter_congr fun j _ => ?_
          simp only [Array.getD_eq_getD_getElem?, Array.getElem?_setIfInBounds]
          by_cases e : i = j
          · subst e; simp [show i < listed.size by omega]
          · simp [e, Ne.symm e]
        rw [he, List.length_filter_lt_length_iff_exists]
        exact ⟨i, List.mem_filter.2 ⟨List.mem_range.2 hlt, by simp [hn]⟩, by simp⟩
      omega
    · simp only [Array.getD_eq_getD_getElem?, Array.getElem?_setIfInBounds]
      by_cases e : i = j
      · subst e; simp [show i < listed.size by omega]
      · simp [e, Ne.symm e]
end
end Go.Proofs.Ytdjknicjnaiomaa.Sx

/- The symbolic executor is sound: the induction. -/
namespace Go.Proofs.Ytdjknicjnaiomaa.Sx
open Go.RowKit

section
variable {X : Cx} {top : Func} {sig : Sig} {B : Base} {Φ : Nat → Cont} {rs0 : List D}

theorem RelG.drew {ρ : List D} {α : AS} {a : Act} {bs : List Act} {w : World} {g : G} (h : RelG B ρ α a bs w g) : RelG B ρ α a bs { w with drawn := w.drawn + 1 } g :=
  h.world (w' := { w with drawn := w.drawn + 1 }) ⟨fun _ _ h => h, fun β row h => ⟨⟨row, h⟩, rfl⟩, fun _ h => ⟨h, rfl, rfl, rfl⟩, fun b o h => ⟨h, rfl⟩⟩ rfl rfl rfl
    (fun β row hr => RelG.BoxOk_mono (w := w) (w' := { w with drawn := w.drawn + 1 }) ⟨fun _ _ h => h, fun β row h => ⟨⟨row, h⟩, rfl⟩, fun _ h => ⟨h, rfl, rfl, rfl⟩, fun b o h => ⟨h, rfl⟩⟩ (h.box β row hr) rfl rfl (h.box β row hr).np rfl)
    (fun k hk => h.live k hk |>.imp id fun t => ⟨t.own⟩) h.pwf ⟨h.bel.os, h.bel.tape, h.bel.output, h.bel.size, h.bel.block⟩ (fun _ _ _ => Iff.rfl)

theorem sound (hΦ : ΦOk X Φ) (hm : X.P.follows .mixedOrders = true) : ∀ n, Sound X top sig B Φ rs0 n := by
  intro n
  induction n using Nat.strongRecOn with
  | ind n ih =>
  cases n with
  | zero => intro lv t st K ir h; simp [go] at h
  | succ n =>
  have ihn := ih n (Nat.lt_succ_self n)
  intro lv t st K ir h R ρ kr kj r ns bs a w g hd hkr hK hE hR
  cases t with
  | code c =>
    cases c with
    | skip =>
      simp only [go] at h
      exact wp_skip (ihn _ _ _ _ _ h _ _ _ _ _ _ _ _ _ _ hd hkr hK hE hR)
    | seq x y =>
      simp only [go] at h
      exact wp_seq (ihn _ _ _ _ _ h _ _ _ _ _ _ _ _ _ _ hd hkr hK hE hR)
    | region id ops draw =>
      simp only [go, fL_eq] at h
      split at h
      · cases draw with
        | false => exact wp_region (ihn _ _ _ _ _ h _ _ _ _ _ _ _ _ _ _ hd hkr hK hE hR)
        | true =>
          rename_i hdr
          obtain ⟨an, hst⟩ := drawOk_spec (X := X) (ops := ops) (by simpa using hdr)
          obtain ⟨E, st', outs, n', ir', k1, k2, k3, k4, k5, k6, k7⟩ := path hΦ n _ lv st K ir h (fun i hi o ho => hst.call i o ho) R ρ kr kj r hd hE
          have hlen : E.length = ops.size := by simpa using k1
          have hE' : ∀ (i : Nat) (q : SS × Δ), E[i]? = some q → OkE X ops Φ (ρ ++ outs) i q := fun i q hq => k3 i q i hq (by
            have : i < ops.size := by rw [← hlen]; exact (List.getElem?_eq_some_iff.1 hq).1
            simp [this])
          have hok : ∀ q ∈ E, (∀ d, q.2.dst = some d → d < q.1.n) ∧ okδ q.1 q.2 = true := by
            intro q hq
            obtain ⟨j, hj⟩ := List.getElem?_of_mem hq
            obtain ⟨⟨o', h1, h2, h3, h4, _⟩, _⟩ := hE' j q hj
            exact ⟨by rw [h3]; exact h2, h4⟩
          have habs := (chain_spec E st st' k2 hok).1
          refine wp_region_any hm (wpAny_inv (bs := bs) (B := B) hΦ hst k2 hlen hE' (fun a' w' hd' => ?_) ops.size _ a _ (by simp) ?_ ?_)
          · obtain ⟨g', hr⟩ := hd'.rel
            rw [mask_all _ _ _ _ (fun j hj => by show 0 + j < ops.size; omega), ← habs] at hr
            exact ih n' (by omega) _ _ _ _ _ k5 _ _ _ _ _ ns bs _ _ _ k6 hkr hK.env k7 hr
          · unfold open'
            exact Nat.le_trans (List.length_filter_le _ _) (by simp)
          · have hno : ∀ i, ¬ ((Array.replicate ops.size false).getD i false = true) := by
              intro i h
              simp only [Array.getD_eq_getD_getElem?, Array.getElem?_replicate] at h
              split at h <;> simp at h
            refine ⟨⟨g, ?_⟩, fun i j o h => absurd h (hno i), fun i h => absurd h (hno i), fun j i q q' β r h => absurd h (hno j), fun j i k q q' h => absurd h (hno j)⟩
            rw [mask_none _ _ _ _ (fun j _ h => hno _ h)]
            exact (hR.env (fun i d h => nth_app h)).drew
      · cases h
    | cond c x y =>
      simp only [go] at h
      split at h
      · rename_i v ty hev
        obtain ⟨d, k1, k2, k3⟩ := ev_rep hR hev
        simp only [A.ev, Option.some.injEq] at k1
        subst k1
        have k3' : [a.eval c] = [Value.bool v] := k3
        simp only [List.cons.injEq, and_true] at k3'
        have := ihn _ _ _ _ _ h _ _ _ _ _ _ _ _ _ _ hd hkr hK hE hR
        exact wp_cond k3' this
      · rename_i i hev
        obtain ⟨d, k1, k2, k3⟩ := ev_rep hR hev
        obtain ⟨b, rfl, hb⟩ := bool_of k2 k3
        have k1' : nth ρ i = some ⟨.bool, b⟩ := k1
        split at h
        · rename_i v hkn
          have hv := hE.fact i v hkn
          rw [k1'] at hv
          simp only [Option.some.injEq, D.mk.injEq, heq_eq_eq, true_and] at hv
          subst hv
          have := ihn _ _ _ _ _ h _ _ _ _ _ _ _ _ _ _ hd hkr hK hE hR
          exact wp_cond hb this
        · obtain ⟨ia, ib, h1, h2, rfl⟩ := both_some h
          obtain ⟨v, hv, hd'⟩ := ite_eval hd
          rw [k1'] at hv
          simp only [Option.some.injEq, D.mk.injEq, heq_eq_eq, true_and] at hv
          subst hv
          refine wp_cond hb ?_
          cases b with
          | true => exact ihn _ _ _ _ _ h1 _ _ _ _ _ _ _ _ _ _ hd' hkr hK (hE.know k1') hR
          | false => exact ihn _ _ _ _ _ h2 _ _ _ _ _ _ _ _ _ _ hd' hkr hK (hE.know k1') hR
      · cases h
    | block id c =>
      simp only [go] at h
      exact wp_block (ihn _ _ _ _ _ h _ _ _ _ _ _ _ _ _ _ hd hkr hK hE hR)
    | loop c =>
      simp only [go, fL_eq] at h
      have hor : go X top sig n false lv (.code c) st (.unr c 63 :: K) = some ir ∨ ∃ car, runLoop (fun hd h => go X top sig n false (lv + 1) (.code c) hd (.loop c h :: K)) lv (dsts c) st false car = some ir := by
        split at h
        · exact .inl h
        · split at h
          · exact .inr ⟨_, h⟩
          · split at h
            · exact .inr ⟨_, h⟩
            · cases h
      clear h
      rcases hor with h | ⟨car, h⟩
      · have := ihn _ _ _ _ _ h _ _ _ _ _ ns bs _ _ _ hd hkr hK hE hR
        exact wp_loop_rounds 64 (by rw [rounds_succ]; exact this)
      · obtain ⟨hd0, xs, ts, b, h1, h2, rfl, hfa⟩ := runLoop_spec h
        simp only [den] at hd
        split at hd
        · rename_i ds0 hx
          split at hd
          · rename_i s0 hs0
            obtain ⟨N, hN⟩ := iter_some hd
            obtain ⟨hl0, hnv, g0, hR0⟩ := hR.jump h1 hx (Nat.le_of_eq hE.len.symm)
            have hcl : (pairs ts).cells.length = car.length := by rw [← hl0, ← toTup_eq hs0, split_len]
            have htk : ρ.take st.nv = ρ := by rw [← hE.len]; exact List.take_length
            rw [htk, ← toTup_eq hs0] at hR0
            refine wp_loop_rounds N ?_
            -- each round
            have key : ∀ (m : Nat) (s : (pairs ts).den) (a : Act) (w : World) (g : G), iterN (fun s => den Φ b (LS (pairs ts).den R) (lv + 1) (ρ ++ split (pairs ts) s) (fun ds => (kr ds).map .out)
                (fun l ds => if l = lv then (toTup ts ds).map .again else (kj l ds).map .out)) m s = some r → RelG B (ρ ++ split (pairs ts) s) (abs hd0) a bs w g →
                Code.rounds X.P c (KP X.P (Fin X.P top sig B rs0) K ns bs) m a w := by
              intro m
              induction m with
              | zero => intro s a w g hi; simp [iterN] at hi
              | succ m ihm =>
                intro s a w g hi hRs
                simp only [iterN] at hi
                rw [rounds_succ]
                have hEs : Ev hd0 (ρ ++ split (pairs ts) s) := ⟨by rw [List.length_append, split_len, hE.len, hcl, hnv], fun i b hb => by rw [hfa] at hb; cases hb⟩
                have hKs : ∀ J' : Nat → List D → Prop, (∀ l ds, l < lv → J' l ds → kj l ds = some r) → KInv X.P B (Fin X.P top sig B rs0) (ρ ++ split (pairs ts) s) J' lv K ns bs := fun J' hJ =>
                  KInv.mono (by simp) (fun m hm => by rw [List.take_append_of_le_length hm]) K lv lv ns bs (Nat.le_refl _) hJ hK
                split at hi
                · rename_i s' hstep
                  refine ihn _ _ _ _ _ h2 _ _ _ _ _ (m :: ns) bs a w g hstep (fun ds hk => ?_) ⟨Nat.lt_succ_self _, by simp [hE.len], fun ds a' w' g' hJ hR' => ?_, hKs _ fun l ds hl hJ => ?_⟩ hEs hRs
                  · cases hh : kr ds <;> simp [hh] at hk
                  · simp only [if_true] at hJ
                    have hJ' : toTup ts ds = some s' := by
                      cases hh : toTup ts ds with
                      | none => rw [hh] at hJ; simp at hJ
                      | some s2 => rw [hh] at hJ; simp at hJ; rw [hJ]
                    have hsp := toTup_eq hJ'
                    have htk' : (ρ ++ split (pairs ts) s).take st.nv = ρ := by rw [← hE.len]; exact List.take_left
                    rw [htk', ← hsp] at hR'
                    exact ihm s' a' w' g' hi hR'
                  · rw [if_neg (by omega)] at hJ
                    cases hh : kj l ds <;> simp [hh] at hJ
                · rename_i r' hstep
                  simp only [Option.some.injEq] at hi
                  subst hi
                  refine ihn _ _ _ _ _ h2 _ _ _ _ _ (m :: ns) bs a w g hstep (fun ds hk => ?_) ⟨Nat.lt_succ_self _, by simp [hE.len], fun ds a' w' g' hJ hR' => ?_, hKs _ fun l ds hl hJ => ?_⟩ hEs hRs
                  · cases hh : kr ds with
                    | none => rw [hh] at hk; simp at hk
                    | some x => rw [hh] at hk; simp at hk; subst hk; exact hkr ds hh
                  · simp only [if_true] at hJ
                    cases hh : toTup ts ds <;> simp [hh] at hJ
                  · rw [if_neg (by omega)] at hJ
                    cases hh : kj l ds with
                    | none => rw [hh] at hJ; simp at hJ
                    | some x => rw [hh] at hJ; simp at hJ; rw [hJ]
                · cases hi
            exact key N s0 a w g0 hN hR0
          · cases hd
        · cases hd
    | exit id =>
      simp only [go] at h
      exact wp_exit (ihn _ _ _ _ _ h _ _ _ _ _ _ _ _ _ _ hd hkr hK hE hR)
    | ret =>
      simp only [go] at h
      exact wp_ret (ihn _ _ _ _ _ h _ _ _ _ _ _ _ _ _ _ hd hkr hK hE hR)
    | _ => simp [go] at h
  | ops ops l =>
    cases l with
    | nil =>
      simp only [go] at h
      exact ihn _ _ _ _ _ h _ _ _ _ _ _ _ _ _ _ hd hkr hK hE hR
    | cons i rest =>
      simp only [go] at h
      split at h
      · cases h
      · rename_i o ho
        split at h
        · cases h
        · rename_i hdst
          have hdst : ∀ d, o.dst = some d → d < st.n := dstOut_spec hdst
          obtain ⟨gy, gn⟩ := guard_spec (o := o) (ops := ops) hR (fun j want _ t sv _ hs => (slot_abs hs).2) hE.fact
          have hp := SS.seq_step (X := X) hR hdst
          -- the operation on which the evaluation parts
          have part : ∀ x, both (.ite (.v x)) (go X top sig n false lv (.ops ops (i :: rest)) (st.fact x true) K) (go X top sig n false lv (.ops ops (i :: rest)) (st.fact x false) K) = some ir →
              Goal X.P (Fin X.P top sig B rs0) K ns bs a w (.ops ops (i :: rest)) := by
            intro x hx
            obtain ⟨ia, ib, h1, h2, rfl⟩ := both_some hx
            obtain ⟨v, hv, hd'⟩ := ite_eval hd
            cases v with
            | true => exact ihn _ _ _ _ _ h1 _ _ _ _ _ _ _ _ _ _ hd' hkr hK (hE.know hv) hR
            | false => exact ihn _ _ _ _ _ h2 _ _ _ _ _ _ _ _ _ _ hd' hkr hK (hE.know hv) hR
          show wpOps X.P ops _ (i :: rest) a w
          split at h
          · cases h
          · -- skipped
            rename_i hg
            simp only [wpOps, ho, gn hg, Bool.false_eq_true, if_false]
            rw [SS.app_eq] at h
            have hR' : RelG B ρ (abs (st.after { dst := o.dst, sv := .dead })) (a.put o.dst undef) bs w g := by
              rw [abs_after _ _ hdst rfl]
              exact upd_put _ _ _ 0 _ _ (hR.put hdst rfl)
            have hE' := hE.add (outs := []) (δ := { dst := o.dst, sv := .dead }) rfl
            rw [List.append_nil] at hE'
            exact ihn _ _ _ _ _ h _ _ _ _ _ _ _ _ _ _ hd hkr hK hE' hR'
          · exact part _ h
          · rename_i hg
            simp only [wpOps, ho, gy hg, if_true]
            split at h
            · cases h
            · rename_i e δ hst
              split at h
              · rename_i hok
                rw [SS.app_eq] at h
                have hi := step_info hst
                obtain ⟨k', outs, h1, h2, h3, h4⟩ := op_eval hΦ hi h hd hE.len
                have hR' := hR.env (ρ' := ρ ++ outs) (fun i d h => nth_app h)
                refine .inl (step_does (Φ := Φ) (SS.seq_step hR' hdst) hΦ (stepOk_seq hi (fun i b hb => nth_app (hE.fact i b hb)) h4) hst _ _ ?_)
                rintro a' w' ⟨g', hg'⟩
                rw [← abs_after _ _ (by rw [hi.dst]; exact hdst) hok] at hg'
                exact ihn _ _ _ _ _ h1 _ _ _ _ _ _ _ _ _ _ h3 hkr hK.env (hE.add h2) hg'
              · cases h
            · simp only [Option.some.injEq] at h
              subst h
              simp [den] at hd
            · have := part _ h
              simp only [Goal, wpOps, ho, gy ‹_›, if_true] at this
              exact this
            · rename_i c y z hst
              obtain ⟨iy, iz, h1, h2, rfl⟩ := both_some h
              rw [SS.app_eq] at h1 h2
              obtain ⟨el, xs, k1, k2, k3, k4, k5, k6, k7, k8⟩ := nilc_does hp hst
              simp only [den, k1] at hd
              have hz : ∀ a' w', Post B ρ (abs st) z st.nb st.ntok bs a' w' → den Φ iz R lv ρ kr kj = some r → wpOps X.P ops (KP X.P (Fin X.P top sig B rs0) K ns bs) rest a' w' := by
                rintro a' w' ⟨g', hg'⟩ hdz
                rw [← abs_after _ _ (by rw [k4]; exact hdst) k8] at hg'
                have hE' := hE.add (outs := []) (δ := z) k6.symm
                rw [List.append_nil] at hE'
                exact ihn _ _ _ _ _ h2 _ _ _ _ _ _ _ _ _ _ hdz hkr hK hE' hg'
              have hy : ∀ a' w', Post B ρ (abs st) y st.nb st.ntok bs a' w' → den Φ iy R lv ρ kr kj = some r → wpOps X.P ops (KP X.P (Fin X.P top sig B rs0) K ns bs) rest a' w' := by
                rintro a' w' ⟨g', hg'⟩ hdy
                rw [← abs_after _ _ (by rw [k3]; exact hdst) k7] at hg'
                have hE' := hE.add (outs := []) (δ := y) k5.symm
                rw [List.append_nil] at hE'
                exact ihn _ _ _ _ _ h1 _ _ _ _ _ _ _ _ _ _ hdy hkr hK hE' hg'
              have hbo : (xs = [] → den Φ iy R lv ρ kr kj = some r) ∧ den Φ iz R lv ρ kr kj = some r := by
                split at hd
                · simp only [eqO] at hd
                  split at hd
                  · rename_i e; exact ⟨fun _ => e.trans hd, hd⟩
                  · cases hd
                · rename_i hne
                  exact ⟨fun e => by subst e; simp at hne, hd⟩
              rcases k2 with ⟨e, hdo⟩ | hdo
              · exact .inl (hdo _ _ fun a' w' hpo => hy a' w' hpo (hbo.1 e))
              · exact .inl (hdo _ _ fun a' w' hpo => hz a' w' hpo hbo.2)
            · rename_i f vs hst
              split at h
              · rename_i fn hfn
                split at h
                · rename_i c hbody
                  split at h
                  · cases h
                  · rename_i hchk
                    simp only [Bool.or_eq_true, blt_eq, decide_eq_true_eq, not_or, Bool.not_eq_true, Nat.not_lt] at hchk
                    obtain ⟨us, hus, hwp⟩ := enter_does hp hst hfn hbody hchk.1
                    refine .inl (hwp _ _ ?_)
                    have hR' := enter_rel hR hus hchk.2
                    have hE' : Ev (enter st fn vs) ρ := ⟨hE.len, hE.fact⟩
                    have := ihn _ _ _ _ _ h _ _ _ _ _ ns (a :: bs) _ w g hd hkr hK hE' hR'
                    have hc := calls_of_wp (args := us) hfn hbody this
                    refine Calls.mono hc ?_
                    intro e w' he
                    cases e <;> exact he
                · cases h
              · cases h
  | res e =>
    cases e with
    | norm =>
      cases K with
      | nil =>
        simp only [go] at h
        exact ihn _ _ _ _ _ h _ _ _ _ _ ns bs _ _ _ hd hkr hK hE hR
      | cons k K =>
        cases k with
        | code c =>
          simp only [go] at h
          exact ihn _ _ _ _ _ h _ _ _ _ _ ns bs _ _ _ hd hkr hK hE hR
        | ops ops l =>
          simp only [go] at h
          exact ihn _ _ _ _ _ h _ _ _ _ _ ns bs _ _ _ hd hkr hK hE hR
        | blk id =>
          simp only [go] at h
          exact ihn _ _ _ _ _ h _ _ _ _ _ ns bs _ _ _ hd hkr hK hE hR
        | unr c m =>
          cases m with
          | zero => simp [go] at h
          | succ m =>
            simp only [go] at h
            have := ihn _ _ _ _ _ h _ _ _ _ _ ns bs _ _ _ hd hkr hK hE hR
            show Code.rounds X.P c (KP X.P (Fin X.P top sig B rs0) K ns bs) (m + 1) a w
            rw [rounds_succ]
            exact this
        | loop c hh =>
          simp only [go, Bool.false_eq_true, if_false, Option.map_eq_some_iff] at h
          obtain ⟨xs, h1, rfl⟩ := h
          simp only [den] at hd
          split at hd
          · rename_i ds hx
            cases ns with
            | nil => exact hK.elim
            | cons m ns =>
              obtain ⟨k1, k2, k3, k4⟩ := hK
              obtain ⟨_, _, g', hR'⟩ := hR.jump h1 hx k2
              exact k3 ds a w g' hd hR'
          · cases hd
        | frame fn d =>
          simp only [go] at h
          have := ihn _ _ _ _ _ h _ _ _ _ _ ns bs _ _ _ hd hkr hK hE hR
          cases bs with
          | nil => exact hK.elim
          | cons b bs => exact this
    | ret =>
      simp only [go] at h
      split at h
      · rename_i K' hpop
        split at h
        · rename_i rs hrs
          split at h
          · rename_i hfit
            simp only [Option.map_eq_some_iff] at h
            obtain ⟨p, h1, rfl⟩ := h
            simp only [den] at hd
            split at hd
            · rename_i ds hx
              have hds := hkr ds hd
              subst hds
              refine popRet_none K K' lv ns bs hpop hK a w ?_
              obtain ⟨us, h2, h3⟩ := results_run hR hrs
              obtain ⟨cs, h4⟩ := returned hR h3 hfit h1 hx
              exact ⟨hR.nodef, _, h2, _, rfl, g.p, us, cs, h4⟩
            · cases hd
          · cases h
        · cases h
      · rename_i fn d K' hpop
        obtain ⟨ns', b, bs', rfl, hK', hto⟩ := popRet_some K K' lv ns bs hpop hK
        refine hto a w ?_
        split at h
        · rename_i m σ sv rs hsv hrs
          split at h
          · rename_i v hv
            split at h
            · cases h
            · rename_i hdm
              rw [SS.app_eq] at h
              obtain ⟨us, h2, h3⟩ := results_run hR hrs
              refine ⟨hR.nodef, _, h2, ?_⟩
              have hsav := hR.saved
              simp only [abs, hsv, List.map_cons] at hsav
              cases hsav with
              | cons q1 q2 =>
                have hR1 : RelG B ρ (abs { st with n := m, slots := σ, saved := sv }) b bs' w g :=
                  { nodef := q1.1, sz := q1.2.1, slot := fun i => SVRep.congr (α := abs st) rfl rfl (q1.2.2 i), saved := Forall2.mono (fun _ _ ⟨h1, h2, h3⟩ => ⟨h1, h2, fun i => SVRep.congr (α := abs st) rfl rfl (h3 i)⟩) q2, box := fun β row hr => BoxOk.congr (α := abs st) (α' := abs { st with n := m, slots := σ, saved := sv }) rfl rfl (hR.box β row hr), live := hR.live, pwf := hR.pwf, bel := hR.bel, hB := hR.hB, pold := hR.pold }
                have hdm' : ∀ i, d = some i → i < m := dstOut_spec hdm
                have hval : SVRep ρ (abs st) g w v (resVal us) := resAll_rep hv h3
                have hR2 := upd_put _ d v 0 st.nb st.ntok (hR1.put (dst := d) hdm' (SVRep.congr (α := abs st) rfl rfl hval))
                have hab := abs_after { st with n := m, slots := σ, saved := sv } { dst := d, sv := v } hdm' rfl
                rw [← hab] at hR2
                have hE1 : Ev { st with n := m, slots := σ, saved := sv } ρ := ⟨hE.len, hE.fact⟩
                have hE' := hE1.add (outs := []) (δ := { dst := d, sv := v }) rfl
                rw [List.append_nil] at hE'
                exact ihn _ _ _ _ _ h _ _ _ _ _ ns' bs' _ _ _ hd hkr hK' hE' hR2
          · cases h
        · cases h
    | exit id =>
      simp only [go] at h
      split at h
      · rename_i K' hpop
        obtain ⟨ns', h1, h2⟩ := popTo_spec K K' lv ns bs hpop hK
        exact h2 a w (ihn _ _ _ _ _ h _ _ _ _ _ ns' bs _ _ _ hd hkr h1 hE hR)
      · cases h
end
end Go.Proofs.Ytdjknicjnaiomaa.Sx

/- From the executor's word to a contract. -/
namespace Go.Proofs.Ytdjknicjnaiomaa.Sx
open Go.RowKit

section
variable {X : Cx} {Φ : Nat → Cont}

theorem vars_rep {ρ : List D} {α : AS} {g : G} {w : World} : ∀ (ts : List Ty) (i : Nat) (ds : List D) (cs : List Value), ds.map (·.t) = ts → All2 (fun d v => RepD g.p w v d) ds cs → (∀ m d, ds[m]? = some d → nth ρ (i + m) = some d) →
    All2 (SCRep ρ α g w) (vars i ts) cs
  | [], i, ds, cs, h, hr, hn => by
    have : ds = [] := by simpa using h
    subst this; cases hr; exact .nil
  | t :: ts, i, ds, cs, h, hr, hn => by
    cases hr with
    | nil => simp at h
    | cons h1 h2 =>
      rename_i d v ds cs
      simp only [List.map_cons, List.cons.injEq] at h
      refine .cons ⟨d, hn 0 d rfl, h.1, h1⟩ (vars_rep ts (i + 1) ds cs h.2 h2 fun m d' hm => ?_)
      have := hn (m + 1) d' (by simpa using hm)
      rwa [show i + 1 + m = i + (m + 1) by omega]

theorem entry_slots {ρ : List D} {α : AS} {g : G} {w : World} : ∀ (ins : List (Bool × Ty)) (j i : Nat) (vs cs : List Value) (ds : List D), partVals (ins.map fun q => (q.1, q.2.cells.length)) vs cs → All2 (fun d v => RepD g.p w v d) ds cs →
    ds.map (·.t) = (ins.map (·.2.cells)).flatten → (∀ m d, ds[m]? = some d → nth ρ (i + m) = some d) → vs.length = ins.length ∧
    ∀ k, (∃ sv, look (entrySlots j i ins) k = some sv ∧ j ≤ k ∧ ∃ v, vs[k - j]? = some v ∧ SVRep ρ α g w sv v) ∨ (look (entrySlots j i ins) k = none ∧ (j ≤ k → vs[k - j]? = none))
  | [], j, i, vs, cs, ds, hp, hr, ht, hn => by
    cases vs with
    | nil => exact ⟨rfl, fun k => .inr ⟨rfl, fun _ => by simp⟩⟩
    | cons => simp [partVals] at hp
  | (ag, t) :: ins, j, i, vs, cs, ds, hp, hr, ht, hn => by
    cases vs with
    | nil => simp [partVals] at hp
    | cons v vs =>
      simp only [List.map_cons, partVals] at hp
      obtain ⟨c1, c2, rfl, hl, hk, hp'⟩ := hp
      simp only [List.map_cons, List.flatten_cons] at ht
      have hd1 : All2 (fun d v => RepD g.p w v d) (ds.take t.cells.length) c1 := by have := hr.take t.cells.length; rwa [List.take_left' hl] at this
      have hd2 : All2 (fun d v => RepD g.p w v d) (ds.drop t.cells.length) c2 := by have := hr.drop t.cells.length; rwa [List.drop_left' hl] at this
      have ht1 : (ds.take t.cells.length).map (·.t) = t.cells := by rw [List.map_take, ht, List.take_left' rfl]
      have ht2 : (ds.drop t.cells.length).map (·.t) = (ins.map (·.2.cells)).flatten := by rw [List.map_drop, ht, List.drop_left' rfl]
      obtain ⟨e1, e2⟩ := entry_slots ins (j + 1) (i + t.cells.length) vs c2 _ hp' hd2 ht2 (fun m d hm => by rw [Nat.add_assoc]; rw [List.getElem?_drop] at hm; exact hn _ d hm)
      have hv := vars_rep (ρ := ρ) (α := α) t.cells i _ c1 ht1 hd1 (fun m d hm => hn m d (by rw [List.getElem?_take] at hm; split at hm <;> simp_all))
      refine ⟨by simp [e1], fun k => ?_⟩
      simp only [entrySlots, look_cons]
      by_cases ek : j = k
      · subst ek
        rw [if_pos rfl]
        refine .inl ⟨_, rfl, Nat.le_refl _, v, by simp, ?_⟩
        rcases hk with ⟨rfl, rfl⟩ | ⟨rfl, rfl⟩
        · simp only [if_true]; exact ⟨c1.toArray, rfl, by simpa using hv⟩
        · simp only [Bool.false_eq_true, if_false]
          generalize vars i t.cells = vc at hv
          cases hv with
          | cons k1 k2 => cases k2; exact k1
      · rw [if_neg ek]
        rcases e2 k with ⟨sv, h1, h2, u, h3, h4⟩ | ⟨h1, h2⟩
        · exact .inl ⟨sv, h1, by omega, u, by rw [show k - j = (k - (j + 1)) + 1 by omega]; simpa using h3, h4⟩
        · refine .inr ⟨h1, fun hle => ?_⟩
          rw [show k - j = (k - (j + 1)) + 1 by omega]
          simpa using h2 (by omega)

/-- the executor's word is a contract -/
theorem sx_ok (hΦ : ΦOk X Φ) (hm : X.P.follows .mixedOrders = true) {f : FuncId} {sig : Sig} {ir : IR} (h : sx X f sig = some ir) :
    FnOk X.P f sig (fun ds => den Φ ir (List D) 0 ds some (fun _ _ => none)) := by
  unfold sx at h
  split at h
  · rename_i fn hfn
    split at h
    · rename_i c hbody
      split at h
      · cases h
      · rename_i hchk
        simp only [Bool.or_eq_true, blt_eq, decide_eq_true_eq, not_or, Bool.not_eq_true, Nat.not_lt] at hchk
        refine ⟨⟨fn, c, hfn, hbody, hchk.1⟩, fun w p vs cs ds rs hpw hparts hrep htys hden => ?_⟩
        let B : Base := ⟨w.heap.size, w, p⟩
        let g : G := ⟨p, fun _ => 0, fun _ => undef, fun _ => 0, fun _ => 0, fun _ => none⟩
        obtain ⟨e1, e2⟩ := entry_slots (ρ := ds) (α := abs (entry fn sig)) (g := g) (w := w) sig.ins 0 0 vs cs ds hparts hrep htys (fun m d hm => by rw [Nat.zero_add, nth_eq]; exact hm)
        have hR : RelG B ds (abs (entry fn sig)) { tmps := vs.toArray ++ Array.replicate (fn.ntmps - vs.toArray.size) undef, defers := [] } [] w g := by
          refine { nodef := rfl, sz := by simp [abs, entry]; omega, slot := fun i => ?_, saved := .nil, box := fun β row hr => (by simp [abs, entry] at hr), live := fun k hk => (by simp [abs, entry] at hk), pwf := hpw, bel := Below.refl _ _, hB := rfl, pold := fun _ _ _ => Iff.rfl }
          have hget : ∀ v, vs[i]? = v → (vs.toArray ++ Array.replicate (fn.ntmps - vs.toArray.size) undef).getD i undef = v.getD undef := by
            intro v hv
            rw [Array.getD_eq_getD_getElem?]
            by_cases hi : i < vs.length
            · rw [Array.getElem?_append_left (by simpa using hi), List.getElem?_toArray, hv]
            · rw [Array.getElem?_append_right (by simpa using hi), Array.getElem?_replicate]
              rw [List.getElem?_eq_none (by omega)] at hv
              subst hv
              split <;> rfl
          show SVRep ds _ g w (absSlots fn.ntmps (entrySlots 0 0 sig.ins) i) _
          rcases e2 i with ⟨sv, h1, _, v, h3, h4⟩ | ⟨h1, h2⟩
          · rw [Nat.sub_zero] at h3
            have hi : i < vs.length := (List.getElem?_eq_some_iff.1 h3).1
            rw [hget _ h3]
            simp only [absSlots, h1]
            rw [if_pos (by omega)]
            exact h4
          · rw [hget _ (h2 (Nat.zero_le _))]
            simp only [absSlots, h1]
            split <;> rfl
        have hE : Ev (entry fn sig) ds := ⟨by simp only [entry]; rw [← List.length_map (f := (·.t)), htys]; rfl, fun i b hb => by cases hb⟩
        have := sound (top := fn) (sig := sig) (B := B) (rs0 := rs) hΦ hm 20000 0 (.code c) (entry fn sig) [] ir h (List D) ds some (fun _ _ => none) rs [] [] _ w g hden (fun ds h => by simpa using h) trivial hE hR
        exact calls_of_wp hfn hbody this
    · cases h
  · cases h
end
end Go.Proofs.Ytdjknicjnaiomaa.Sx

/- From a function's contract to a row: what an argument reads as, and what a law's call leaves. -/
namespace Go.Proofs.Ytdjknicjnaiomaa.Sx
open Go.RowKit

def Ty.wpos : Ty → Bool
  | .sl e => decide (0 < e.width) && e.wpos
  | .pair a b => a.wpos && b.wpos
  | _ => true

/-- what a datum that came in is bound to be -/
def Wf : (t : Ty) → t.den → Prop
  | .unit, _ => True
  | .bool, _ => True
  | .int k, n => k.min ≤ n ∧ n ≤ k.max
  | .str, s => (s : List Int).length ≤ maxLen ∧ ∀ c ∈ (s : List Int), 0 ≤ c ∧ c ≤ 255
  | .sl e, xs => (xs : List e.den).length ≤ maxLen ∧ ∀ x ∈ (xs : List e.den), Wf e x
  | .pair a b, x => Wf a x.1 ∧ Wf b x.2

theorem Rep.wf {p : Nat → Nat → Prop} {w : World} : ∀ (t : Ty) (vs : List Value) (x : t.den), Rep p w t vs x → Wf t x
  | .unit, _, _, _ => trivial
  | .bool, _, _, _ => trivial
  | .int _, _, _, h => h.2
  | .str, _, _, h => by
    obtain ⟨ba, _, rfl, hs⟩ := h
    refine ⟨by rw [bytesI_len]; exact hs, fun c hc => ?_⟩
    obtain ⟨b, _, rfl⟩ := List.mem_map.1 hc
    have := b.toNat_lt
    omega
  | .pair a b, _, _, h => by
    obtain ⟨va, vb, _, h1, h2⟩ := h
    exact ⟨Rep.wf a _ _ h1, Rep.wf b _ _ h2⟩
  | .sl e, vs, xs, h => by
    rcases h with ⟨_, h⟩ | ⟨b, off, cap, _, h1, h2, h3⟩ | ⟨_, _, h⟩
    · have h' : (xs : List e.den) = [] := h
      subst h'; exact ⟨Nat.zero_le _, fun x hx => by cases hx⟩
    · refine ⟨Nat.le_trans h1 h2, fun x hx => ?_⟩
      obtain ⟨i, hi⟩ := List.getElem?_of_mem hx
      obtain ⟨cs, _, hr⟩ := h3 i x hi
      exact Rep.wf e _ _ hr
    · have h' : (xs : List e.den) = [] := h
      subst h'; exact ⟨Nat.zero_le _, fun x hx => by cases hx⟩

/-- a datum's cells, each a datum -/
theorem Rep.split {p : Nat → Nat → Prop} {w : World} : ∀ (t : Ty) (vs : List Value) (x : t.den), Rep p w t vs x →
    ∃ ds : List D, All2 (fun d v => RepD p w v d) ds vs ∧ ds.map (·.t) = t.cells ∧ ∀ d ∈ ds, Wf d.t d.x
  | .unit, _, _, h => by simp only [Rep] at h; subst h; exact ⟨[], .nil, rfl, fun d hd => by cases hd⟩
  | .bool, _, x, h => by
    have h' := h
    simp only [Rep] at h'; subst h'; exact ⟨[⟨.bool, x⟩], .cons h .nil, rfl, fun d hd => by simp only [List.mem_singleton] at hd; subst hd; exact Rep.wf _ _ _ h⟩
  | .int k, _, x, h => by
    have h' := h
    simp only [Rep] at h'; obtain ⟨rfl, _⟩ := h'; exact ⟨[⟨.int k, x⟩], .cons h .nil, rfl, fun d hd => by simp only [List.mem_singleton] at hd; subst hd; exact Rep.wf _ _ _ h⟩
  | .str, _, x, h => by
    have h' := h
    simp only [Rep] at h'; obtain ⟨_, rfl, _⟩ := h'; exact ⟨[⟨.str, x⟩], .cons h .nil, rfl, fun d hd => by simp only [List.mem_singleton] at hd; subst hd; exact Rep.wf _ _ _ h⟩
  | .sl e, vs, x, h => by
    have h1 := Rep.len _ _ _ h
    match vs, h1 with
    | [v], _ => exact ⟨[⟨.sl e, x⟩], .cons h .nil, rfl, fun d hd => by simp only [List.mem_singleton] at hd; subst hd; exact Rep.wf _ _ _ h⟩
  | .pair a b, vs, x, h => by
    simp only [Rep] at h
    obtain ⟨va, vb, rfl, h1, h2⟩ := h
    obtain ⟨d1, k1, k2, k3⟩ := Rep.split a _ _ h1
    obtain ⟨d2, j1, j2, j3⟩ := Rep.split b _ _ h2
    refine ⟨d1 ++ d2, k1.app j1, by simp [Ty.cells, k2, j2], fun d hd => ?_⟩
    rcases List.mem_append.1 hd with hd | hd
    · exact k3 d hd
    · exact j3 d hd

theorem pairs_width : ∀ (ts : List Ty), (pairs ts).width = (ts.map Ty.width).sum
  | [] => rfl
  | [t] => by simp [pairs]
  | t :: u :: ts => by simp only [pairs, Ty.width, pairs_width (u :: ts)]; simp

theorem pairs_wpos : ∀ (ts : List Ty), (pairs ts).wpos = true → ∀ t ∈ ts, t.wpos = true
  | [], _, t, h => by cases h
  | [t], h, u, hu => by simp only [List.mem_singleton] at hu; subst hu; exact h
  | t :: u :: ts, h, v, hv => by
    simp only [pairs, Ty.wpos, Bool.and_eq_true] at h
    rcases List.mem_cons.1 hv with rfl | hv
    · exact h.1
    · exact pairs_wpos (u :: ts) h.2 v hv

section
variable {H : Type} {enc : TypeId × Value → H} {P : Program} {W : World} {held : Bool}

/-- a struct's fields, one behind the other -/
theorem fields_rep {p : Nat → Nat → Prop} {f : TypeId → Option Ty} {r : TypeId → List Value → Option (DataW H × List MemPlace)} {cs : List Value} :
    ∀ (fs : List Field) (ts : List Ty) (o : Nat) (xs : List (DataW H × List MemPlace)), tysOf f fs = some ts → offsOk o fs ts = true → (∀ x ∈ fs, ∀ t, f x.type = some t → P.cellsOf x.type = t.width) →
      (∀ t ∈ ts, t.wpos = true) → (∀ x ∈ fs, ∀ t, f x.type = some t → t.wpos = true → ∀ c y, r x.type c = some y → ∃ z, Rep p W t c z) →
      fs.mapM (fun x => r x.type ((cs.drop x.offset).take (P.cellsOf x.type))) = some xs → (cs.drop o).length = (pairs ts).width → ∃ y, Rep p W (pairs ts) (cs.drop o) y
  | [], ts, o, xs, h1, h2, h3, h4, h5, h6, h7 => by
    simp only [tysOf, Option.some.injEq] at h1
    subst h1
    have : cs.drop o = [] := List.length_eq_zero_iff.1 h7
    rw [this]; exact ⟨(), rfl⟩
  | x :: fs, ts, o, xs, h1, h2, h3, h4, h5, h6, h7 => by
    simp only [tysOf] at h1
    split at h1
    · rename_i t ts' e1 e2
      simp only [Option.some.injEq] at h1
      subst h1
      simp only [offsOk, Bool.and_eq_true, beq_iff_eq] at h2
      obtain ⟨ho, h2⟩ := h2
      have hw := h3 x (by simp) t e1
      rw [List.mapM_cons] at h6
      cases hx : r x.type ((cs.drop x.offset).take (P.cellsOf x.type)) with
      | none => simp [hx] at h6
      | some y =>
        cases hxs : fs.mapM (fun x => r x.type ((cs.drop x.offset).take (P.cellsOf x.type))) with
        | none => simp [hx, hxs] at h6
        | some ys =>
          rw [ho, hw] at hx
          obtain ⟨z, hz⟩ := h5 x (by simp) t e1 (h4 t (by simp)) _ _ hx
          cases ts' with
          | nil =>
            have : (cs.drop o).take t.width = cs.drop o := List.take_of_length_le (by rw [h7]; simp [pairs])
            rw [this] at hz
            exact ⟨z, hz⟩
          | cons u us =>
            have hl : (cs.drop (o + t.width)).length = (pairs (u :: us)).width := by
              simp only [pairs, Ty.width] at h7
              rw [List.length_drop] at h7 ⊢
              omega
            obtain ⟨z', hz'⟩ := fields_rep fs (u :: us) (o + t.width) ys e2 h2 (fun x hx => h3 x (by simp [hx])) (fun t ht => h4 t (by simp [ht])) (fun x hx => h5 x (by simp [hx])) hxs hl
            refine ⟨(z, z'), (cs.drop o).take t.width, cs.drop (o + t.width), ?_, hz, hz'⟩
            rw [← List.drop_drop, List.take_append_drop]
    · cases h1

theorem list_of {α : Type} {Q : Nat → α → Prop} : ∀ (n : Nat), (∀ i, i < n → ∃ y, Q i y) → ∃ ys : List α, ys.length = n ∧ ∀ i y, ys[i]? = some y → Q i y
  | 0, _ => ⟨[], rfl, fun i y h => by simp at h⟩
  | n + 1, h => by
    obtain ⟨ys, h1, h2⟩ := list_of n (fun i hi => h i (by omega))
    obtain ⟨y, hy⟩ := h n (by omega)
    refine ⟨ys ++ [y], by simp [h1], fun i z hz => ?_⟩
    by_cases hi : i < n
    · rw [List.getElem?_append_left (by omega)] at hz; exact h2 i z hz
    · rw [List.getElem?_append_right (by omega)] at hz
      have : i - ys.length = 0 := by
        have := (List.getElem?_eq_some_iff.1 hz).1
        simp at this; omega
      rw [this] at hz
      simp at hz; subst hz
      rwa [show i = n by omega]

theorem spot_none {b : Nat} {a : Addr} {n i : Nat} {cs : List Value} (h : W.cells? b (a.add (i * n)) n = some cs) (hn : 0 < n) (hi : i = 0 ) : a.spot = none := by
  subst hi
  obtain ⟨_, _, h3⟩ := World.cells?_some h
  have h4 := h3 0 hn
  have hl : 0 < cs.length := by obtain ⟨_, h, _⟩ := World.cells?_some h; omega
  rw [List.getElem?_eq_getElem hl] at h4
  simp only [Nat.zero_mul] at h4
  have e : (a.add 0).add 0 = a := by simp [Addr.add]
  rw [e] at h4
  unfold World.cell? at h4
  split at h4
  · split at h4
    · cases h4
    · rename_i hs; simpa using hs
  · cases h4

/-- WHAT AN ARGUMENT READS AS -/
theorem trod_rep : ∀ (m n : Nat) (t : TypeId) (ty : Ty) (cs : List Value) (x : DataW H × List MemPlace), tyOf P n t = some ty → ty.wpos = true →
    DataW.trod enc P W 0 (fun _ => true) held m t cs = some x → ∃ y, Rep (fun b _ => b < W.heap.size) W ty cs y
  | 0, _, _, _, _, _, _, _, h => by simp [DataW.trod] at h
  | m + 1, 0, _, _, _, _, h, _, _ => by simp [tyOf] at h
  | m + 1, n + 1, t, ty, cs, x, ht, hp, h => by
    simp only [tyOf] at ht
    split at ht
    · rename_i k hu
      split at ht
      · cases ht
        simp only [DataW.trod, hu] at h
        split at h
        all_goals first | (rename_i hh; cases hh; done) | skip
        · rename_i k1 k2 nn hh
          cases hh
          split at h
          · rename_i hc
            obtain ⟨rfl, hwf⟩ := hc
            simp only [Lit.wf, Bool.and_eq_true, decide_eq_true_eq] at hwf
            exact ⟨nn, rfl, hwf⟩
          · cases h
        all_goals simp_all
      · cases ht
    · rename_i hu
      split at ht
      · cases ht
        simp only [DataW.trod, hu] at h
        split at h
        · exact ⟨_, rfl⟩
        all_goals simp_all
      · cases ht
    · rename_i hu
      split at ht
      · cases ht
        simp only [DataW.trod, hu] at h
        split at h
        all_goals first | (rename_i hh; cases hh; done) | skip
        · split at h
          · rename_i hs
            exact ⟨_, _, rfl, rfl, hs⟩
          · cases h
        all_goals simp_all
      · cases ht
    · rename_i e hu
      split at ht
      · split at ht
        · rename_i u he
          cases ht
          simp only [Ty.wpos, Bool.and_eq_true, decide_eq_true_eq] at hp
          have hw : P.cellsOf e = u.width := tyOf_width _ _ _ he
          rcases DataW.trod_slice hu h with ⟨rfl, _⟩ | ⟨a, len, cap, elems, rest, n', hf, rfl, rfl, _, hl, hm, hlen, hel, hsp, _⟩
          · exact ⟨[], .inl ⟨rfl, rfl⟩⟩
          · cases hf
            obtain ⟨hr, hrest⟩ := hsp rfl
            have each : ∀ i, i < len → ∃ y c, W.cells? 0 (a.add (i * P.cellsOf e)) (P.cellsOf e) = some c ∧ Rep (fun b _ => b < W.heap.size) W u c y := fun i hi => by
              have := hel i hi
              have hlt : i < elems.length := by omega
              rw [List.getElem?_eq_getElem hlt] at this
              obtain ⟨c, h1, h2⟩ := Option.bind_eq_some_iff.1 this
              obtain ⟨y, hy⟩ := trod_rep m n e u c _ he hp.2 h2
              exact ⟨y, c, h1, hy⟩
            by_cases hc0 : cap = 0
            · subst hc0
              have : len = 0 := by omega
              subst this
              exact ⟨[], .inr (.inr ⟨a, rfl, rfl⟩)⟩
            · have hspot : a.spot = none := by
                by_cases h0 : 0 < len
                · obtain ⟨y, c, h1, _⟩ := each 0 h0
                  exact spot_none h1 (by omega) rfl
                · have h00 : len = 0 := by omega
                  subst h00
                  have := hrest 0 (by omega)
                  have hlt : 0 < rest.length := by omega
                  rw [List.getElem?_eq_getElem hlt] at this
                  obtain ⟨c, h1, h2⟩ := Option.bind_eq_some_iff.1 this
                  exact spot_none (i := 0) h1 (by omega) rfl
              obtain ⟨b, off, spot⟩ := a
              simp only at hspot
              subst hspot
              obtain ⟨ys, hys, hY⟩ := list_of len (Q := fun i y => ∃ c, W.cells? 0 (Addr.add ⟨b, off, none⟩ (i * P.cellsOf e)) (P.cellsOf e) = some c ∧ Rep (fun b _ => b < W.heap.size) W u c y) each
              refine ⟨ys, .inr (.inl ⟨b, off, cap, by rw [hys], by rw [hys]; exact hl, hm, fun i y hy => ?_⟩)⟩
              obtain ⟨c, h1, h2⟩ := hY i y hy
              refine ⟨c, fun j v hv => ?_, h2⟩
              obtain ⟨_, h4, h5⟩ := World.cells?_some h1
              have hj : j < P.cellsOf e := by rw [← h4]; exact (List.getElem?_eq_some_iff.1 hv).1
              have h6 := h5 j hj
              rw [Addr.add_mid, Addr.add_mid, hv, hw] at h6
              refine ⟨?_, h6⟩
              unfold World.cell? at h6
              split at h6
              · rename_i h7; exact (Array.getElem?_eq_some_iff.1 h7).1
              · cases h6
        · cases ht
      · cases ht
    · rename_i fs hu
      split at ht
      · rename_i ts hts
        split at ht
        · rename_i hc
          cases ht
          simp only [Bool.and_eq_true, beq_iff_eq] at hc
          simp only [DataW.trod, hu] at h
          split at h
          · rename_i hlen
            simp only [Option.map_eq_some_iff] at h
            obtain ⟨xs, hxs, rfl⟩ := h
            have := fields_rep (P := P) (W := W) (p := fun b _ => b < W.heap.size) (f := tyOf P n) (r := DataW.trod enc P W 0 (fun _ => true) held m) (cs := cs) fs.toList ts 0 xs hts hc.1 (fun x _ t h => tyOf_width _ _ _ h) (pairs_wpos ts hp)
              (fun x _ t h1 h2 c y h3 => trod_rep m n x.type t c y h1 h2 h3) hxs (by rw [List.drop_zero, hlen, ← hc.2]; rfl)
            simpa using this
          · cases h
        · cases ht
      · cases ht
    · cases ht

def insOk (P : Program) : List TypeId → List (Bool × Ty) → Bool
  | [], [] => true
  | t :: ts, (ag, ty) :: r => (match tyOf P 6 t with | some u => decide (u = ty) | none => false) && (ag == isAgg' P t) && ty.wpos && P.readableRec t && decide (t < P.types.size) && insOk P ts r
  | _, _ => false

theorem cell_form {n : Nat} {t : TypeId} {ty : Ty} {base : Nat} {v : Value} (ht : tyOf P (n + 1) t = some ty) (ha : isAgg' P t = false) (hv : Value.okWide P W .any base t v) : v.cells.toList = [v] := by
  simp only [tyOf] at ht
  unfold isAgg' at ha
  unfold Value.okWide at hv
  cases v
  case agg cs =>
    split at ht <;> simp_all [Cell.okWide, Cell.ok]
  all_goals rfl

theorem argsRep {base : Nat} : ∀ (ts : List TypeId) (ins : List (Bool × Ty)) (vs : List Value) (ds : List (DataW H)) (ps : List MemPlace), insOk P ts ins = true → DataW.TrodAll enc P W 0 (fun _ => true) true ts vs ds ps →
    (∀ (j : Nat) (t : TypeId) (v : Value), ts[j]? = some t → vs[j]? = some v → Value.okWide P W .any base t v) →
    ∃ cs dd, partVals (ins.map fun q => (q.1, q.2.cells.length)) vs cs ∧ All2 (fun d v => RepD (fun b _ => b < W.heap.size) W v d) dd cs ∧ dd.map (·.t) = (ins.map (·.2.cells)).flatten ∧ ∀ d ∈ dd, Wf d.t d.x
  | [], [], vs, ds, ps, h, hA, hv => by
    cases vs with
    | nil => exact ⟨[], [], rfl, .nil, rfl, fun d hd => by cases hd⟩
    | cons => simp [DataW.TrodAll] at hA
  | [], _ :: _, _, _, _, h, _, _ => by simp [insOk] at h
  | _ :: _, [], _, _, _, h, _, _ => by simp [insOk] at h
  | t :: ts, (ag, ty) :: r, vs, ds, ps, h, hA, hv => by
    match vs, ds, hA with
    | [], _, hA => simp [DataW.TrodAll] at hA
    | v :: vs, [], hA => simp [DataW.TrodAll] at hA
    | v :: vs, d :: ds, hA =>
      obtain ⟨p1, q1, ⟨m, h1⟩, h2, _⟩ := hA
      simp only [insOk, Bool.and_eq_true] at h
      obtain ⟨⟨⟨⟨⟨k1, k2⟩, k3⟩, _⟩, _⟩, k6⟩ := h
      split at k1
      · rename_i u hu
        simp only [decide_eq_true_eq] at k1
        subst k1
        obtain ⟨y, hy⟩ := trod_rep m 6 t u _ _ hu k3 h1
        obtain ⟨d1, j1, j2, j3⟩ := Rep.split _ _ _ hy
        obtain ⟨cs, dd, e1, e2, e3, e4⟩ := argsRep ts r vs ds q1 k6 h2 (fun j t v ht hv' => hv (j + 1) t v (by simpa using ht) (by simpa using hv'))
        have hv0 := hv 0 t v rfl rfl
        have hlen : v.cells.toList.length = u.cells.length := by rw [← j1.len, ← j2, List.length_map]
        refine ⟨v.cells.toList ++ cs, d1 ++ dd, ⟨v.cells.toList, cs, rfl, hlen, ?_, e1⟩, j1.app e2, by simp [j2, e3], fun d hd => ?_⟩
        · cases hag : isAgg' P t with
          | false =>
            rw [hag] at k2
            exact .inr ⟨by simpa using k2, cell_form (n := 5) hu hag hv0⟩
          | true =>
            rw [hag] at k2
            refine .inl ⟨by simpa using k2, ?_⟩
            unfold isAgg' at hag
            unfold Value.okWide at hv0
            split at hag
            · rename_i e; rw [e] at hv0; obtain ⟨c, rfl, _⟩ := hv0; simp [Value.cells]
            · rename_i e; rw [e] at hv0; obtain ⟨c, rfl, _⟩ := hv0; simp [Value.cells]
            · cases hag
        · rcases List.mem_append.1 hd with hd | hd
          · exact j3 d hd
          · exact e4 d hd
      · cases k1

theorem args_below {W' : World} (hl : laidOutB P = true) (hb : Below W.heap.size W W') : ∀ (ts : List TypeId) (ins : List (Bool × Ty)) (vs : List Value) (ds : List (DataW H)) (ps : List MemPlace), insOk P ts ins = true →
    DataW.TrodAll enc P W 0 (fun _ => true) true ts vs ds ps → (∀ x ∈ ps, x.block < W.heap.size) → DataW.TrodAll enc P W' 0 (fun b => decide (b < W.heap.size)) true ts vs ds ps
  | [], [], vs, ds, ps, h, hA, hp => by
    match vs, ds, hA with
    | [], [], hA => exact hA
    | [], _ :: _, hA => simp [DataW.TrodAll] at hA
    | _ :: _, _, hA => simp [DataW.TrodAll] at hA
  | [], _ :: _, _, _, _, h, _, _ => by simp [insOk] at h
  | _ :: _, [], _, _, _, h, _, _ => by simp [insOk] at h
  | t :: ts, (ag, ty) :: r, vs, ds, ps, h, hA, hp => by
    match vs, ds, hA with
    | [], _, hA => simp [DataW.TrodAll] at hA
    | v :: vs, [], hA => simp [DataW.TrodAll] at hA
    | v :: vs, d :: ds, hA =>
      obtain ⟨p1, q1, h1, h2, rfl⟩ := hA
      simp only [insOk, Bool.and_eq_true, decide_eq_true_eq] at h
      obtain ⟨⟨⟨⟨⟨_, _⟩, _⟩, k4⟩, k5⟩, k6⟩ := h
      exact ⟨p1, q1, Below.trod hl k4 k5 h1 hb (fun x hx => hp x (by simp [hx])), args_below hl hb ts r vs ds q1 k6 h2 (fun x hx => hp x (by simp [hx])), rfl⟩

/-- A LAW's CONTRACT -/
theorem law_contract {f : FuncId} {fn : Func} {sig : Sig} {F : List D → Option (List D)} {rt : TypeId} {s : ChangeSpec} (hok : FnOk P f sig F) (hl : laidOutB P = true) (hin : insOk P fn.params.toList sig.ins = true)
    (hout : sig.outs = [(false, [(.bool, none)])]) (hres : fn.resultTypes = #[rt]) (hrt : P.underlying rt = some .bool)
    (hF : ∀ ds : List D, ds.map (·.t) = inL sig → (∀ d ∈ ds, Wf d.t d.x) → F ds = some [⟨.bool, true⟩])
    (hs : s.vars = []) (hfn : ∀ ds : List (DataW H), ds.length = fn.params.toList.length → s.fn H ds = { results := [.lit (.bool true)], args := ds })
    (base : Nat) (args : Array Value) (ds gs : List (DataW H)) (before : List MemPlace)
    (hval : ∀ (j : Nat) t v, fn.params[j]? = some t → args[j]? = some v → Value.okWide P W .any base t v)
    (hW : DataW.Whole enc P fn.params.toList s.vars false W args.toList ds gs before) :
    Calls P f args W fun e W' => ∃ v, e = .returned v ∧ s.post enc P fn false true false false W args v W' := by
  have hW' := hW
  obtain ⟨p, q, hA, hV, rfl, hfz, hnd⟩ := hW
  have hlt : ∀ x ∈ p, x.block < W.heap.size := fun x hx => hW'.lt x (by simp [hx])
  have hgs : gs = [] ∧ q = [] := by
    rw [hs] at hV
    cases gs with
    | nil => exact ⟨rfl, hV⟩
    | cons => simp [DataW.TrodVars] at hV
  obtain ⟨rfl, rfl⟩ := hgs
  have hlen : ds.length = fn.params.toList.length := by
    have : ∀ (ts : List TypeId) (vs : List Value) (ds : List (DataW H)) (ps : List MemPlace), DataW.TrodAll enc P W 0 (fun _ => true) true ts vs ds ps → ds.length = ts.length := by
      intro ts
      induction ts with
      | nil => intro vs ds ps h; cases vs <;> cases ds <;> simp_all [DataW.TrodAll]
      | cons t ts ih => 
        intro vs ds ps h
        cases vs with
        | nil => simp [DataW.TrodAll] at h
        | cons v vs =>
          cases ds with
          | nil => simp [DataW.TrodAll] at h
          | cons d ds =>
            obtain ⟨_, _, _, h2, _⟩ := h
            simp [ih _ _ _ h2]
    exact this _ _ _ _ hA
  obtain ⟨cs, dd, h1, h2, h3, h4⟩ := argsRep fn.params.toList sig.ins args.toList ds p hin hA (fun j t v ht hv => hval j t v (by simpa using ht) (by simpa using hv))
  have hcall := hok.2 W (fun b _ => b < W.heap.size) args.toList cs dd _ (fun b o h => h) h1 h2 h3 (hF dd h3 h4)
  rw [Array.toArray_toList] at hcall
  refine hcall.mono fun e W' ⟨v, he, p', us, cs', hr⟩ => ⟨v, he, ?_⟩
  obtain rfl : v = .bool true := by
    have hp := hr.parts
    rw [hout] at hp
    have hrep := hr.rep
    cases hrep with
    | cons k1 k2 =>
      cases k2
      rename_i u
      match us, hp with
      | [], hp => simp [partVals] at hp
      | u' :: us, hp =>
        simp only [List.map_cons, List.map_nil, partVals] at hp
        obtain ⟨c1, c2, e1, e2, e3, e4⟩ := hp
        rcases e3 with ⟨h, _⟩ | ⟨_, rfl⟩
        · cases h
        · match us, e4 with
          | [], e4 =>
            subst e4
            simp only [List.append_nil, List.cons.injEq, and_true] at e1
            subst e1
            have hval := hr.val
            simp only [resVal] at hval
            have k3 : Rep p' W' .bool [u] true := k1
            simp only [Rep, List.cons.injEq, and_true] at k3
            rw [hval, k3]
          | _ :: _, e4 => simp [partVals] at e4
  have hle := hfn (ds ++ []) (by simpa using hlen)
  refine ⟨ds, [], p ++ [], [], p, [], hW', ?_, ?_, ?_, hr.bel.frame _, fun h => by cases h⟩
  · rw [hle, hres]
    exact ⟨[], [], ⟨1, by simp [Value.cells, DataW.trod, hrt]⟩, rfl, rfl⟩
  · rw [hle, List.append_nil]
    exact args_below hl hr.bel _ _ _ _ _ hin hA hlt
  · rw [hle, hs]; rfl
end
end Go.Proofs.Ytdjknicjnaiomaa.Sx

/- Contracts, one upon the other; and means to say what a function's text comes to. -/
namespace Go.Proofs.Ytdjknicjnaiomaa.Sx
open Go.RowKit

structure Ct where
  sig : Sig
  F : List D → Option (List D)

noncomputable def Phi (l : List Ct) : Nat → Cont := fun id R ds κ =>
  match look (l.map fun c => (c.sig.id, c)) id with
  | some c => match c.F ds with
    | some outs => if outs.map (·.t) = (outL c.sig).map (·.1) then κ outs else none
    | none => none
  | none => none

noncomputable def Fof (l : List Ct) (ir : IR) : List D → Option (List D) := fun ds => den (Phi l) ir (List D) 0 ds some (fun _ _ => none)

noncomputable def Gam (l : List (FuncId × Sig)) : FuncId → Option Sig := fun f => look l f

section
variable {P : Program}

theorem FnOk.mono {f : FuncId} {sig : Sig} {F G : List D → Option (List D)} (h : FnOk P f sig F) (hg : ∀ ds rs, G ds = some rs → F ds = some rs) : FnOk P f sig G :=
  ⟨h.1, fun w p vs cs ds rs h1 h2 h3 h4 h5 => h.2 w p vs cs ds rs h1 h2 h3 h4 (hg _ _ h5)⟩

theorem look_map {α β : Type} (g : α → β) : ∀ (l : List (Nat × α)) (i : Nat), look (l.map fun p => (p.1, g p.2)) i = (look l i).map g
  | [], i => rfl
  | p :: l, i => by
    rw [List.map_cons, look_cons, look_cons, look_map g l i]
    split <;> rfl

/-- contracts that hold, and are told apart by their numbers -/
inductive Good (P : Program) : List (FuncId × Ct) → Prop
  | nil : Good P []
  | cons {f : FuncId} {c : Ct} {l : List (FuncId × Ct)} : FnOk P f c.sig c.F → (∀ q ∈ l, q.2.sig.id ≠ c.sig.id) → Good P l → Good P ((f, c) :: l)

theorem look_mem' {α : Type} : ∀ (l : List (Nat × α)) (i : Nat) (x : α), look l i = some x → (i, x) ∈ l
  | [], i, x, h => by cases h
  | p :: l, i, x, h => by
    rw [look_cons] at h
    split at h
    · rename_i e; simp only [Option.some.injEq] at h; subst h; subst e; simp
    · exact List.mem_cons_of_mem _ (look_mem' l i x h)

theorem Good.fn {l : List (FuncId × Ct)} (h : Good P l) : ∀ q ∈ l, FnOk P q.1 q.2.sig q.2.F := by
  induction h with
  | nil => intro q hq; cases hq
  | cons h1 _ _ ih =>
    intro q hq
    rcases List.mem_cons.1 hq with rfl | hq
    · exact h1
    · exact ih q hq

theorem Good.lk {l : List (FuncId × Ct)} (h : Good P l) : ∀ q ∈ l, look (l.map fun c => (c.2.sig.id, c.2)) q.2.sig.id = some q.2 := by
  induction h with
  | nil => intro q hq; cases hq
  | cons h1 h2 _ ih =>
    rename_i f c l
    intro q hq
    rw [List.map_cons, look_cons]
    rcases List.mem_cons.1 hq with rfl | hq
    · rw [if_pos rfl]
    · rw [if_neg (fun e => h2 q hq e.symm)]; exact ih q hq

theorem Good.ok {l : List (FuncId × Ct)} (h : Good P l) {inl : FuncId → Bool} {nop : Bool} {unr : Nat → Bool} : ΦOk ⟨P, Gam (l.map fun q => (q.1, q.2.sig)), inl, nop, unr⟩ (Phi (l.map (·.2))) := by
  intro f sig hs
  have hs' : look (l.map fun q => (q.1, q.2.sig)) f = some sig := hs
  obtain ⟨q, hq, e⟩ := List.mem_map.1 (look_mem' _ _ _ hs')
  simp only [Prod.mk.injEq] at e
  obtain ⟨rfl, rfl⟩ := e
  have hl := h.lk q hq
  have hP : ∀ (R : Type) (ds : List D) (κ : List D → Option R), Phi (l.map (·.2)) q.2.sig.id R ds κ = match q.2.F ds with
      | some outs => if outs.map (·.t) = (outL q.2.sig).map (·.1) then κ outs else none
      | none => none := by
    intro R ds κ
    unfold Phi
    rw [List.map_map]
    simp only [Function.comp_def]
    rw [hl]
  refine ⟨(h.fn q hq).mono fun ds rs hr => ?_, fun R ds κ r hr => ?_⟩
  · rw [hP] at hr
    split at hr
    · rename_i outs ho
      split at hr
      · rw [ho]; exact hr
      · cases hr
    · cases hr
  · rw [hP] at hr
    simp only [hP]
    split at hr
    · rename_i outs ho
      split at hr
      · rename_i ht
        exact ⟨outs, by rw [if_pos ht], hr, ht⟩
      · cases hr
    · cases hr

theorem ok_of (hm : P.follows .mixedOrders = true) {l : List (FuncId × Ct)} (h : Good P l) {inl : FuncId → Bool} {f : FuncId} {sig : Sig} {ir : IR} {nop : Bool} {unr : Nat → Bool}
    (hs : sx ⟨P, Gam (l.map fun q => (q.1, q.2.sig)), inl, nop, unr⟩ f sig = some ir) : FnOk P f sig (Fof (l.map (·.2)) ir) := by
  have h1 := h.ok (inl := inl) (nop := nop) (unr := unr)
  have h2 := sx_ok h1 hm hs
  unfold Fof
  exact h2

/-- a function that calls itself, so many times at the most -/
noncomputable def Frec (sig : Sig) (l : List Ct) (ir : IR) : Nat → List D → Option (List D)
  | 0 => fun _ => none
  | n + 1 => Fof (⟨sig, Frec sig l ir n⟩ :: l) ir

theorem ok_rec (hm : P.follows .mixedOrders = true) {l : List (FuncId × Ct)} (h : Good P l) {inl : FuncId → Bool} {f : FuncId} {sig : Sig} {ir : IR} (hn : ∀ q ∈ l, q.2.sig.id ≠ sig.id)
    (hb : ∃ fn c, P.funcs[f]? = some fn ∧ fn.body = some c ∧ (fn.name == "runtime.NumGoroutine") = false)
    (hs : sx ⟨P, Gam ((f, sig) :: l.map fun q => (q.1, q.2.sig)), inl, false, fun _ => false⟩ f sig = some ir) : ∀ n, FnOk P f sig (Frec sig (l.map (·.2)) ir n)
  | 0 => ⟨hb, fun w p vs cs ds rs _ _ _ _ h => by cases h⟩
  | n + 1 => by
    have h1 : Good P ((f, ⟨sig, Frec sig (l.map (·.2)) ir n⟩) :: l) := .cons (ok_rec hm h hn hb hs n) hn h
    have h2 := ok_of hm h1 (inl := inl) (sig := sig) (ir := ir) (nop := false) (unr := fun _ => false) hs
    simp only [Frec]
    exact h2

theorem FnOk.any {f : FuncId} {sig : Sig} {F : Nat → List D → Option (List D)} (h : ∀ n, FnOk P f sig (F n)) {G : List D → Option (List D)} (hg : ∀ ds rs, G ds = some rs → ∃ n, F n ds = some rs) : FnOk P f sig G :=
  ⟨(h 0).1, fun w p vs cs ds rs h1 h2 h3 h4 h5 => by
    obtain ⟨n, hn⟩ := hg _ _ h5
    exact (h n).2 w p vs cs ds rs h1 h2 h3 h4 hn⟩
end

theorem Good.add {P : Program} {f : FuncId} {c : Ct} {l : List (FuncId × Ct)} (h : FnOk P f c.sig c.F) (hn : (l.all fun q => !Nat.beq q.2.sig.id c.sig.id) = true) (hl : Good P l) : Good P ((f, c) :: l) := by
  refine .cons h (fun q hq e => ?_) hl
  have := List.all_eq_true.1 hn q hq
  rw [e] at this
  simp at this

/-! ### what a text comes to -/
theorem nth_zero {α : Type} (a : α) (l : List α) : nth (a :: l) 0 = some a := rfl
theorem nth_succ {α : Type} (a : α) (l : List α) (n : Nat) : nth (a :: l) (n + 1) = nth l n := rfl

theorem iter_meas {σ R : Type} {step : σ → Option (LS σ R)} (μ : σ → Nat) (f : σ → R) (I : σ → Prop) {s : σ} (hI : I s)
    (h : ∀ s, I s → (∃ s', step s = some (.again s') ∧ I s' ∧ μ s' < μ s ∧ f s' = f s) ∨ step s = some (.out (f s))) : iter step s = some (f s) := by
  have key : ∀ n s, μ s ≤ n → I s → iter step s = some (f s) := by
    intro n
    induction n with
    | zero =>
      intro s hs hI
      rw [iter_eq]
      rcases h s hI with ⟨s', h1, h2, h3, h4⟩ | h1
      · omega
      · rw [h1]
    | succ n ih =>
      intro s hs hI
      rw [iter_eq]
      rcases h s hI with ⟨s', h1, h2, h3, h4⟩ | h1
      · rw [h1]; simp only; rw [← h4]; exact ih s' (by omega) h2
      · rw [h1]
  exact key _ s (Nat.le_refl _) hI

theorem iter_again {σ R : Type} {step : σ → Option (LS σ R)} {s s' : σ} (h : step s = some (.again s')) : iter step s = iter step s' := by rw [iter_eq, h]
theorem iter_out {σ R : Type} {step : σ → Option (LS σ R)} {s : σ} {r : R} (h : step s = some (.out r)) : iter step s = some r := by rw [iter_eq, h]

theorem Phi_call {l : List Ct} {id : Nat} {c : Ct} (hl : look (l.map fun c => (c.sig.id, c)) id = some c) {R : Type} {ds outs : List D} {κ : List D → Option R} (hF : c.F ds = some outs)
    (ht : outs.map (·.t) = (outL c.sig).map (·.1)) : Phi l id R ds κ = κ outs := by
  unfold Phi; rw [hl]; simp only [hF, if_pos ht]
end Go.Proofs.Ytdjknicjnaiomaa.Sx

/- A text, reckoned step by step: laws for 'simp'. -/
namespace Go.Proofs.Ytdjknicjnaiomaa.Sx

/-! ### the same meaning, its variables told by their numbers -/
def lkE : List (Nat × D) → Nat → Option D
  | [], _ => none
  | (j, d) :: r, i => if j = i then some d else lkE r i
def pushL : Nat → List (Nat × D) → List D → List (Nat × D)
  | _, ρ, [] => ρ
  | n, ρ, d :: r => pushL (n + 1) ((n, d) :: ρ) r
def evC (ρ : List (Nat × D)) : A → Option D
  | .v i => lkE ρ i | .l c => some c.d
def evB (ρ : List (Nat × D)) : List A → Option (List D)
  | [] => some []
  | a :: r => match evC ρ a with
    | some d => (match evB ρ r with
      | some ds => some (d :: ds)
      | none => none)
    | none => none

noncomputable def deb (Φ : Nat → Cont) : IR → (R : Type) → Nat → Nat → List (Nat × D) → (List D → Option R) → (Nat → List D → Option R) → Option R
  | .ret outs, R, lv, n, ρ, kr, kj => match evB ρ outs with | some ds => kr ds | none => none
  | .jump l outs, R, lv, n, ρ, kr, kj => match evB ρ outs with | some ds => kj l ds | none => none
  | .op p xs k, R, lv, n, ρ, kr, kj => match evB ρ xs with
    | some ds => evalPr Φ p ds fun out => deb Φ k R lv (n + out.length) (pushL n ρ out) kr kj
    | none => none
  | .ite c a b, R, lv, n, ρ, kr, kj => match evC ρ c with
    | some ⟨.bool, x⟩ => if x = true then deb Φ a R lv n ρ kr kj else deb Φ b R lv n ρ kr kj
    | _ => none
  | .loop init tys body, R, lv, n, ρ, kr, kj => match evB ρ init with
    | some ds => match toTup tys ds with
      | some s => iter (fun s => deb Φ body (LS (pairs tys).den R) (lv + 1) (n + (split (pairs tys) s).length) (pushL n ρ (split (pairs tys) s))
          (fun ds => (kr ds).map .out)
          (fun l ds => if l = lv then (toTup tys ds).map .again else (kj l ds).map .out)) s
      | none => none
    | none => none
  | .nilc c a b, R, lv, n, ρ, kr, kj => match evC ρ c with
    | some ⟨.sl _, xs⟩ => if xs.isEmpty = true then eqO (deb Φ a R lv n ρ kr kj) (deb Φ b R lv n ρ kr kj) else deb Φ b R lv n ρ kr kj
    | _ => none
  | .fail, R, lv, n, ρ, kr, kj => none

structure EnvB (n : Nat) (ρ : List (Nat × D)) (L : List D) : Prop where
  len : n = L.length
  get : ∀ i, lkE ρ i = nth L i

theorem EnvB.push : ∀ (out : List D) {n : Nat} {ρ : List (Nat × D)} {L : List D}, EnvB n ρ L → EnvB (n + out.length) (pushL n ρ out) (L ++ out)
  | [], n, ρ, L, h => by simpa [pushL] using h
  | d :: out, n, ρ, L, h => by
    have h1 : EnvB (n + 1) ((n, d) :: ρ) (L ++ [d]) := by
      refine ⟨by simp [h.len], fun i => ?_⟩
      rw [lkE, nth_eq, h.get, nth_eq]
      split
      · rename_i e
        rw [← e, h.len, List.getElem?_append_right (Nat.le_refl _)]; simp
      · rename_i e
        rw [h.len] at e
        rw [List.getElem?_append]
        split
        · rfl
        · rw [List.getElem?_eq_none (by omega), List.getElem?_eq_none (by simp; omega)]
    have := EnvB.push out h1
    simp only [List.length_cons, pushL]
    rw [show n + (out.length + 1) = n + 1 + out.length by omega, show L ++ d :: out = L ++ [d] ++ out by simp]
    exact this

theorem EnvB.evC {n : Nat} {ρ : List (Nat × D)} {L : List D} (h : EnvB n ρ L) (a : A) : evC ρ a = a.ev L := by
  cases a with
  | v i => exact h.get i
  | l c => rfl
theorem EnvB.evB {n : Nat} {ρ : List (Nat × D)} {L : List D} (h : EnvB n ρ L) : ∀ xs : List A, evB ρ xs = evs L xs
  | [] => rfl
  | a :: r => by
    simp only [Sx.evB, evs, h.evC, h.evB r]
    rfl

theorem deb_den (Φ : Nat → Cont) : ∀ (ir : IR) (R : Type) (lv n : Nat) (ρ : List (Nat × D)) (L : List D) (kr : List D → Option R) (kj : Nat → List D → Option R), EnvB n ρ L → deb Φ ir R lv n ρ kr kj = den Φ ir R lv L kr kj
  | .ret outs, R, lv, n, ρ, L, kr, kj, h => by simp only [deb, den, h.evB]; rfl
  | .jump l outs, R, lv, n, ρ, L, kr, kj, h => by simp only [deb, den, h.evB]; rfl
  | .op p xs k, R, lv, n, ρ, L, kr, kj, h => by
    simp only [deb, den, h.evB]
    cases evs L xs with
    | none => rfl
    | some ds =>
      show evalPr Φ p ds _ = evalPr Φ p ds _
      congr 1
      funext out
      exact deb_den Φ k R lv _ _ _ kr kj (h.push out)
  | .ite c a b, R, lv, n, ρ, L, kr, kj, h => by
    simp only [deb, den, h.evC, deb_den Φ a R lv n ρ L kr kj h, deb_den Φ b R lv n ρ L kr kj h]
    rfl
  | .loop init tys body, R, lv, n, ρ, L, kr, kj, h => by
    simp only [deb, den, h.evB]
    cases evs L init with
    | none => rfl
    | some ds =>
      show (match toTup tys ds with | some s => iter _ s | none => none) = (match toTup tys ds with | some s => iter _ s | none => none)
      cases toTup tys ds with
      | none => rfl
      | some s =>
        show iter _ s = iter _ s
        congr 1
        funext s
        exact deb_den Φ body _ _ _ _ _ _ _ (h.push _)
  | .nilc c a b, R, lv, n, ρ, L, kr, kj, h => by
    simp only [deb, den, h.evC, deb_den Φ a R lv n ρ L kr kj h, deb_den Φ b R lv n ρ L kr kj h]
    rfl
  | .fail, R, lv, n, ρ, L, kr, kj, h => rfl

theorem den_start (Φ : Nat → Cont) (ir : IR) (R : Type) (L : List D) (kr : List D → Option R) (kj : Nat → List D → Option R) : den Φ ir R 0 L kr kj = deb Φ ir R 0 L.length (pushL 0 [] L) kr kj := by
  have h0 : EnvB 0 [] [] := ⟨rfl, fun i => rfl⟩
  have := h0.push L
  simp only [Nat.zero_add, List.nil_append] at this
  exact (deb_den Φ ir R 0 _ _ L kr kj this).symm

noncomputable def debP (Φ : Nat → Cont) (k : IR) (R : Type) (lv n : Nat) (ρ : List (Nat × D)) (out : List D) (kr : List D → Option R) (kj : Nat → List D → Option R) : Option R := deb Φ k R lv (n + out.length) (pushL n ρ out) kr kj
noncomputable def opD (Φ : Nat → Cont) (p : Pr) (ds : List D) (k : IR) (R : Type) (lv n : Nat) (ρ : List (Nat × D)) (kr : List D → Option R) (kj : Nat → List D → Option R) : Option R :=
  evalPr Φ p ds fun out => debP Φ k R lv n ρ out kr kj
noncomputable def opE (Φ : Nat → Cont) (p : Pr) (o : Option (List D)) (k : IR) (R : Type) (lv n : Nat) (ρ : List (Nat × D)) (kr : List D → Option R) (kj : Nat → List D → Option R) : Option R :=
  match o with | some ds => opD Φ p ds k R lv n ρ kr kj | none => none
noncomputable def nilE {R : Type} (c : Option D) (a b : Option R) : Option R := match c with | some ⟨.sl _, xs⟩ => if xs.isEmpty = true then eqO a b else b | _ => none
noncomputable def retE {R : Type} (o : Option (List D)) (kr : List D → Option R) : Option R := match o with | some ds => kr ds | none => none
noncomputable def iteE {R : Type} (c : Option D) (a b : Option R) : Option R := match c with | some ⟨.bool, x⟩ => if x = true then a else b | _ => none
noncomputable def consE (a : Option D) (b : Option (List D)) : Option (List D) := match a with | some d => (match b with | some ds => some (d :: ds) | none => none) | none => none
noncomputable def loopE {R : Type} (Φ : Nat → Cont) (o : Option (List D)) (tys : List Ty) (body : IR) (lv n : Nat) (ρ : List (Nat × D)) (kr : List D → Option R) (kj : Nat → List D → Option R) : Option R :=
  match o with
  | some ds => match toTup tys ds with
    | some s => iter (fun s => deb Φ body (LS (pairs tys).den R) (lv + 1) (n + (split (pairs tys) s).length) (pushL n ρ (split (pairs tys) s))
          (fun ds => (kr ds).map .out)
          (fun l ds => if l = lv then (toTup tys ds).map .again else (kj l ds).map .out)) s
    | none => none
  | none => none

section
variable {Φ : Nat → Cont} {R : Type} {lv n : Nat} {ρ : List (Nat × D)} {kr : List D → Option R} {kj : Nat → List D → Option R} {k : IR}

@[congr] theorem iteE_cg {c c' : Option D} {a b : Option R} (h : c = c') : iteE c a b = iteE c' a b := by rw [h]
@[congr] theorem nilE_cg {c c' : Option D} {a b : Option R} (h : c = c') : nilE c a b = nilE c' a b := by rw [h]
@[congr] theorem opE_cg {p : Pr} {o o' : Option (List D)} (h : o = o') : opE Φ p o k R lv n ρ kr kj = opE Φ p o' k R lv n ρ kr kj := by rw [h]
@[congr] theorem opD_cg {p : Pr} {ds ds' : List D} (h : ds = ds') : opD Φ p ds k R lv n ρ kr kj = opD Φ p ds' k R lv n ρ kr kj := by rw [h]
@[congr] theorem debP_cg {o o' : List D} (h : o = o') : debP Φ k R lv n ρ o kr kj = debP Φ k R lv n ρ o' kr kj := by rw [h]
@[congr] theorem retE_cg {o o' : Option (List D)} (h : o = o') : retE o kr = retE o' kr := by rw [h]
@[congr] theorem loopE_cg {o o' : Option (List D)} {tys : List Ty} {body : IR} (h : o = o') : loopE Φ o tys body lv n ρ kr kj = loopE Φ o' tys body lv n ρ kr kj := by rw [h]
theorem deb_op (p : Pr) (xs : List A) : deb Φ (.op p xs k) R lv n ρ kr kj = opE Φ p (evB ρ xs) k R lv n ρ kr kj := rfl
theorem deb_ret (xs : List A) : deb Φ (.ret xs) R lv n ρ kr kj = retE (evB ρ xs) kr := rfl
theorem deb_jump (l : Nat) (xs : List A) : deb Φ (.jump l xs) R lv n ρ kr kj = retE (evB ρ xs) (kj l) := rfl
theorem deb_itev (i : Nat) (a b : IR) : deb Φ (.ite (.v i) a b) R lv n ρ kr kj = iteE (lkE ρ i) (deb Φ a R lv n ρ kr kj) (deb Φ b R lv n ρ kr kj) := rfl
theorem deb_itel (c : L) (a b : IR) : deb Φ (.ite (.l c) a b) R lv n ρ kr kj = iteE (some c.d) (deb Φ a R lv n ρ kr kj) (deb Φ b R lv n ρ kr kj) := rfl
theorem deb_loop (init : List A) (tys : List Ty) (body : IR) : deb Φ (.loop init tys body) R lv n ρ kr kj = loopE Φ (evB ρ init) tys body lv n ρ kr kj := rfl
theorem deb_fail : deb Φ .fail R lv n ρ kr kj = none := rfl
theorem deb_nilcv (i : Nat) (a b : IR) : deb Φ (.nilc (.v i) a b) R lv n ρ kr kj = nilE (lkE ρ i) (deb Φ a R lv n ρ kr kj) (deb Φ b R lv n ρ kr kj) := rfl
theorem nilE_some (e : Ty) (xs : List e.den) (a b : Option R) : nilE (some ⟨.sl e, xs⟩) a b = if xs = [] then eqO a b else b := by
  cases xs <;> simp [nilE]
theorem opE_some (p : Pr) (ds : List D) : opE Φ p (some ds) k R lv n ρ kr kj = opD Φ p ds k R lv n ρ kr kj := rfl
theorem debP_nil : debP Φ k R lv n ρ [] kr kj = deb Φ k R lv n ρ kr kj := rfl
theorem debP_cons (d : D) (out : List D) : debP Φ k R lv n ρ (d :: out) kr kj = debP Φ k R lv (n + 1) ((n, d) :: ρ) out kr kj := by
  simp only [debP, List.length_cons, pushL, Nat.add_assoc, Nat.add_comm 1]
theorem pushL_nil : pushL n ρ [] = ρ := rfl
theorem pushL_cons (d : D) (r : List D) : pushL n ρ (d :: r) = pushL (n + 1) ((n, d) :: ρ) r := rfl
theorem retE_some (ds : List D) : retE (some ds) kr = kr ds := rfl
theorem iteE_some (x : Bool) (a b : Option R) : iteE (some ⟨.bool, x⟩) a b = if x = true then a else b := rfl
theorem evB_nil : evB ρ [] = some [] := rfl
theorem evB_v (i : Nat) (r : List A) : evB ρ (.v i :: r) = consE (lkE ρ i) (evB ρ r) := rfl
theorem evB_l (c : L) (r : List A) : evB ρ (.l c :: r) = consE (some c.d) (evB ρ r) := rfl
theorem lkE_cons (j i : Nat) (d : D) : lkE ((j, d) :: ρ) i = if j = i then some d else lkE ρ i := rfl
theorem consE_some (d : D) (ds : List D) : consE (some d) (some ds) = some (d :: ds) := rfl
theorem d_int (i : IntKind) (n : Int) : (L.int i n).d = ⟨.int i, n⟩ := rfl
theorem d_bool (b : Bool) : (L.bool b).d = ⟨.bool, b⟩ := rfl
theorem d_str (l : List Int) : (L.str l).d = ⟨.str, l⟩ := rfl
theorem d_nil (e : Ty) : (L.nil e).d = ⟨.sl e, ([] : List e.den)⟩ := rfl

variable {k1 k2 : IntKind}
theorem o_add (i : IntKind) (x y : Int) : opD Φ (.ibin .add i) [⟨.int k1, x⟩, ⟨.int k2, y⟩] k R lv n ρ kr kj = deb Φ k R lv (n + 1) ((n, ⟨.int i, i.wrap (x + y)⟩) :: ρ) kr kj := rfl
theorem o_sub (i : IntKind) (x y : Int) : opD Φ (.ibin .sub i) [⟨.int k1, x⟩, ⟨.int k2, y⟩] k R lv n ρ kr kj = deb Φ k R lv (n + 1) ((n, ⟨.int i, i.wrap (x - y)⟩) :: ρ) kr kj := rfl
theorem o_mul (i : IntKind) (x y : Int) : opD Φ (.ibin .mul i) [⟨.int k1, x⟩, ⟨.int k2, y⟩] k R lv n ρ kr kj = deb Φ k R lv (n + 1) ((n, ⟨.int i, i.wrap (x * y)⟩) :: ρ) kr kj := rfl
theorem o_and (i : IntKind) (x y : Int) : opD Φ (.ibin .and i) [⟨.int k1, x⟩, ⟨.int k2, y⟩] k R lv n ρ kr kj = deb Φ k R lv (n + 1) ((n, ⟨.int i, bAnd i x y⟩) :: ρ) kr kj := rfl
theorem o_or (i : IntKind) (x y : Int) : opD Φ (.ibin .or i) [⟨.int k1, x⟩, ⟨.int k2, y⟩] k R lv n ρ kr kj = deb Φ k R lv (n + 1) ((n, ⟨.int i, bOr i x y⟩) :: ρ) kr kj := rfl
theorem o_xor (i : IntKind) (x y : Int) : opD Φ (.ibin .xor i) [⟨.int k1, x⟩, ⟨.int k2, y⟩] k R lv n ρ kr kj = deb Φ k R lv (n + 1) ((n, ⟨.int i, bXor i x y⟩) :: ρ) kr kj := rfl
theorem o_andNot (i : IntKind) (x y : Int) : opD Φ (.ibin .andNot i) [⟨.int k1, x⟩, ⟨.int k2, y⟩] k R lv n ρ kr kj = deb Φ k R lv (n + 1) ((n, ⟨.int i, bAndNot i x y⟩) :: ρ) kr kj := rfl
theorem o_quo (i : IntKind) (x y : Int) : opD Φ (.ibin .quo i) [⟨.int k1, x⟩, ⟨.int k2, y⟩] k R lv n ρ kr kj = if y = 0 then none else deb Φ k R lv (n + 1) ((n, ⟨.int i, i.wrap (x.tdiv y)⟩) :: ρ) kr kj := rfl
theorem o_rem (i : IntKind) (x y : Int) : opD Φ (.ibin .rem i) [⟨.int k1, x⟩, ⟨.int k2, y⟩] k R lv n ρ kr kj = if y = 0 then none else deb Φ k R lv (n + 1) ((n, ⟨.int i, x.tmod y⟩) :: ρ) kr kj := rfl
theorem o_shl (i : IntKind) (x y : Int) : opD Φ (.ibin .shl i) [⟨.int k1, x⟩, ⟨.int k2, y⟩] k R lv n ρ kr kj = if y < 0 then none else deb Φ k R lv (n + 1) ((n, ⟨.int i, i.wrap (x * 2 ^ (Nat.min y.toNat i.bits))⟩) :: ρ) kr kj := rfl
theorem o_shr (i : IntKind) (x y : Int) : opD Φ (.ibin .shr i) [⟨.int k1, x⟩, ⟨.int k2, y⟩] k R lv n ρ kr kj = if y < 0 then none else deb Φ k R lv (n + 1) ((n, ⟨.int i, x.fdiv (2 ^ (Nat.min y.toNat i.bits))⟩) :: ρ) kr kj := rfl
theorem o_eql (x y : Int) : opD Φ (.icmp .eql) [⟨.int k1, x⟩, ⟨.int k2, y⟩] k R lv n ρ kr kj = deb Φ k R lv (n + 1) ((n, ⟨.bool, decide (x = y)⟩) :: ρ) kr kj := rfl
theorem o_neq (x y : Int) : opD Φ (.icmp .neq) [⟨.int k1, x⟩, ⟨.int k2, y⟩] k R lv n ρ kr kj = deb Φ k R lv (n + 1) ((n, ⟨.bool, !decide (x = y)⟩) :: ρ) kr kj := rfl
theorem o_lss (x y : Int) : opD Φ (.icmp .lss) [⟨.int k1, x⟩, ⟨.int k2, y⟩] k R lv n ρ kr kj = deb Φ k R lv (n + 1) ((n, ⟨.bool, decide (x < y)⟩) :: ρ) kr kj := rfl
theorem o_leq (x y : Int) : opD Φ (.icmp .leq) [⟨.int k1, x⟩, ⟨.int k2, y⟩] k R lv n ρ kr kj = deb Φ k R lv (n + 1) ((n, ⟨.bool, decide (x ≤ y)⟩) :: ρ) kr kj := rfl
theorem o_gtr (x y : Int) : opD Φ (.icmp .gtr) [⟨.int k1, x⟩, ⟨.int k2, y⟩] k R lv n ρ kr kj = deb Φ k R lv (n + 1) ((n, ⟨.bool, decide (y < x)⟩) :: ρ) kr kj := rfl
theorem o_geq (x y : Int) : opD Φ (.icmp .geq) [⟨.int k1, x⟩, ⟨.int k2, y⟩] k R lv n ρ kr kj = deb Φ k R lv (n + 1) ((n, ⟨.bool, decide (y ≤ x)⟩) :: ρ) kr kj := rfl
theorem o_seql (x y : List Int) : opD Φ (.scmp .eql) [⟨.str, x⟩, ⟨.str, y⟩] k R lv n ρ kr kj = deb Φ k R lv (n + 1) ((n, ⟨.bool, decide (x = y)⟩) :: ρ) kr kj := rfl
theorem o_sneq (x y : List Int) : opD Φ (.scmp .neq) [⟨.str, x⟩, ⟨.str, y⟩] k R lv n ρ kr kj = deb Φ k R lv (n + 1) ((n, ⟨.bool, !decide (x = y)⟩) :: ρ) kr kj := rfl
theorem o_slss (x y : List Int) : opD Φ (.scmp .lss) [⟨.str, x⟩, ⟨.str, y⟩] k R lv n ρ kr kj = deb Φ k R lv (n + 1) ((n, ⟨.bool, ltL x y⟩) :: ρ) kr kj := rfl
theorem o_sleq (x y : List Int) : opD Φ (.scmp .leq) [⟨.str, x⟩, ⟨.str, y⟩] k R lv n ρ kr kj = deb Φ k R lv (n + 1) ((n, ⟨.bool, ltL x y || decide (x = y)⟩) :: ρ) kr kj := rfl
theorem o_sgtr (x y : List Int) : opD Φ (.scmp .gtr) [⟨.str, x⟩, ⟨.str, y⟩] k R lv n ρ kr kj = deb Φ k R lv (n + 1) ((n, ⟨.bool, !(ltL x y || decide (x = y))⟩) :: ρ) kr kj := rfl
theorem o_sgeq (x y : List Int) : opD Φ (.scmp .geq) [⟨.str, x⟩, ⟨.str, y⟩] k R lv n ρ kr kj = deb Φ k R lv (n + 1) ((n, ⟨.bool, !ltL x y⟩) :: ρ) kr kj := rfl
theorem o_beql (x y : Bool) : opD Φ (.bcmp .eql) [⟨.bool, x⟩, ⟨.bool, y⟩] k R lv n ρ kr kj = deb Φ k R lv (n + 1) ((n, ⟨.bool, x == y⟩) :: ρ) kr kj := rfl
theorem o_bneq (x y : Bool) : opD Φ (.bcmp .neq) [⟨.bool, x⟩, ⟨.bool, y⟩] k R lv n ρ kr kj = deb Φ k R lv (n + 1) ((n, ⟨.bool, !(x == y)⟩) :: ρ) kr kj := rfl
theorem o_scat (x y : List Int) : opD Φ .scat [⟨.str, x⟩, ⟨.str, y⟩] k R lv n ρ kr kj = if x.length + y.length ≤ BIG then deb Φ k R lv (n + 1) ((n, ⟨.str, x ++ y⟩) :: ρ) kr kj else none := rfl
theorem o_not (x : Bool) : opD Φ .not [⟨.bool, x⟩] k R lv n ρ kr kj = deb Φ k R lv (n + 1) ((n, ⟨.bool, !x⟩) :: ρ) kr kj := rfl
theorem o_neg (i : IntKind) (x : Int) : opD Φ (.neg i) [⟨.int k1, x⟩] k R lv n ρ kr kj = deb Φ k R lv (n + 1) ((n, ⟨.int i, i.wrap (0 - x)⟩) :: ρ) kr kj := rfl
theorem o_com (i : IntKind) (x : Int) : opD Φ (.com i) [⟨.int k1, x⟩] k R lv n ρ kr kj = deb Φ k R lv (n + 1) ((n, ⟨.int i, bXor i (if i.signed then -1 else i.max) x⟩) :: ρ) kr kj := rfl
theorem o_conv (i : IntKind) (x : Int) : opD Φ (.conv i) [⟨.int k1, x⟩] k R lv n ρ kr kj = deb Φ k R lv (n + 1) ((n, ⟨.int i, i.wrap x⟩) :: ρ) kr kj := rfl
theorem o_s2b (x : List Int) : opD Φ .s2b [⟨.str, x⟩] k R lv n ρ kr kj = deb Φ k R lv (n + 1) ((n, ⟨.sl (.int .u8), x⟩) :: ρ) kr kj := rfl
theorem o_b2s (x : List Int) : opD Φ .b2s [⟨.sl (.int .u8), x⟩] k R lv n ρ kr kj = deb Φ k R lv (n + 1) ((n, ⟨.str, x⟩) :: ρ) kr kj := rfl
theorem o_len (e : Ty) (xs : List e.den) : opD Φ .len [⟨.sl e, xs⟩] k R lv n ρ kr kj = deb Φ k R lv (n + 1) ((n, ⟨.int .i64, (xs.length : Int)⟩) :: ρ) kr kj := rfl
theorem o_slen (xs : List Int) : opD Φ .len [⟨.str, xs⟩] k R lv n ρ kr kj = deb Φ k R lv (n + 1) ((n, ⟨.int .i64, (xs.length : Int)⟩) :: ρ) kr kj := rfl
theorem o_inb (e : Ty) (xs : List e.den) (i : Int) : opD Φ .inb [⟨.sl e, xs⟩, ⟨.int k1, i⟩] k R lv n ρ kr kj = if 0 ≤ i ∧ i < (xs.length : Int) then deb Φ k R lv n ρ kr kj else none := rfl
theorem o_idx (e : Ty) (xs : List e.den) (i : Int) : opD Φ (.idx e) [⟨.sl e, xs⟩, ⟨.int k1, i⟩] k R lv n ρ kr kj = debP Φ k R lv n ρ (split e (xs.getD i.toNat (dflt e))) kr kj := by
  simp [opD, evalPr]
theorem o_sidx (xs : List Int) (i : Int) : opD Φ .sidx [⟨.str, xs⟩, ⟨.int k1, i⟩] k R lv n ρ kr kj = if 0 ≤ i ∧ i < (xs.length : Int) then deb Φ k R lv (n + 1) ((n, ⟨.int .u8, xs.getD i.toNat 0⟩) :: ρ) kr kj else none := rfl
theorem o_sub3 (e : Ty) (xs : List e.den) (lo hi : Int) : opD Φ .sub [⟨.sl e, xs⟩, ⟨.int k1, lo⟩, ⟨.int k2, hi⟩] k R lv n ρ kr kj =
    if 0 ≤ lo ∧ lo ≤ hi ∧ hi ≤ (xs.length : Int) then deb Φ k R lv (n + 1) ((n, ⟨.sl e, (xs.take hi.toNat).drop lo.toNat⟩) :: ρ) kr kj else none := rfl
theorem o_sub2 (e : Ty) (xs : List e.den) (lo : Int) : opD Φ .sub [⟨.sl e, xs⟩, ⟨.int k1, lo⟩] k R lv n ρ kr kj =
    if 0 ≤ lo ∧ lo ≤ (xs.length : Int) then deb Φ k R lv (n + 1) ((n, ⟨.sl e, xs.drop lo.toNat⟩) :: ρ) kr kj else none := rfl
theorem o_ssub3 (xs : List Int) (lo hi : Int) : opD Φ .ssub [⟨.str, xs⟩, ⟨.int k1, lo⟩, ⟨.int k2, hi⟩] k R lv n ρ kr kj =
    if 0 ≤ lo ∧ lo ≤ hi ∧ hi ≤ (xs.length : Int) then deb Φ k R lv (n + 1) ((n, ⟨.str, (xs.take hi.toNat).drop lo.toNat⟩) :: ρ) kr kj else none := rfl
theorem o_ssub2 (xs : List Int) (lo : Int) : opD Φ .ssub [⟨.str, xs⟩, ⟨.int k1, lo⟩] k R lv n ρ kr kj =
    if 0 ≤ lo ∧ lo ≤ (xs.length : Int) then deb Φ k R lv (n + 1) ((n, ⟨.str, xs.drop lo.toNat⟩) :: ρ) kr kj else none := rfl
theorem o_app (e : Ty) (xs ys : List e.den) : opD Φ .app [⟨.sl e, xs⟩, ⟨.sl e, ys⟩] k R lv n ρ kr kj =
    if xs.length + ys.length ≤ BIG then deb Φ k R lv (n + 1) ((n, ⟨.sl e, xs ++ ys⟩) :: ρ) kr kj else none := by
  simp only [opD, evalPr, D.get, dif_pos]
  rfl
theorem o_apps (xs ys : List Int) : opD Φ .apps [⟨.sl (.int .u8), xs⟩, ⟨.str, ys⟩] k R lv n ρ kr kj =
    if xs.length + ys.length ≤ BIG then deb Φ k R lv (n + 1) ((n, ⟨.sl (.int .u8), xs ++ ys⟩) :: ρ) kr kj else none := rfl
def mkD (e : Ty) (n : Nat) (ds : List D) : Option D := (mkRows e n ds).map (D.mk (.sl e))
noncomputable def mkE (Φ : Nat → Cont) (o : Option D) (k : IR) (R : Type) (lv n : Nat) (ρ : List (Nat × D)) (kr : List D → Option R) (kj : Nat → List D → Option R) : Option R :=
  match o with | some d => deb Φ k R lv (n + 1) ((n, d) :: ρ) kr kj | none => none
theorem o_mk (e : Ty) (m : Nat) (ds : List D) : opD Φ (.mk e m) ds k R lv n ρ kr kj = mkE Φ (mkD e m ds) k R lv n ρ kr kj := by
  simp only [opD, evalPr, mkE, mkD]
  cases mkRows e m ds <;> rfl
@[congr] theorem mkE_cg {o o' : Option D} (h : o = o') : mkE Φ o k R lv n ρ kr kj = mkE Φ o' k R lv n ρ kr kj := by rw [h]
theorem mkE_some (d : D) : mkE Φ (some d) k R lv n ρ kr kj = deb Φ k R lv (n + 1) ((n, d) :: ρ) kr kj := rfl
def consD (e : Ty) (x : e.den) (o : Option D) : Option D := match o with
  | some d => (d.get (.sl e)).map fun xs => ⟨.sl e, x :: xs⟩
  | none => none
theorem consD_some (e : Ty) (x : e.den) (xs : List e.den) : consD e x (some ⟨.sl e, xs⟩) = some ⟨.sl e, x :: xs⟩ := by simp [consD, D.get]
theorem mkD_zero (e : Ty) : mkD e 0 [] = some ⟨.sl e, ([] : List e.den)⟩ := rfl
theorem mkD_int (i : IntKind) (n : Nat) (x : Int) (r : List D) : mkD (.int i) (n + 1) (⟨.int i, x⟩ :: r) = consD (.int i) x (mkD (.int i) n r) := by
  simp only [mkD, mkRows, join, join1, D.get, dif_pos]
  cases mkRows (.int i) n r <;> simp [consD, D.get]
theorem mkD_str (n : Nat) (x : List Int) (r : List D) : mkD .str (n + 1) (⟨.str, x⟩ :: r) = consD .str x (mkD .str n r) := by
  simp only [mkD, mkRows, join, join1, D.get, dif_pos]
  cases mkRows .str n r <;> simp [consD, D.get]
theorem mkD_sl (e : Ty) (n : Nat) (x : List e.den) (r : List D) : mkD (.sl e) (n + 1) (⟨.sl e, x⟩ :: r) = consD (.sl e) x (mkD (.sl e) n r) := by
  simp only [mkD, mkRows, join, join1, D.get, dif_pos]
  cases mkRows (.sl e) n r <;> simp [consD, D.get]
theorem o_imin (x y : Int) : opD Φ .min [⟨.int k1, x⟩, ⟨.int k2, y⟩] k R lv n ρ kr kj = deb Φ k R lv (n + 1) ((n, ⟨.int k1, if y < x then y else x⟩) :: ρ) kr kj := rfl
theorem o_imax (x y : Int) : opD Φ .max [⟨.int k1, x⟩, ⟨.int k2, y⟩] k R lv n ρ kr kj = deb Φ k R lv (n + 1) ((n, ⟨.int k1, if x < y then y else x⟩) :: ρ) kr kj := rfl
theorem o_smin (x y : List Int) : opD Φ .min [⟨.str, x⟩, ⟨.str, y⟩] k R lv n ρ kr kj = deb Φ k R lv (n + 1) ((n, ⟨.str, if (ltL x y || decide (x = y)) = true then x else y⟩) :: ρ) kr kj := rfl
theorem o_smax (x y : List Int) : opD Φ .max [⟨.str, x⟩, ⟨.str, y⟩] k R lv n ρ kr kj = deb Φ k R lv (n + 1) ((n, ⟨.str, if ltL x y = true then y else x⟩) :: ρ) kr kj := rfl
noncomputable def eqsE (Φ : Nat → Cont) (neg : Bool) (o : Option Bool) (k : IR) (R : Type) (lv n : Nat) (ρ : List (Nat × D)) (kr : List D → Option R) (kj : Nat → List D → Option R) : Option R :=
  match o with | some b => deb Φ k R lv (n + 1) ((n, ⟨.bool, if neg then !b else b⟩) :: ρ) kr kj | none => none
theorem o_eqs (neg : Bool) (m : Nat) (ds : List D) : opD Φ (.eqs neg m) ds k R lv n ρ kr kj = eqsE Φ neg (eqCells (ds.take m) (ds.drop m)) k R lv n ρ kr kj := rfl
@[congr] theorem eqsE_cg {neg : Bool} {o o' : Option Bool} (h : o = o') : eqsE Φ neg o k R lv n ρ kr kj = eqsE Φ neg o' k R lv n ρ kr kj := by rw [h]
theorem eqsE_some (neg b : Bool) : eqsE Φ neg (some b) k R lv n ρ kr kj = deb Φ k R lv (n + 1) ((n, ⟨.bool, if neg then !b else b⟩) :: ρ) kr kj := rfl
theorem eqC_nil : eqCells [] [] = some true := rfl
noncomputable def andE (b : Bool) (o : Option Bool) : Option Bool := match o with | some c => some (b && c) | none => none
theorem andE_some (b c : Bool) : andE b (some c) = some (b && c) := rfl
theorem eqC_int (x y : Int) (r s : List D) : eqCells (⟨.int k1, x⟩ :: r) (⟨.int k2, y⟩ :: s) = andE (decide (x = y)) (eqCells r s) := rfl
theorem eqC_bool (x y : Bool) (r s : List D) : eqCells (⟨.bool, x⟩ :: r) (⟨.bool, y⟩ :: s) = andE (x == y) (eqCells r s) := rfl
theorem eqC_str (x y : List Int) (r s : List D) : eqCells (⟨.str, x⟩ :: r) (⟨.str, y⟩ :: s) = andE (decide (x = y)) (eqCells r s) := rfl
theorem j1 (t : Ty) (x : t.den) (l : List D) : join1 t (⟨t, x⟩ :: l) = some (x, l) := by simp [join1, D.get]
def Ty.single : Ty → Bool
  | .unit => false | .pair _ _ => false | _ => true
class Sg (t : Ty) : Prop where
  h : t.single = true
instance (i : IntKind) : Sg (.int i) := ⟨rfl⟩
instance : Sg .bool := ⟨rfl⟩
instance : Sg .str := ⟨rfl⟩
instance (e : Ty) : Sg (.sl e) := ⟨rfl⟩
theorem join_sg {t : Ty} (h : t.single = true) (x : t.den) (l : List D) : join t (⟨t, x⟩ :: l) = some (x, l) := by
  cases t <;> simp [Ty.single] at h <;> simp [join, join1, D.get]
theorem split_sg {t : Ty} (h : t.single = true) (x : t.den) : split t x = [⟨t, x⟩] := by
  cases t <;> simp [Ty.single] at h <;> rfl
noncomputable def agE (R : Type) (tys : List Ty) (ds : List D) : Option (LS (pairs tys).den R) := (toTup tys ds).map .again
noncomputable def outE {S R : Type} (o : Option R) : Option (LS S R) := o.map .out
theorem outE_some {S R : Type} (r : R) : outE (S := S) (some r) = some (.out r) := rfl
theorem outE_none {S R : Type} : outE (S := S) (none : Option R) = none := rfl
theorem outE_ite {S R : Type} (c : Prop) [Decidable c] (a b : Option R) : outE (S := S) (if c then a else b) = if c then outE a else outE b := by split <;> rfl
theorem agE_1 {t0 : Ty} [h0 : Sg t0] (x0 : t0.den) : agE R [t0] [⟨t0, x0⟩] = (some (.again x0) : Option (LS t0.den R)) := by
  simp [agE, toTup, pairs, join, join_sg h0.h]
theorem loopE_1 {t0 : Ty} [h0 : Sg t0] (x0 : t0.den) (body : IR) : loopE Φ (some [⟨t0, x0⟩]) [t0] body lv n ρ kr kj =
    iter (fun s : t0.den => deb Φ body (LS t0.den R) (lv + 1) (n + 1) ((n, ⟨t0, s⟩) :: ρ) (fun ds => outE (kr ds)) (fun l ds => if l = lv then agE R [t0] ds else outE (kj l ds))) x0 := by
  simp only [loopE, toTup, pairs, join, join_sg h0.h, split, split_sg h0.h]
  rfl
theorem agE_2 {t0 t1 : Ty} [h0 : Sg t0] [h1 : Sg t1] (x0 : t0.den) (x1 : t1.den) : agE R [t0, t1] [⟨t0, x0⟩, ⟨t1, x1⟩] = (some (.again (x0, x1)) : Option (LS (t0.den × t1.den) R)) := by
  simp [agE, toTup, pairs, join, join_sg h0.h, join_sg h1.h]
theorem loopE_2 {t0 t1 : Ty} [h0 : Sg t0] [h1 : Sg t1] (x0 : t0.den) (x1 : t1.den) (body : IR) : loopE Φ (some [⟨t0, x0⟩, ⟨t1, x1⟩]) [t0, t1] body lv n ρ kr kj =
    iter (fun s : (t0.den × t1.den) => deb Φ body (LS (t0.den × t1.den) R) (lv + 1) (n + 2) ((n + 1, ⟨t1, s.2⟩) :: (n, ⟨t0, s.1⟩) :: ρ) (fun ds => outE (kr ds)) (fun l ds => if l = lv then agE R [t0, t1] ds else outE (kj l ds))) (x0, x1) := by
  simp only [loopE, toTup, pairs, join, join_sg h0.h, join_sg h1.h, split, split_sg h0.h, split_sg h1.h]
  rfl
theorem agE_3 {t0 t1 t2 : Ty} [h0 : Sg t0] [h1 : Sg t1] [h2 : Sg t2] (x0 : t0.den) (x1 : t1.den) (x2 : t2.den) : agE R [t0, t1, t2] [⟨t0, x0⟩, ⟨t1, x1⟩, ⟨t2, x2⟩] = (some (.again (x0, x1, x2)) : Option (LS (t0.den × t1.den × t2.den) R)) := by
  simp [agE, toTup, pairs, join, join_sg h0.h, join_sg h1.h, join_sg h2.h]
theorem loopE_3 {t0 t1 t2 : Ty} [h0 : Sg t0] [h1 : Sg t1] [h2 : Sg t2] (x0 : t0.den) (x1 : t1.den) (x2 : t2.den) (body : IR) : loopE Φ (some [⟨t0, x0⟩, ⟨t1, x1⟩, ⟨t2, x2⟩]) [t0, t1, t2] body lv n ρ kr kj =
    iter (fun s : (t0.den × t1.den × t2.den) => deb Φ body (LS (t0.den × t1.den × t2.den) R) (lv + 1) (n + 3) ((n + 2, ⟨t2, s.2.2⟩) :: (n + 1, ⟨t1, s.2.1⟩) :: (n, ⟨t0, s.1⟩) :: ρ) (fun ds => outE (kr ds)) (fun l ds => if l = lv then agE R [t0, t1, t2] ds else outE (kj l ds))) (x0, x1, x2) := by
  simp only [loopE, toTup, pairs, join, join_sg h0.h, join_sg h1.h, join_sg h2.h, split, split_sg h0.h, split_sg h1.h, split_sg h2.h]
  rfl
theorem agE_4 {t0 t1 t2 t3 : Ty} [h0 : Sg t0] [h1 : Sg t1] [h2 : Sg t2] [h3 : Sg t3] (x0 : t0.den) (x1 : t1.den) (x2 : t2.den) (x3 : t3.den) : agE R [t0, t1, t2, t3] [⟨t0, x0⟩, ⟨t1, x1⟩, ⟨t2, x2⟩, ⟨t3, x3⟩] = (some (.again (x0, x1, x2, x3)) : Option (LS (t0.den × t1.den × t2.den × t3.den) R)) := by
  simp [agE, toTup, pairs, join, join_sg h0.h, join_sg h1.h, join_sg h2.h, join_sg h3.h]
theorem loopE_4 {t0 t1 t2 t3 : Ty} [h0 : Sg t0] [h1 : Sg t1] [h2 : Sg t2] [h3 : Sg t3] (x0 : t0.den) (x1 : t1.den) (x2 : t2.den) (x3 : t3.den) (body : IR) : loopE Φ (some [⟨t0, x0⟩, ⟨t1, x1⟩, ⟨t2, x2⟩, ⟨t3, x3⟩]) [t0, t1, t2, t3] body lv n ρ kr kj =
    iter (fun s : (t0.den × t1.den × t2.den × t3.den) => deb Φ body (LS (t0.den × t1.den × t2.den × t3.den) R) (lv + 1) (n + 4) ((n + 3, ⟨t3, s.2.2.2⟩) :: (n + 2, ⟨t2, s.2.2.1⟩) :: (n + 1, ⟨t1, s.2.1⟩) :: (n, ⟨t0, s.1⟩) :: ρ) (fun ds => outE (kr ds)) (fun l ds => if l = lv then agE R [t0, t1, t2, t3] ds else outE (kj l ds))) (x0, x1, x2, x3) := by
  simp only [loopE, toTup, pairs, join, join_sg h0.h, join_sg h1.h, join_sg h2.h, join_sg h3.h, split, split_sg h0.h, split_sg h1.h, split_sg h2.h, split_sg h3.h]
  rfl
theorem agE_5 {t0 t1 t2 t3 t4 : Ty} [h0 : Sg t0] [h1 : Sg t1] [h2 : Sg t2] [h3 : Sg t3] [h4 : Sg t4] (x0 : t0.den) (x1 : t1.den) (x2 : t2.den) (x3 : t3.den) (x4 : t4.den) : agE R [t0, t1, t2, t3, t4] [⟨t0, x0⟩, ⟨t1, x1⟩, ⟨t2, x2⟩, ⟨t3, x3⟩, ⟨t4, x4⟩] = (some (.again (x0, x1, x2, x3, x4)) : Option (LS (t0.den × t1.den × t2.den × t3.den × t4.den) R)) := by
  simp [agE, toTup, pairs, join, join_sg h0.h, join_sg h1.h, join_sg h2.h, join_sg h3.h, join_sg h4.h]
theorem loopE_5 {t0 t1 t2 t3 t4 : Ty} [h0 : Sg t0] [h1 : Sg t1] [h2 : Sg t2] [h3 : Sg t3] [h4 : Sg t4] (x0 : t0.den) (x1 : t1.den) (x2 : t2.den) (x3 : t3.den) (x4 : t4.den) (body : IR) : loopE Φ (some [⟨t0, x0⟩, ⟨t1, x1⟩, ⟨t2, x2⟩, ⟨t3, x3⟩, ⟨t4, x4⟩]) [t0, t1, t2, t3, t4] body lv n ρ kr kj =
    iter (fun s : (t0.den × t1.den × t2.den × t3.den × t4.den) => deb Φ body (LS (t0.den × t1.den × t2.den × t3.den × t4.den) R) (lv + 1) (n + 5) ((n + 4, ⟨t4, s.2.2.2.2⟩) :: (n + 3, ⟨t3, s.2.2.2.1⟩) :: (n + 2, ⟨t2, s.2.2.1⟩) :: (n + 1, ⟨t1, s.2.1⟩) :: (n, ⟨t0, s.1⟩) :: ρ) (fun ds => outE (kr ds)) (fun l ds => if l = lv then agE R [t0, t1, t2, t3, t4] ds else outE (kj l ds))) (x0, x1, x2, x3, x4) := by
  simp only [loopE, toTup, pairs, join, join_sg h0.h, join_sg h1.h, join_sg h2.h, join_sg h3.h, join_sg h4.h, split, split_sg h0.h, split_sg h1.h, split_sg h2.h, split_sg h3.h, split_sg h4.h]
  rfl
theorem agE_6 {t0 t1 t2 t3 t4 t5 : Ty} [h0 : Sg t0] [h1 : Sg t1] [h2 : Sg t2] [h3 : Sg t3] [h4 : Sg t4] [h5 : Sg t5] (x0 : t0.den) (x1 : t1.den) (x2 : t2.den) (x3 : t3.den) (x4 : t4.den) (x5 : t5.den) : agE R [t0, t1, t2, t3, t4, t5] [⟨t0, x0⟩, ⟨t1, x1⟩, ⟨t2, x2⟩, ⟨t3, x3⟩, ⟨t4, x4⟩, ⟨t5, x5⟩] = (some (.again (x0, x1, x2, x3, x4, x5)) : Option (LS (t0.den × t1.den × t2.den × t3.den × t4.den × t5.den) R)) := by
  simp [agE, toTup, pairs, join, join_sg h0.h, join_sg h1.h, join_sg h2.h, join_sg h3.h, join_sg h4.h, join_sg h5.h]
theorem loopE_6 {t0 t1 t2 t3 t4 t5 : Ty} [h0 : Sg t0] [h1 : Sg t1] [h2 : Sg t2] [h3 : Sg t3] [h4 : Sg t4] [h5 : Sg t5] (x0 : t0.den) (x1 : t1.den) (x2 : t2.den) (x3 : t3.den) (x4 : t4.den) (x5 : t5.den) (body : IR) : loopE Φ (some [⟨t0, x0⟩, ⟨t1, x1⟩, ⟨t2, x2⟩, ⟨t3, x3⟩, ⟨t4, x4⟩, ⟨t5, x5⟩]) [t0, t1, t2, t3, t4, t5] body lv n ρ kr kj =
    iter (fun s : (t0.den × t1.den × t2.den × t3.den × t4.den × t5.den) => deb Φ body (LS (t0.den × t1.den × t2.den × t3.den × t4.den × t5.den) R) (lv + 1) (n + 6) ((n + 5, ⟨t5, s.2.2.2.2.2⟩) :: (n + 4, ⟨t4, s.2.2.2.2.1⟩) :: (n + 3, ⟨t3, s.2.2.2.1⟩) :: (n + 2, ⟨t2, s.2.2.1⟩) :: (n + 1, ⟨t1, s.2.1⟩) :: (n, ⟨t0, s.1⟩) :: ρ) (fun ds => outE (kr ds)) (fun l ds => if l = lv then agE R [t0, t1, t2, t3, t4, t5] ds else outE (kj l ds))) (x0, x1, x2, x3, x4, x5) := by
  simp only [loopE, toTup, pairs, join, join_sg h0.h, join_sg h1.h, join_sg h2.h, join_sg h3.h, join_sg h4.h, join_sg h5.h, split, split_sg h0.h, split_sg h1.h, split_sg h2.h, split_sg h3.h, split_sg h4.h, split_sg h5.h]
  rfl
theorem agE_7 {t0 t1 t2 t3 t4 t5 t6 : Ty} [h0 : Sg t0] [h1 : Sg t1] [h2 : Sg t2] [h3 : Sg t3] [h4 : Sg t4] [h5 : Sg t5] [h6 : Sg t6] (x0 : t0.den) (x1 : t1.den) (x2 : t2.den) (x3 : t3.den) (x4 : t4.den) (x5 : t5.den) (x6 : t6.den) : agE R [t0, t1, t2, t3, t4, t5, t6] [⟨t0, x0⟩, ⟨t1, x1⟩, ⟨t2, x2⟩, ⟨t3, x3⟩, ⟨t4, x4⟩, ⟨t5, x5⟩, ⟨t6, x6⟩] = (some (.again (x0, x1, x2, x3, x4, x5, x6)) : Option (LS (t0.den × t1.den × t2.den × t3.den × t4.den × t5.den × t6.den) R)) := by
  simp [agE, toTup, pairs, join, join_sg h0.h, join_sg h1.h, join_sg h2.h, join_sg h3.h, join_sg h4.h, join_sg h5.h, join_sg h6.h]
theorem loopE_7 {t0 t1 t2 t3 t4 t5 t6 : Ty} [h0 : Sg t0] [h1 : Sg t1] [h2 : Sg t2] [h3 : Sg t3] [h4 : Sg t4] [h5 : Sg t5] [h6 : Sg t6] (x0 : t0.den) (x1 : t1.den) (x2 : t2.den) (x3 : t3.den) (x4 : t4.den) (x5 : t5.den) (x6 : t6.den) (body : IR) : loopE Φ (some [⟨t0, x0⟩, ⟨t1, x1⟩, ⟨t2, x2⟩, ⟨t3, x3⟩, ⟨t4, x4⟩, ⟨t5, x5⟩, ⟨t6, x6⟩]) [t0, t1, t2, t3, t4, t5, t6] body lv n ρ kr kj =
    iter (fun s : (t0.den × t1.den × t2.den × t3.den × t4.den × t5.den × t6.den) => deb Φ body (LS (t0.den × t1.den × t2.den × t3.den × t4.den × t5.den × t6.den) R) (lv + 1) (n + 7) ((n + 6, ⟨t6, s.2.2.2.2.2.2⟩) :: (n + 5, ⟨t5, s.2.2.2.2.2.1⟩) :: (n + 4, ⟨t4, s.2.2.2.2.1⟩) :: (n + 3, ⟨t3, s.2.2.2.1⟩) :: (n + 2, ⟨t2, s.2.2.1⟩) :: (n + 1, ⟨t1, s.2.1⟩) :: (n, ⟨t0, s.1⟩) :: ρ) (fun ds => outE (kr ds)) (fun l ds => if l = lv then agE R [t0, t1, t2, t3, t4, t5, t6] ds else outE (kj l ds))) (x0, x1, x2, x3, x4, x5, x6) := by
  simp only [loopE, toTup, pairs, join, join_sg h0.h, join_sg h1.h, join_sg h2.h, join_sg h3.h, join_sg h4.h, join_sg h5.h, join_sg h6.h, split, split_sg h0.h, split_sg h1.h, split_sg h2.h, split_sg h3.h, split_sg h4.h, split_sg h5.h, split_sg h6.h]
  rfl
theorem agE_8 {t0 t1 t2 t3 t4 t5 t6 t7 : Ty} [h0 : Sg t0] [h1 : Sg t1] [h2 : Sg t2] [h3 : Sg t3] [h4 : Sg t4] [h5 : Sg t5] [h6 : Sg t6] [h7 : Sg t7] (x0 : t0.den) (x1 : t1.den) (x2 : t2.den) (x3 : t3.den) (x4 : t4.den) (x5 : t5.den) (x6 : t6.den) (x7 : t7.den) : agE R [t0, t1, t2, t3, t4, t5, t6, t7] [⟨t0, x0⟩, ⟨t1, x1⟩, ⟨t2, x2⟩, ⟨t3, x3⟩, ⟨t4, x4⟩, ⟨t5, x5⟩, ⟨t6, x6⟩, ⟨t7, x7⟩] = (some (.again (x0, x1, x2, x3, x4, x5, x6, x7)) : Option (LS (t0.den × t1.den × t2.den × t3.den × t4.den × t5.den × t6.den × t7.den) R)) := by
  simp [agE, toTup, pairs, join, join_sg h0.h, join_sg h1.h, join_sg h2.h, join_sg h3.h, join_sg h4.h, join_sg h5.h, join_sg h6.h, join_sg h7.h]
theorem loopE_8 {t0 t1 t2 t3 t4 t5 t6 t7 : Ty} [h0 : Sg t0] [h1 : Sg t1] [h2 : Sg t2] [h3 : Sg t3] [h4 : Sg t4] [h5 : Sg t5] [h6 : Sg t6] [h7 : Sg t7] (x0 : t0.den) (x1 : t1.den) (x2 : t2.den) (x3 : t3.den) (x4 : t4.den) (x5 : t5.den) (x6 : t6.den) (x7 : t7.den) (body : IR) : loopE Φ (some [⟨t0, x0⟩, ⟨t1, x1⟩, ⟨t2, x2⟩, ⟨t3, x3⟩, ⟨t4, x4⟩, ⟨t5, x5⟩, ⟨t6, x6⟩, ⟨t7, x7⟩]) [t0, t1, t2, t3, t4, t5, t6, t7] body lv n ρ kr kj =
    iter (fun s : (t0.den × t1.den × t2.den × t3.den × t4.den × t5.den × t6.den × t7.den) => deb Φ body (LS (t0.den × t1.den × t2.den × t3.den × t4.den × t5.den × t6.den × t7.den) R) (lv + 1) (n + 8) ((n + 7, ⟨t7, s.2.2.2.2.2.2.2⟩) :: (n + 6, ⟨t6, s.2.2.2.2.2.2.1⟩) :: (n + 5, ⟨t5, s.2.2.2.2.2.1⟩) :: (n + 4, ⟨t4, s.2.2.2.2.1⟩) :: (n + 3, ⟨t3, s.2.2.2.1⟩) :: (n + 2, ⟨t2, s.2.2.1⟩) :: (n + 1, ⟨t1, s.2.1⟩) :: (n, ⟨t0, s.1⟩) :: ρ) (fun ds => outE (kr ds)) (fun l ds => if l = lv then agE R [t0, t1, t2, t3, t4, t5, t6, t7] ds else outE (kj l ds))) (x0, x1, x2, x3, x4, x5, x6, x7) := by
  simp only [loopE, toTup, pairs, join, join_sg h0.h, join_sg h1.h, join_sg h2.h, join_sg h3.h, join_sg h4.h, join_sg h5.h, join_sg h6.h, join_sg h7.h, split, split_sg h0.h, split_sg h1.h, split_sg h2.h, split_sg h3.h, split_sg h4.h, split_sg h5.h, split_sg h6.h, split_sg h7.h]
  rfl
theorem agE_9 {t0 t1 t2 t3 t4 t5 t6 t7 t8 : Ty} [h0 : Sg t0] [h1 : Sg t1] [h2 : Sg t2] [h3 : Sg t3] [h4 : Sg t4] [h5 : Sg t5] [h6 : Sg t6] [h7 : Sg t7] [h8 : Sg t8] (x0 : t0.den) (x1 : t1.den) (x2 : t2.den) (x3 : t3.den) (x4 : t4.den) (x5 : t5.den) (x6 : t6.den) (x7 : t7.den) (x8 : t8.den) : agE R [t0, t1, t2, t3, t4, t5, t6, t7, t8] [⟨t0, x0⟩, ⟨t1, x1⟩, ⟨t2, x2⟩, ⟨t3, x3⟩, ⟨t4, x4⟩, ⟨t5, x5⟩, ⟨t6, x6⟩, ⟨t7, x7⟩, ⟨t8, x8⟩] = (some (.again (x0, x1, x2, x3, x4, x5, x6, x7, x8)) : Option (LS (t0.den × t1.den × t2.den × t3.den × t4.den × t5.den × t6.den × t7.den × t8.den) R)) := by
  simp [agE, toTup, pairs, join, join_sg h0.h, join_sg h1.h, join_sg h2.h, join_sg h3.h, join_sg h4.h, join_sg h5.h, join_sg h6.h, join_sg h7.h, join_sg h8.h]
theorem loopE_9 {t0 t1 t2 t3 t4 t5 t6 t7 t8 : Ty} [h0 : Sg t0] [h1 : Sg t1] [h2 : Sg t2] [h3 : Sg t3] [h4 : Sg t4] [h5 : Sg t5] [h6 : Sg t6] [h7 : Sg t7] [h8 : Sg t8] (x0 : t0.den) (x1 : t1.den) (x2 : t2.den) (x3 : t3.den) (x4 : t4.den) (x5 : t5.den) (x6 : t6.den) (x7 : t7.den) (x8 : t8.den) (body : IR) : loopE Φ (some [⟨t0, x0⟩, ⟨t1, x1⟩, ⟨t2, x2⟩, ⟨t3, x3⟩, ⟨t4, x4⟩, ⟨t5, x5⟩, ⟨t6, x6⟩, ⟨t7, x7⟩, ⟨t8, x8⟩]) [t0, t1, t2, t3, t4, t5, t6, t7, t8] body lv n ρ kr kj =
    iter (fun s : (t0.den × t1.den × t2.den × t3.den × t4.den × t5.den × t6.den × t7.den × t8.den) => deb Φ body (LS (t0.den × t1.den × t2.den × t3.den × t4.den × t5.den × t6.den × t7.den × t8.den) R) (lv + 1) (n + 9) ((n + 8, ⟨t8, s.2.2.2.2.2.2.2.2⟩) :: (n + 7, ⟨t7, s.2.2.2.2.2.2.2.1⟩) :: (n + 6, ⟨t6, s.2.2.2.2.2.2.1⟩) :: (n + 5, ⟨t5, s.2.2.2.2.2.1⟩) :: (n + 4, ⟨t4, s.2.2.2.2.1⟩) :: (n + 3, ⟨t3, s.2.2.2.1⟩) :: (n + 2, ⟨t2, s.2.2.1⟩) :: (n + 1, ⟨t1, s.2.1⟩) :: (n, ⟨t0, s.1⟩) :: ρ) (fun ds => outE (kr ds)) (fun l ds => if l = lv then agE R [t0, t1, t2, t3, t4, t5, t6, t7, t8] ds else outE (kj l ds))) (x0, x1, x2, x3, x4, x5, x6, x7, x8) := by
  simp only [loopE, toTup, pairs, join, join_sg h0.h, join_sg h1.h, join_sg h2.h, join_sg h3.h, join_sg h4.h, join_sg h5.h, join_sg h6.h, join_sg h7.h, join_sg h8.h, split, split_sg h0.h, split_sg h1.h, split_sg h2.h, split_sg h3.h, split_sg h4.h, split_sg h5.h, split_sg h6.h, split_sg h7.h, split_sg h8.h]
  rfl

/-- what a call is known to do -/
abbrev Does1 (Φ : Nat → Cont) (id : Nat) (ds rs : List D) : Prop := ∀ (k : IR) (R : Type) (lv n : Nat) (ρ : List (Nat × D)) (kr : List D → Option R) (kj : Nat → List D → Option R),
  opD Φ (.call id) ds k R lv n ρ kr kj = debP Φ k R lv n ρ rs kr kj

theorem Does1.of {l : List Ct} {id : Nat} {c : Ct} (hl : look (l.map fun c => (c.sig.id, c)) id = some c) {ds rs : List D} (hF : c.F ds = some rs) (ht : rs.map (·.t) = (outL c.sig).map (·.1)) :
    Does1 (Phi l) id ds rs := fun k R lv n ρ kr kj => Phi_call hl hF ht
end

/-- a list of data by its types -/
theorem ds_cons {T : Ty} {Ts : List Ty} {ds : List D} (h : ds.map (·.t) = T :: Ts) : ∃ (x : T.den) (ds' : List D), ds = ⟨T, x⟩ :: ds' ∧ ds'.map (·.t) = Ts := by
  cases ds with
  | nil => cases h
  | cons d ds =>
    obtain ⟨t, x⟩ := d
    simp only [List.map_cons, List.cons.injEq] at h
    obtain ⟨rfl, h⟩ := h
    exact ⟨x, ds, rfl, h⟩
theorem ds_nil {ds : List D} (h : ds.map (·.t) = []) : ds = [] := by simpa using h
theorem wf_i64 {x : Int} (h0 : Wf (.int .i64) x) : -9223372036854775808 ≤ x ∧ x < 9223372036854775808 := by
  have h : IntKind.i64.min ≤ x ∧ x ≤ IntKind.i64.max := h0
  simp [IntKind.min, IntKind.max, IntKind.signed, IntKind.bits] at h; omega
theorem wf_u64 {x : Int} (h0 : Wf (.int .u64) x) : 0 ≤ x ∧ x < 18446744073709551616 := by
  have h : IntKind.u64.min ≤ x ∧ x ≤ IntKind.u64.max := h0
  simp [IntKind.min, IntKind.max, IntKind.signed, IntKind.bits] at h; omega
theorem wf_u32 {x : Int} (h0 : Wf (.int .u32) x) : 0 ≤ x ∧ x < 4294967296 := by
  have h : IntKind.u32.min ≤ x ∧ x ≤ IntKind.u32.max := h0
  simp [IntKind.min, IntKind.max, IntKind.signed, IntKind.bits] at h; omega
theorem wf_u8 {x : Int} (h0 : Wf (.int .u8) x) : 0 ≤ x ∧ x < 256 := by
  have h : IntKind.u8.min ≤ x ∧ x ≤ IntKind.u8.max := h0
  simp [IntKind.min, IntKind.max, IntKind.signed, IntKind.bits] at h; omega
theorem wf_bytes {x : List Int} (h : Wf (.sl (.int .u8)) x) : ∀ c ∈ x, 0 ≤ c ∧ c < 256 := fun c hc => wf_u8 (h.2 c hc)
end Go.Proofs.Ytdjknicjnaiomaa.Sx

/- Numbers: what the machine's arithmetic comes to within bounds. -/
namespace Go.Proofs.Ytdjknicjnaiomaa.Sx
open Go.RowKit

theorem fdiv_pos (x d : Int) (h : 0 < d) : x.fdiv d = x / d := Int.fdiv_eq_ediv_of_nonneg x (Int.le_of_lt h)
theorem shr_n (x : Int) (n : Nat) : x.fdiv (2 ^ n) = x / 2 ^ n := fdiv_pos x _ (by have := Int.pow_pos (n := 2) (m := n) (by omega); simpa using this)
theorem wu8 (n : Int) : IntKind.u8.wrap n = n % 256 := IntKind.wrap_u8 n
theorem wu64' (n : Int) : IntKind.u64.wrap n = n % 18446744073709551616 := by
  simp [IntKind.wrap, IntKind.signed, IntKind.bits]
theorem wu64 (n : Int) (h : 0 ≤ n) (h' : n < 18446744073709551616) : IntKind.u64.wrap n = n := IntWalk.u64_in n ⟨h, by omega⟩
theorem wu32 (n : Int) (h : 0 ≤ n) (h' : n < 4294967296) : IntKind.u32.wrap n = n := IntWalk.u32_in n ⟨h, by omega⟩
theorem wi64 (n : Int) (h : -9223372036854775808 ≤ n) (h' : n < 9223372036854775808) : IntKind.i64.wrap n = n := IntWalk.i64_in n ⟨h, by omega⟩

theorem ofInt_nat (n : Nat) (x : Nat) : (BitVec.ofInt n (x : Int)).toNat = x % 2 ^ n := by
  rw [BitVec.ofInt_natCast, BitVec.toNat_ofNat]

theorem or128 (u : Int) (h : 0 ≤ u) : bOr .u8 (u % 256) 128 = u % 128 + 128 := by
  obtain ⟨n, rfl⟩ := Int.eq_ofNat_of_zero_le h
  have e1 : ((n : Int) % 256) = ((n % 256 : Nat) : Int) := by omega
  rw [e1]
  unfold bOr
  rw [wu8, BitVec.toNat_or, ofInt_nat]
  have e2 : (BitVec.ofInt IntKind.u8.bits 128).toNat = 128 := by decide
  rw [e2]
  have key : ∀ m : Nat, m < 256 → (m % 2 ^ 8 ||| 128) = m % 128 + 128 := by decide +kernel
  have := key (n % 256) (Nat.mod_lt _ (by omega))
  rw [show IntKind.u8.bits = 8 from rfl, this]
  omega

/-- a number's bytes, the least first -/
def one (u : Nat) : List Int := if u < 128 then [(u : Int)] else ((u % 128 + 128 : Nat) : Int) :: one (u / 128)
termination_by u
decreasing_by omega

theorem one_small {u : Nat} (h : u < 128) : one u = [(u : Int)] := by rw [one, if_pos h]
theorem one_big {u : Nat} (h : ¬ u < 128) : one u = ((u % 128 + 128 : Nat) : Int) :: one (u / 128) := by rw [one, if_neg h]

theorem one_len : ∀ (k u : Nat), u < 128 ^ (k + 1) → (one u).length ≤ k + 1
  | 0, u, h => by rw [one_small (by omega)]; simp
  | k + 1, u, h => by
    by_cases hu : u < 128
    · rw [one_small hu]; simp
    · rw [one_big hu, List.length_cons]
      have := one_len k (u / 128) (by rw [Nat.div_lt_iff_lt_mul (by omega)]; rw [Nat.pow_succ] at h; exact h)
      omega

theorem one_len10 (u : Nat) (h : u < 18446744073709551616) : (one u).length ≤ 10 := one_len 9 u (by omega)

theorem one_pos (u : Nat) : 1 ≤ (one u).length := by
  rw [one]; split <;> simp

theorem one_byte (u : Nat) : ∀ c ∈ one u, 0 ≤ c ∧ c ≤ 255 := by
  intro c hc
  induction u using Nat.strongRecOn with
  | ind u ih =>
    by_cases hu : u < 128
    · rw [one_small hu] at hc; simp only [List.mem_singleton] at hc; omega
    · rw [one_big hu] at hc
      rcases List.mem_cons.1 hc with rfl | hc
      · omega
      · exact ih (u / 128) (by omega) hc

def putL (l : List Int) : List Int := (l.map fun u => one u.toNat).flatten

theorem putL_nil : putL [] = [] := rfl
theorem putL_cons (u : Int) (l : List Int) : putL (u :: l) = one u.toNat ++ putL l := by simp [putL]
theorem putL_app (l m : List Int) : putL (l ++ m) = putL l ++ putL m := by simp [putL]
theorem putL_len (l : List Int) (h : ∀ u ∈ l, 0 ≤ u ∧ u < 18446744073709551616) : (putL l).length ≤ 10 * l.length := by
  induction l with
  | nil => simp [putL]
  | cons u l ih =>
    rw [putL_cons, List.length_append, List.length_cons]
    have h1 := one_len10 u.toNat (by have := h u (by simp); omega)
    have h2 := ih (fun v hv => h v (by simp [hv]))
    omega

def sum4 (s : Int) : List Int := [s % 256, s / 256 % 256, s / 65536 % 256, s / 16777216 % 256]

def pOk (a b c : Int) : Bool := decide (1 ≤ a ∧ a ≤ 2147483647 ∧ 0 ≤ b ∧ b ≤ 2147483647 ∧ 0 ≤ c ∧ c ≤ 4096)

theorem fdiv7 (x : Int) : x.fdiv (2 ^ Nat.min 7 IntKind.u64.bits) = x / 128 := fdiv_pos x 128 (by omega)

theorem getI {l : List Int} {i : Int} {d : Int} (h0 : 0 ≤ i) (h1 : i < l.length) : l[i.toNat]?.getD d = l[i.toNat]'(by omega) := by
  rw [List.getElem?_eq_getElem (by omega)]; rfl
theorem dropI {α : Type} {l : List α} {i : Int} (h0 : 0 ≤ i) (h1 : i < l.length) : l.drop i.toNat = l[i.toNat]'(by omega) :: l.drop (i + 1).toNat := by
  rw [show (i + 1).toNat = i.toNat + 1 by omega]; exact List.drop_eq_getElem_cons (by omega)
theorem td (x d : Int) (h : 0 ≤ x) : x.tdiv d = x / d := Int.tdiv_eq_ediv_of_nonneg h
theorem tm (x d : Int) (h : 0 ≤ x) : x.tmod d = x % d := Int.tmod_eq_emod_of_nonneg h
theorem fdiv8 (x : Int) : x.fdiv (2 ^ Nat.min 8 IntKind.u32.bits) = x / 256 := fdiv_pos x 256 (by omega)
theorem fdiv16 (x : Int) : x.fdiv (2 ^ Nat.min 16 IntKind.u32.bits) = x / 65536 := fdiv_pos x 65536 (by omega)
theorem fdiv24 (x : Int) : x.fdiv (2 ^ Nat.min 24 IntKind.u32.bits) = x / 16777216 := fdiv_pos x 16777216 (by omega)
end Go.Proofs.Ytdjknicjnaiomaa.Sx
