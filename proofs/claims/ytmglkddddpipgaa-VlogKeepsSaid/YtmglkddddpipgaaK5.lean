/-
  Regions whose order is left open; the soundness of the executor.
-/
import Derived.Test.YtmglkddddpipgaaK4
set_option linter.unusedVariables false
set_option linter.unusedSimpArgs false
namespace Go.Proofs.Ytmglkddddpipgaa.Sx
open Go.RowKit

theorem ancs_spec [Arn] : ∀ (l : List Oper) (acc : List (List Nat)),
    (ancs l acc).length = acc.length + l.length ∧ (∀ i, i < acc.length → (ancs l acc).reverse[i]? = acc.reverse[i]?) ∧
    ∀ (k : Nat) (o : Oper), l[k]? = some o → (∀ j ∈ edgesOn o, j < acc.length + k) →
      (ancs l acc).reverse[acc.length + k]? = some (edgesOn o ++ ((edgesOn o).map fun j => ((ancs l acc).reverse[j]?).getD []).flatten)
  | [], acc => ⟨by simp [ancs], fun i _ => by simp [ancs], fun k o h => by simp at h⟩
  | o :: r, acc => by
    obtain ⟨h1, h2, h3⟩ := ancs_spec r ((edgesOn o ++ ((edgesOn o).map fun j => acc.getD (acc.length - 1 - j) []).flatten) :: acc)
    simp only [List.length_cons] at h1 h2 h3; refine ⟨by simp only [ancs, List.length_cons]; rw [h1]; omega, fun i hi => ?_, fun k o' hk he => ?_⟩
    · simp only [ancs]; rw [h2 i (by omega), List.reverse_cons, List.getElem?_append_left (by simpa using hi)]
    · simp only [ancs]; cases k with
      | zero =>
        simp only [List.getElem?_cons_zero, oi] at hk; subst hk; rw [Nat.add_zero, h2 _ (by omega), List.reverse_cons, List.getElem?_append_right (by simp)]; simp only [List.length_reverse, Nat.sub_self, List.getElem?_cons_zero, oi]; congr 2
        refine List.map_congr_left fun j hj => ?_
        have hlt : j < acc.length := by have := he j hj; omega
        rw [h2 j (by omega), List.reverse_cons, List.getElem?_append_left (by simpa using hlt), List.getElem?_reverse hlt, List.getD_eq_getElem?_getD]
      | succ k =>
        have := h3 k o' (by simpa using hk) (fun j hj => by have := he j hj; omega)
        rw [show acc.length + (k + 1) = acc.length + 1 + k by omega]; exact this

structure Stat (X : Cx) (st : SS) (ops : Array Oper) (an : Nat → List Nat) : Prop where
  call : ∀ (i : Nat) (o : Oper), ops[i]? = some o → callOk X o = true
  back : ∀ (i j : Nat) (o : Oper), ops[i]? = some o → j ∈ edgesOn o → j < i
  reads : ∀ (i j : Nat) (o o' : Oper) (d : Tmp), ops[i]? = some o → ops[j]? = some o' → o'.dst = some d → d ∈ o.looksAt ops → j ∈ an i ∨ i ∈ an j
  dst : ∀ (i j : Nat) (o o' : Oper) (d : Tmp), ops[i]? = some o → ops[j]? = some o' → i ≠ j → o.dst = some d → o'.dst ≠ some d
  mem : ∀ (i j : Nat) (o o' : Oper), ops[i]? = some o → ops[j]? = some o' → i ≠ j → stores o = true → touches o' = true → j ∈ an i ∨ i ∈ an j ∨ apart st ops o o' = true
  ar : ∀ (i j : Nat) (o o' : Oper), ops[i]? = some o → ops[j]? = some o' → i ≠ j → chgsAr X o = true → usesAr X o' = true → j ∈ an i ∨ i ∈ an j
  anc : ∀ (i j : Nat) (o : Oper), ops[i]? = some o → j ∈ an i → j ∈ edgesOn o ∨ ∃ k ∈ edgesOn o, j ∈ an k

theorem drawOk_spec [Arn] {X : Cx} {st : SS} {ops : Array Oper} (h : drawOk X st ops = true) : ∃ an, Stat X st ops an ∧ (lastOk ops = true → ∀ j, j + 1 < ops.size → j ∈ an (ops.size - 1)) := by
  simp only [drawOk, Bool.and_eq_true, List.all_eq_true] at h; obtain ⟨hc, hq⟩ := h; obtain ⟨l1, _, l3⟩ := ancs_spec ops.toList []
  simp only [List.length_nil, Nat.zero_add, Array.length_toList] at l1 l3; have hget : ∀ (i : Nat) (o : Oper), ops[i]? = some o → ∃ a, (ancs ops.toList []).reverse[i]? = some a ∧ ((o, a), i) ∈ (ops.toList.zip (ancs ops.toList []).reverse).zipIdx := by
    intro i o ho; have hi : i < ops.size := (Array.getElem?_eq_some_iff.1 ho).1
    have ha : i < (ancs ops.toList []).reverse.length := by rw [List.length_reverse, l1]; exact hi
    refine ⟨_, List.getElem?_eq_getElem ha, ?_⟩
    rw [List.mem_zipIdx_iff_getElem?, List.getElem?_zip_eq_some]; exact ⟨by rw [Array.getElem?_toList]; exact ho, List.getElem?_eq_getElem ha⟩
  refine ⟨fun i => ((ancs ops.toList []).reverse[i]?).getD [], ?_⟩
  have hb : ∀ (i j : Nat) (o : Oper), ops[i]? = some o → j ∈ edgesOn o → j < i := by
    intro i j o ho hj; obtain ⟨a, _, h1⟩ := hget i o ho; have := (hq _ h1).1 j hj
    rwa [blt_eq, decide_eq_true_eq] at this
  refine ⟨⟨fun i o ho => hc o (by rw [Array.mem_toList_iff]; exact Array.mem_of_getElem? ho), hb, ?_, ?_, ?_, ?_, ?_⟩, ?_⟩
  rotate_left 5
  · intro hl j hj; simp only [lastOk, Bool.and_eq_true, List.all_eq_true, List.mem_range, List.contains_eq_mem, decide_eq_true_eq] at hl; have h1 := hl.2 j (by omega)
    have e : (ancs ops.toList []).reverse[ops.size - 1]? = (ancs ops.toList []).head? := by
      rw [List.getElem?_reverse (by omega), l1, List.head?_eq_getElem?]; congr 1; omega
    show j ∈ ((ancs ops.toList []).reverse[ops.size - 1]?).getD []
    rw [e]; exact h1
  · intro i j o o' d hi hj hd hl; obtain ⟨a, ha, h1⟩ := hget i o hi; obtain ⟨a', ha', h2⟩ := hget j o' hj; have := ((hq _ h1).2 _ h2).1
    simp only [hd, Bool.or_eq_true, Bool.not_eq_true', List.contains_eq_mem, decide_eq_false_iff_not, decide_eq_true_eq] at this; rw [ha, ha']; rcases this with (h | h) | h
    · exact absurd hl h
    · exact .inl h
    · exact .inr h
  · intro i j o o' d hi hj hne hd; obtain ⟨a, ha, h1⟩ := hget i o hi; obtain ⟨a', ha', h2⟩ := hget j o' hj; have := ((hq _ h1).2 _ h2).2
    simp only [hd, Bool.or_eq_true, Bool.and_eq_true, Nat.beq_eq, bne_iff_ne] at this; exact (this.resolve_left hne).1.1
  · intro i j o o' hi hj hne hs ht; obtain ⟨a, ha, h1⟩ := hget i o hi; obtain ⟨a', ha', h2⟩ := hget j o' hj; have := ((hq _ h1).2 _ h2).2
    simp only [hs, ht, Bool.or_eq_true, Bool.and_eq_true, Nat.beq_eq, List.contains_eq_mem, decide_eq_true_eq, Bool.true_and, Bool.not_true, Bool.false_eq_true, false_or] at this; rw [ha, ha']; rcases (this.resolve_left hne).1.2 with (h | h) | h
    · exact .inl h
    · exact .inr (.inl h)
    · exact .inr (.inr h)
  · intro i j o o' hi hj hne hs ht; obtain ⟨a, ha, h1⟩ := hget i o hi; obtain ⟨a', ha', h2⟩ := hget j o' hj; have := ((hq _ h1).2 _ h2).2
    simp only [hs, ht, Bool.or_eq_true, Bool.and_eq_true, Nat.beq_eq, List.contains_eq_mem, decide_eq_true_eq, Bool.true_and, Bool.not_true, Bool.false_eq_true, false_or] at this; rw [ha, ha']; exact (this.resolve_left hne).2
  · intro i j o hi hj; have := l3 i o (by rw [Array.getElem?_toList]; exact hi) (fun k hk => hb i k o hi hk)
    rw [this] at hj; simp only [Option.getD_some, List.mem_append, List.mem_flatten, List.mem_map] at hj; rcases hj with hj | ⟨l, ⟨k, hk, rfl⟩, hj⟩
    · exact .inl hj
    · exact .inr ⟨k, hk, hj⟩

theorem anc_closed [Arn] {X : Cx} {st : SS} {ops : Array Oper} {an : Nat → List Nat} (h : Stat X st ops an) {S : Nat → Prop} (hS : ∀ (i j : Nat) (o : Oper), S i → ops[i]? = some o → j ∈ edgesOn o → S j) (hin : ∀ i, S i → i < ops.size) :
    ∀ (i : Nat) (o : Oper), ops[i]? = some o → (∀ j ∈ edgesOn o, S j) → ∀ j ∈ an i, S j ∧ j < i := by
  intro i; induction i using Nat.strongRecOn with
  | ind i ih =>
    intro o ho he j hj; rcases h.anc i j o ho hj with h1 | ⟨k, h1, h2⟩
    · exact ⟨he j h1, h.back i j o ho h1⟩
    · have hk := h.back i k o ho h1
      have hks := he k h1
      obtain ⟨o', ho'⟩ : ∃ o', ops[k]? = some o' := ⟨_, Array.getElem?_eq_getElem (hin k hks)⟩
      have := ih k hk o' ho' (fun j' hj' => hS k j' o' hks ho' hj') j h2
      exact ⟨this.1, by omega⟩
end Go.Proofs.Ytmglkddddpipgaa.Sx

namespace Go.Proofs.Ytmglkddddpipgaa.Sx
open Go.RowKit

noncomputable def AS.step (α : AS) (q : SS × Δ) : AS := α.upd q.2 q.1.nb q.1.ntok

def isNew (q : SS × Δ) (k : Nat) : Prop := q.1.ntok ≤ k ∧ k < q.1.ntok + q.2.nt

structure Comm (q q' : SS × Δ) : Prop where
  dst : ∀ d, q.2.dst = some d → q'.2.dst ≠ some d
  ss : ∀ β r β' r', q.2.setb = some (β, r) → q'.2.setb = some (β', r') → β ≠ β'
  nn : q.2.newb.isSome = true → q'.2.newb.isSome = true → q.1.nb ≠ q'.1.nb
  sn : ∀ β r, q.2.setb = some (β, r) → q'.2.newb.isSome = true → β ≠ q'.1.nb
  ns : ∀ β r, q'.2.setb = some (β, r) → q.2.newb.isSome = true → β ≠ q.1.nb
  kn : ∀ k, q.2.kill = some k → ¬ isNew q' k
  nk : ∀ k, q'.2.kill = some k → ¬ isNew q k
  dy : q.2.dy = []
  dy' : q'.2.dy = []
  dr : q.2.dr = [] ∨ q'.2.dr = []

theorem step_comm [Arn] (α : AS) {q q' : SS × Δ} (h : Comm q q') : (α.step q).step q' = (α.step q').step q := by
  obtain ⟨st, ⟨dst, sv, newb, setb, kill, nt, nv, dy, dr⟩⟩ := q; obtain ⟨st', ⟨dst', sv', newb', setb', kill', nt', nv', dy', dr'⟩⟩ := q'; obtain ⟨h1, h2, h3, h4, h5, h6, h7, h8, h9, h10⟩ := h; simp only at h1 h2 h3 h4 h5 h6 h7 h8 h9 h10
  subst h8; subst h9; have har : (fun k => match look dr' k with | some x => some x | none => (match look dr k with | some x => some x | none => α.ar k)) = fun k => match look dr k with | some x => some x | none => (match look dr' k with | some x => some x | none => α.ar k) := by
    rcases h10 with rfl | rfl
    · rfl
    · funext k
      show _ = (match look dr k with | some x => some x | none => α.ar k)
      rfl
  unfold AS.step AS.upd; simp only [AS.mk.injEq, true_and, and_true]; refine ⟨?_, ?_, ?_, ?_, har⟩
  · funext i
    cases dst with
    | none => simp
    | some d =>
      have := h1 d rfl
      by_cases e : d = i
      · subst e; simp [this]
      · simp [e]
  · funext β
    have h3' : ∀ r r', newb = some r → newb' = some r' → st.nb ≠ st'.nb := fun r r' a b => h3 (by simp [a]) (by simp [b])
    have h4' : ∀ β r r', setb = some (β, r) → newb' = some r' → β ≠ st'.nb := fun β r r' a b => h4 β r a (by simp [b])
    have h5' : ∀ β r r', setb' = some (β, r) → newb = some r' → β ≠ st.nb := fun β r r' a b => h5 β r a (by simp [b])
    clear h1 h3 h4 h5 h6 h7; cases newb with
    | none =>
      cases newb' with
      | none =>
        cases setb with
        | none => cases setb' <;> rfl
        | some p =>
          cases setb' with
          | none => rfl
          | some p' =>
            have := h2 _ _ _ _ rfl rfl
            by_cases e : β = p.1
            · have e' : ¬ β = p'.1 := by omega
              simp [e, e', this]
            · simp [e]
      | some r' =>
        cases setb with
        | none => cases setb' <;> rfl
        | some p =>
          have k4 := h4' _ _ _ rfl rfl
          cases setb' with
          | none =>
            by_cases e : β = st'.nb
            · have : ¬ β = p.1 := by omega
              simp [e, Ne.symm k4]
            · simp [e]
          | some p' =>
            have := h2 _ _ _ _ rfl rfl
            by_cases e : β = st'.nb
            · simp [e, Ne.symm k4]
            · by_cases e2 : β = p.1
              · have e' : ¬ β = p'.1 := by omega
                simp [e2, k4, this]
              · simp [e, e2]
    | some r =>
      cases newb' with
      | none =>
        cases setb' with
        | none => cases setb <;> rfl
        | some p' =>
          have k5 := h5' _ _ _ rfl rfl
          cases setb with
          | none =>
            by_cases e : β = st.nb
            · simp [e, Ne.symm k5]
            · simp [e]
          | some p =>
            have := h2 _ _ _ _ rfl rfl
            by_cases e : β = st.nb
            · simp [e, Ne.symm k5]
            · by_cases e2 : β = p.1
              · simp [e2, this]
              · simp [e, e2]
      | some r' =>
        have k3 := h3' _ _ rfl rfl
        by_cases e : β = st.nb
        · have e1 : ¬ β = st'.nb := by omega
          have e2 : ∀ p', setb' = some p' → ¬ β = p'.1 := fun p' hp => by have := h5' p'.1 p'.2 r hp rfl; omega
          cases setb' with
          | none => simp [e, k3]
          | some p' => have := e2 _ rfl; subst e; simp [k3, this]
        · by_cases e1 : β = st'.nb
          · have e2 : ∀ p, setb = some p → ¬ β = p.1 := fun p hp => by have := h4' p.1 p.2 r' hp rfl; omega
            cases setb with
            | none => simp [e1, Ne.symm k3]
            | some p => have := e2 _ rfl; subst e1; simp [Ne.symm k3, this]
          · simp only [e, e1, if_false]; cases setb with
            | none => cases setb' <;> rfl
            | some p =>
              cases setb' with
              | none => rfl
              | some p' =>
                have := h2 _ _ _ _ rfl rfl
                by_cases e2 : β = p.1
                · have e' : ¬ β = p'.1 := by omega
                  simp [e2, this]
                · simp [e2]
  · funext k; apply propext; constructor <;> (rintro ((h | h) | h) <;> simp [h])
  · funext k
    apply propext
    have a6 := h6 k
    have a7 := h7 k
    simp only [isNew] at a6 a7; constructor
    · rintro (⟨⟨h, hk⟩ | h, hk'⟩ | h)
      · exact .inl ⟨.inl ⟨h, hk'⟩, hk⟩
      · exact .inr h
      · exact .inl ⟨.inr h, fun e => a6 e h⟩
    · rintro (⟨⟨h, hk⟩ | h, hk'⟩ | h)
      · exact .inl ⟨.inl ⟨h, hk'⟩, hk⟩
      · exact .inr h
      · exact .inl ⟨.inr h, fun e => a7 e h⟩

open Classical in
noncomputable def mask : List (SS × Δ) → (Nat → Prop) → Nat → AS → AS
  | [], _, _, α => α
  | q :: E, S, k, α => mask E S (k + 1) (if S k then α.step q else α)

theorem mask_push [Arn] {S : Nat → Prop} {q : SS × Δ} : ∀ (E : List (SS × Δ)) (k : Nat) (α : AS), (∀ j q', E[j]? = some q' → S (k + j) → Comm q q') → (mask E S k α).step q = mask E S k (α.step q)
  | [], _, _, _ => rfl
  | q' :: E, k, α, h => by
    simp only [mask]; rw [mask_push E (k + 1) _ fun j q'' hj hs => h (j + 1) q'' (by simpa using hj) (by rwa [show k + (j + 1) = k + 1 + j by omega])]
    by_cases hs : S k
    · rw [if_pos hs, if_pos hs, step_comm α (h 0 q' rfl hs)]
    · rw [if_neg hs, if_neg hs]

theorem mask_congr [Arn] {S S' : Nat → Prop} : ∀ (E : List (SS × Δ)) (k : Nat) (α : AS), (∀ j, j < E.length → (S (k + j) ↔ S' (k + j))) → mask E S k α = mask E S' k α
  | [], _, _, _ => rfl
  | q :: E, k, α, h => by
    have h0 : S k ↔ S' k := h 0 (by simp)
    have hr := fun α => mask_congr (S := S) (S' := S') E (k + 1) α (fun j hj => by have := h (j + 1) (by simpa using hj); rwa [show k + (j + 1) = k + 1 + j by omega] at this)
    simp only [mask]; rw [hr]; by_cases hs : S k
    · rw [if_pos hs, if_pos (h0.1 hs)]
    · rw [if_neg hs, if_neg (fun h => hs (h0.2 h))]

theorem mask_insert [Arn] {S : Nat → Prop} {q : SS × Δ} {i : Nat} : ∀ (E : List (SS × Δ)) (k : Nat) (α : AS), k ≤ i → E[i - k]? = some q → ¬ S i → (∀ j q', E[j]? = some q' → i < k + j → S (k + j) → Comm q q') →
    mask E (fun j => S j ∨ j = i) k α = (mask E S k α).step q
  | [], _, _, _, h, _, _ => by simp at h
  | q' :: E, k, α, hk, h, hn, hc => by
    by_cases e : k = i
    · subst e; simp only [Nat.sub_self, List.getElem?_cons_zero, oi] at h; subst h; have h1 : mask (q' :: E) (fun j => S j ∨ j = k) k α = mask E (fun j => S j ∨ j = k) (k + 1) (α.step q') := by
        rw [mask]; exact congrArg _ (if_pos (Or.inr rfl))
      have h2 : mask (q' :: E) S k α = mask E S (k + 1) α := by
        rw [mask]; exact congrArg _ (if_neg hn)
      rw [h1, h2, mask_push E (k + 1) α fun j q'' hj hs => hc (j + 1) q'' (by simpa using hj) (by omega) (by rwa [show k + (j + 1) = k + 1 + j by omega])]
      exact mask_congr E (k + 1) _ fun j _ => ⟨fun h => h.resolve_right (by omega), .inl⟩
    · have hi := fun α => mask_insert (S := S) (q := q) (i := i) E (k + 1) α (by omega) (by rw [show i - k = (i - (k + 1)) + 1 by omega] at h; simpa using h) hn
        (fun j q'' hj hl hs => hc (j + 1) q'' (by simpa using hj) (by omega) (by rwa [show k + (j + 1) = k + 1 + j by omega]))
      by_cases hs : S k
      · have h1 : mask (q' :: E) (fun j => S j ∨ j = i) k α = mask E (fun j => S j ∨ j = i) (k + 1) (α.step q') := by
          rw [mask]; exact congrArg _ (if_pos (Or.inl hs))
        have h2 : mask (q' :: E) S k α = mask E S (k + 1) (α.step q') := by
          rw [mask]; exact congrArg _ (if_pos hs)
        rw [h1, h2]; exact hi _
      · have h1 : mask (q' :: E) (fun j => S j ∨ j = i) k α = mask E (fun j => S j ∨ j = i) (k + 1) α := by
          rw [mask]; exact congrArg _ (if_neg (fun h => h.elim hs e))
        have h2 : mask (q' :: E) S k α = mask E S (k + 1) α := by
          rw [mask]; exact congrArg _ (if_neg hs)
        rw [h1, h2]; exact hi _

theorem mask_all [Arn] : ∀ (E : List (SS × Δ)) (k : Nat) (α : AS) (S : Nat → Prop), (∀ j, j < E.length → S (k + j)) → mask E S k α = E.foldl AS.step α
  | [], _, _, _, _ => rfl
  | q :: E, k, α, S, h => by
    simp only [mask, List.foldl_cons]; rw [if_pos (show S k from h 0 (by simp))]; exact mask_all E (k + 1) _ S fun j hj => by have := h (j + 1) (by simpa using hj); rwa [show k + (j + 1) = k + 1 + j by omega] at this

theorem mask_none [Arn] : ∀ (E : List (SS × Δ)) (k : Nat) (α : AS) (S : Nat → Prop), (∀ j, j < E.length → ¬ S (k + j)) → mask E S k α = α
  | [], _, _, _, _ => rfl
  | q :: E, k, α, S, h => by
    simp only [mask]; rw [if_neg (show ¬ S k from h 0 (by simp))]; exact mask_none E (k + 1) _ S fun j hj => by have := h (j + 1) (by simpa using hj); rwa [show k + (j + 1) = k + 1 + j by omega] at this

theorem mask_dyn [Arn] {S : Nat → Prop} : ∀ (E : List (SS × Δ)) (k : Nat) (α : AS), (∀ j q, E[j]? = some q → S (k + j) → q.2.dy = []) → (mask E S k α).dyn = α.dyn
  | [], _, _, _ => rfl
  | q :: E, k, α, h => by
    simp only [mask]; rw [mask_dyn E (k + 1) _ fun j q' hj hs => h (j + 1) q' (by simpa using hj) (by rwa [show k + (j + 1) = k + 1 + j by omega])]
    by_cases hs : S k
    · rw [if_pos hs]; have := h 0 q rfl hs
      funext x
      show (match look q.2.dy x with | some x => x | none => α.dyn x) = α.dyn x
      rw [this]; rfl
    · rw [if_neg hs]

theorem mask_ar [Arn] {S S' : Nat → Prop} : ∀ (E : List (SS × Δ)) (k : Nat) (α α' : AS), α.ar = α'.ar → (∀ (j : Nat) (q : SS × Δ), E[j]? = some q → q.2.dr ≠ [] → (S (k + j) ↔ S' (k + j))) → (mask E S k α).ar = (mask E S' k α').ar
  | [], _, _, _, h, _ => h
  | q :: E, k, α, α', h, hs => by
    simp only [mask]; refine mask_ar E (k + 1) _ _ ?_ fun j q' hj hd => by have := hs (j + 1) q' (by simpa using hj) hd; rwa [show k + (j + 1) = k + 1 + j by omega] at this
    have st : ∀ α α' : AS, α.ar = α'.ar → (α.step q).ar = (α'.step q).ar := by
      intro α α' h; simp only [AS.step, AS.upd, h]
    by_cases e : q.2.dr = []
    · have : ∀ (p : Prop) [Decidable p] (α : AS), (if p then α.step q else α).ar = α.ar := by
        intro p _ α; split
        · funext x
          show (match look q.2.dr x with | some x => some x | none => α.ar x) = α.ar x
          rw [e]; rfl
        · rfl
      rw [this, this]; exact h
    · have := hs 0 q rfl e
      rw [Nat.add_zero] at this; by_cases hk : S k
      · rw [if_pos hk, if_pos (this.1 hk)]; exact st _ _ h
      · rw [if_neg hk, if_neg (fun h' => hk (this.2 h'))]; exact h

theorem mask_out [Arn] {S : Nat → Prop} : ∀ (E : List (SS × Δ)) (k : Nat) (α : AS), (mask E S k α).out = α.out
  | [], _, _ => rfl
  | q :: E, k, α => by
    simp only [mask]; rw [mask_out E (k + 1) _]; by_cases hs : S k
    · rw [if_pos hs]; rfl
    · rw [if_neg hs]

theorem mask_n [Arn] : ∀ (E : List (SS × Δ)) (S : Nat → Prop) (k : Nat) (α : AS), (mask E S k α).n = α.n
  | [], _, _, _ => rfl
  | q :: E, S, k, α => by
    simp only [mask]; rw [mask_n E S (k + 1) _]; split <;> rfl

theorem mask_slot [Arn] {S S' : Nat → Prop} {t : Nat} : ∀ (E : List (SS × Δ)) (k : Nat) (α α' : AS), α.slot t = α'.slot t → (∀ j q, E[j]? = some q → q.2.dst = some t → (S (k + j) ↔ S' (k + j))) →
    (mask E S k α).slot t = (mask E S' k α').slot t
  | [], _, _, _, h, _ => h
  | q :: E, k, α, α', h, hs => by
    simp only [mask]; refine mask_slot E (k + 1) _ _ ?_ fun j q' hj hd => by have := hs (j + 1) q' (by simpa using hj) hd; rwa [show k + (j + 1) = k + 1 + j by omega] at this
    have st : ∀ α : AS, (α.step q).slot t = if q.2.dst = some t then q.2.sv else α.slot t := fun _ => rfl
    by_cases e : q.2.dst = some t
    · have := hs 0 q rfl e
      rw [Nat.add_zero] at this; by_cases hk : S k
      · rw [if_pos hk, if_pos (this.1 hk), st, st, if_pos e, if_pos e]
      · rw [if_neg hk, if_neg (fun h' => hk (this.2 h'))]; exact h
    · have : ∀ (p : Prop) [Decidable p] (α : AS), (if p then α.step q else α).slot t = α.slot t := by
        intro p _ α; split
        · rw [st, if_neg e]
        · rfl
      rw [this, this]; exact h

theorem mask_box [Arn] {S S' : Nat → Prop} {β : Nat} : ∀ (E : List (SS × Δ)) (k : Nat) (α α' : AS), α.box β = α'.box β →
    (∀ j q, E[j]? = some q → ((∃ r, q.2.setb = some (β, r)) ∨ (q.2.newb.isSome = true ∧ q.1.nb = β)) → (S (k + j) ↔ S' (k + j))) → (mask E S k α).box β = (mask E S' k α').box β
  | [], _, _, _, h, _ => h
  | q :: E, k, α, α', h, hs => by
    simp only [mask]; refine mask_box E (k + 1) _ _ ?_ fun j q' hj hd => by have := hs (j + 1) q' (by simpa using hj) hd; rwa [show k + (j + 1) = k + 1 + j by omega] at this
    have st : ∀ α α' : AS, α.box β = α'.box β → (α.step q).box β = (α'.step q).box β := by
      intro α α' h; simp only [AS.step, AS.upd, h]
    have st' : ¬ ((∃ r, q.2.setb = some (β, r)) ∨ (q.2.newb.isSome = true ∧ q.1.nb = β)) → ∀ α : AS, (α.step q).box β = α.box β := by
      intro hn α; simp only [not_or, not_and, not_exists] at hn; simp only [AS.step, AS.upd]; have h1 : (match q.2.setb with | some (β', row) => if β = β' then some row else α.box β | none => α.box β) = α.box β := by
        cases hq : q.2.setb with
        | none => rfl
        | some p => simp only; rw [if_neg]; rintro rfl; exact hn.1 p.2 (by rw [hq])
      cases hq : q.2.newb with
      | none => exact h1
      | some r => simp only; rw [if_neg (fun e => hn.2 (by rw [hq]; rfl) e.symm)]; exact h1
    by_cases e : (∃ r, q.2.setb = some (β, r)) ∨ (q.2.newb.isSome = true ∧ q.1.nb = β)
    · have := hs 0 q rfl e
      rw [Nat.add_zero] at this; by_cases hk : S k
      · rw [if_pos hk, if_pos (this.1 hk)]; exact st _ _ h
      · rw [if_neg hk, if_neg (fun h' => hk (this.2 h'))]; exact h
    · have : ∀ (p : Prop) [Decidable p] (α : AS), (if p then α.step q else α).box β = α.box β := by
        intro p _ α; split
        · exact st' e α
        · rfl
      rw [this, this]; exact h

theorem mask_live [Arn] {S S' : Nat → Prop} {x : Nat} : ∀ (E : List (SS × Δ)) (k : Nat) (α α' : AS), (α.live x ↔ α'.live x) → (∀ j q, E[j]? = some q → (q.2.kill = some x ∨ isNew q x) → (S (k + j) ↔ S' (k + j))) →
    ((mask E S k α).live x ↔ (mask E S' k α').live x)
  | [], _, _, _, h, _ => h
  | q :: E, k, α, α', h, hs => by
    simp only [mask]; refine mask_live E (k + 1) _ _ ?_ fun j q' hj hd => by have := hs (j + 1) q' (by simpa using hj) hd; rwa [show k + (j + 1) = k + 1 + j by omega] at this
    have st : ∀ α : AS, (α.step q).live x ↔ ((α.live x ∧ q.2.kill ≠ some x) ∨ isNew q x) := fun _ => Iff.rfl
    by_cases e : q.2.kill = some x ∨ isNew q x
    · have := hs 0 q rfl e
      rw [Nat.add_zero] at this; by_cases hk : S k
      · rw [if_pos hk, if_pos (this.1 hk), st, st, h]
      · rw [if_neg hk, if_neg (fun h' => hk (this.2 h'))]; exact h
    · simp only [not_or] at e; have : ∀ (p : Prop) [Decidable p] (α : AS), (if p then α.step q else α).live x ↔ α.live x := by
        intro p _ α; split
        · rw [st]; exact ⟨fun h => h.elim And.left (fun h => absurd h e.2), fun h => .inl ⟨h, e.1⟩⟩
        · rfl
      rw [this, this]; exact h

theorem mask_known [Arn] {S : Nat → Prop} {x : Nat} : ∀ (E : List (SS × Δ)) (k : Nat) (α : AS), (mask E S k α).known x ↔ (α.known x ∨ ∃ j q, E[j]? = some q ∧ S (k + j) ∧ isNew q x)
  | [], _, _ => by simp [mask]
  | q :: E, k, α => by
    simp only [mask]; rw [mask_known E (k + 1) _]; have st : ∀ α : AS, (α.step q).known x ↔ (α.known x ∨ isNew q x) := fun _ => Iff.rfl
    constructor
    · rintro (h | ⟨j, q', h1, h2, h3⟩)
      · split at h
        · rename_i hs; rcases (st _).1 h with h | h
          · exact .inl h
          · exact .inr ⟨0, q, rfl, hs, h⟩
        · exact .inl h
      · exact .inr ⟨j + 1, q', by simpa using h1, by rwa [show k + (j + 1) = k + 1 + j by omega], h3⟩
    · rintro (h | ⟨j, q', h1, h2, h3⟩)
      · left
        split
        · exact (st _).2 (.inl h)
        · exact h
      · cases j with
        | zero =>
          simp only [List.getElem?_cons_zero, oi] at h1; subst h1; left
          rw [if_pos (show S k from h2)]; exact (st _).2 (.inr h3)
        | succ j => exact .inr ⟨j, q', by simpa using h1, by rwa [show k + 1 + j = k + (j + 1) by omega], h3⟩
end Go.Proofs.Ytmglkddddpipgaa.Sx

namespace Go.Proofs.Ytmglkddddpipgaa.Sx
open Go.RowKit

section
variable {X : Cx} {top : Func} {sig : Sig} {B : Base} {Φ : Nat → Cont} {st : SS} {o : Oper}

structure Still (st : SS) : Prop where
  live : ∀ k, k ∈ st.live → st.dynAt k = none
  new : ∀ k, st.ntok ≤ k → st.dynAt k = none

theorem Still.dynL [Arn] {st : SS} (h : Still st) (k : Nat) : st.dynL k = none := by
  unfold SS.dynL; split
  · rename_i hc; exact h.live k (by simpa using hc)
  · rfl

theorem nod_eOne [Arn] {e : Option (Pr × List A × List Ty)} {δ : Δ} {sv : SV} (h : eOne o sv = some (.go e δ)) : δ.dy = [] := by
  obtain ⟨_, rfl⟩ := eOne_go h; rfl

theorem nod_bind [Arn] {e : Option (Pr × List A × List Ty)} {δ : Δ} {s : Option SV} (h : (s.bind fun sv => Sx.eOne o sv) = some (.go e δ)) : δ.dy = [] := by
  simp only [Option.bind_eq_some_iff] at h; obtain ⟨sv, _, h⟩ := h; exact nod_eOne h

theorem nod_ePr [Arn] {e : Option (Pr × List A × List Ty)} {δ : Δ} {q : Pr} {xs : List A} {t : Ty} (h : ePr st o q xs t = some (.go e δ)) : δ.dy = [] := by
  obtain ⟨_, rfl⟩ := ePr_go h; rfl

theorem nod_go [Arn] {e e0 : Option (Pr × List A × List Ty)} {δ δ0 : Δ} (h : (some (Eff.go e0 δ0) : Option Eff) = some (.go e δ)) (hd : δ0.dy = []) : δ.dy = [] := by
  simp only [oi, Eff.go.injEq] at h; obtain ⟨_, rfl⟩ := h; exact hd

theorem dslOf_none [Arn] (h : ∀ k, st.dynL k = none) (P : Program) (t : TypeId) (x : Operand) : st.dslOf P t x = none := by
  unfold SS.dslOf; split
  · rw [h]; rfl
  · rfl

theorem mcOf_none [Arn] (h : ∀ k, st.dynL k = none) (X : Cx) (f : FuncId) (vs : List SV) (caps : List (Nat × Nat)) : mcOf X st f vs caps = none := by
  unfold mcOf; split
  · split
    · rw [h]; rfl
    · rfl
  · rfl

theorem step_nod [Arn] (hn : ∀ k, st.dynL k = none) (hc : callOk X o = true) {e : Option (Pr × List A × List Ty)} {δ : Δ} (hs : stepOp X st o = some (.go e δ)) : δ.dy = [] := by
  have hds := dslOf_none hn
  simp only [stepOp] at hs; split at hs
  case h_23 c ho =>
    obtain ⟨callee, xs, ts⟩ := c; split at hs
    · rename_i b hb; simp only at hb; subst hb
      simp only [callOk, ho, Bool.not_eq_true', List.any_eq_false, Bool.not_eq_true] at hc; have hflag : ∀ t0 t1, ts.toList = [t0, t1] → X.mt (1000000 + t0) = false := fun t0 t1 h => hc t0 (by rw [h]; simp)
      simp only [doBuiltin, doAppend, doAppendP, opDelete, opMapLen, fL_eq, hn] at hs
      (repeat' (first | (cases hs; done) | exact nod_eOne hs | exact nod_bind hs | exact nod_ePr hs | exact nod_go hs rfl | (rename_i h1 h2 h3; rw [hflag _ _ h2] at h3; cases h3; done) | split at hs))
    · rename_i fo hc'; simp only at hc'; subst hc'
      simp only [opCallV] at hs; split at hs
      · rename_i f' caps hev; have hmt : X.mt f' = false := by
          simp only [callOk, ho] at hc; cases fo with
          | func f2 =>
            simp only [SS.ev, oi, SV.one.injEq, SC.fn.injEq] at hev; obtain ⟨rfl, _⟩ := hev; simp only [Bool.and_eq_true, Bool.not_eq_true'] at hc; exact hc.2
          | _ => simp at hc
        split at hs
        · simp only [mcOf_none hn, doCall, hmt] at hs
          (repeat' (first | (cases hs; done) | exact nod_eOne hs | exact nod_bind hs | exact nod_ePr hs | exact nod_go hs rfl | (simp at hs; done) | split at hs))
        · cases hs
      · cases hs
    · cases hs
  all_goals first
    | (rename_i ho; simp only [callOk, ho] at hc; cases hc; done)
    | ((repeat' (first | (cases hs; done) | exact nod_eOne hs | exact nod_bind hs | exact nod_ePr hs | exact nod_go hs rfl | (simp at hs; done) | split at hs)); done)
    | ((try simp only [opPick, opLoad, opStore, opConvert, opSlice, opIndexD, opIndexAddr, opMakeSlice, opBuildSlice, doBin, doBinC, opLookup, opMapUpdate, opMakeMap, fL_eq, hn, hds] at hs)
       (repeat' (first | (cases hs; done) | exact nod_eOne hs | exact nod_bind hs | exact nod_ePr hs | exact nod_go hs rfl | (simp only [Option.bind_eq_some_iff] at hs; obtain ⟨_, _, hs'⟩ := hs; exact nod_eOne hs') | (simp only [Option.bind_eq_some_iff] at hs; obtain ⟨_, _, hs'⟩ := hs; exact nod_go hs' rfl) | (simp at hs; done) | split at hs)); done)

theorem nodr_eOne [Arn] {e : Option (Pr × List A × List Ty)} {δ : Δ} {sv : SV} (h : eOne o sv = some (.go e δ)) : δ.dr = [] := by
  obtain ⟨_, rfl⟩ := eOne_go h; rfl
theorem nodr_bind [Arn] {e : Option (Pr × List A × List Ty)} {δ : Δ} {s : Option SV} (h : (s.bind fun sv => Sx.eOne o sv) = some (.go e δ)) : δ.dr = [] := by
  simp only [Option.bind_eq_some_iff] at h; obtain ⟨sv, _, h⟩ := h; exact nodr_eOne h
theorem nodr_ePr [Arn] {e : Option (Pr × List A × List Ty)} {δ : Δ} {q : Pr} {xs : List A} {t : Ty} (h : ePr st o q xs t = some (.go e δ)) : δ.dr = [] := by
  obtain ⟨_, rfl⟩ := ePr_go h; rfl
theorem nodr_go [Arn] {e e0 : Option (Pr × List A × List Ty)} {δ δ0 : Δ} (h : (some (Eff.go e0 δ0) : Option Eff) = some (.go e δ)) (hd : δ0.dr = []) : δ.dr = [] := by
  simp only [oi, Eff.go.injEq] at h; obtain ⟨_, rfl⟩ := h; exact hd

theorem chgs_uses [Arn] (h : chgsAr X o = true) : usesAr X o = true := by
  unfold chgsAr at h; unfold usesAr; split at h <;> first | (rename_i ho; simp only [ho]; done) | (rename_i ho; simp only [ho]; exact h) | cases h

set_option maxHeartbeats 2000000 in
theorem step_dr [Arn] {e : Option (Pr × List A × List Ty)} {δ : Δ} (hs : stepOp X st o = some (.go e δ)) : δ.dr = [] ∨ chgsAr X o = true := by
  by_cases hc : chgsAr X o = true
  · exact .inr hc
  left
  simp only [Bool.not_eq_true] at hc; simp only [stepOp] at hs; split at hs
  case h_23 c ho =>
    obtain ⟨callee, xs, ts⟩ := c; split at hs
    · rename_i b hb; simp only at hb; subst hb
      simp only [doBuiltin, opAppD, doAppend, doAppendP, opMapLen, opDelete, fL_eq] at hs
      (repeat' (first | (cases hs; done) | exact nodr_eOne hs | exact nodr_bind hs | exact nodr_ePr hs | exact nodr_go hs rfl | (simp at hs; done) | (exfalso; simp [chgsAr, ho] at hc; done) | split at hs))
    · rename_i fo hc'; simp only at hc'; subst hc'
      cases fo with
      | func f =>
        simp only [chgsAr, ho] at hc; simp only [opCallV, SS.ev] at hs; split at hs
        · split at hs
          · exact nodr_go hs rfl
          · simp only [doCall] at hs; split at hs
            · rename_i sig hsig; rw [hsig] at hc; simp only [Bool.not_eq_false', List.isEmpty_iff] at hc; split at hs
              · split at hs
                · split at hs
                  · rename_i hh; rw [hc] at hh; cases hh
                  · (repeat' (first | (cases hs; done) | exact nodr_go hs rfl | split at hs))
                · cases hs
              · cases hs
            · (repeat' (first | (cases hs; done) | (simp at hs; done) | split at hs))
        · cases hs
      | _ => simp [chgsAr, ho] at hc
    · cases hs
  all_goals first
    | (rename_i ho; simp [chgsAr, ho] at hc; done)
    | ((repeat' (first | (cases hs; done) | exact nodr_eOne hs | exact nodr_bind hs | exact nodr_ePr hs | exact nodr_go hs rfl | (simp at hs; done) | split at hs)); done)
    | ((try simp only [opPick, opLoad, opStore, opConvert, opSlice, opSliceD, opIndexD, opIndexAddr, opMakeSlice, opBuildSlice, doBin, doBinC, opLookup, fL_eq] at hs)
       (repeat' (first | (cases hs; done) | exact nodr_eOne hs | exact nodr_bind hs | exact nodr_ePr hs | exact nodr_go hs rfl | (simp only [Option.bind_eq_some_iff] at hs; obtain ⟨_, _, hs'⟩ := hs; exact nodr_eOne hs') | (simp only [Option.bind_eq_some_iff] at hs; obtain ⟨_, _, hs'⟩ := hs; exact nodr_go hs' rfl) | (simp at hs; done) | split at hs)); done)

theorem Still.after [Arn] {δ : Δ} (h : Still st) (hd : δ.dy = []) : Still (st.after δ) := by
  have e : ∀ k, (st.after δ).dynAt k = st.dynAt k := fun k => by rw [after_eq]; simp only [SS.dynAt, hd, List.nil_append]
  refine ⟨fun k hk => ?_, fun k hk => ?_⟩
  · rw [e]; rw [after_eq] at hk; simp only [newLive, List.mem_append, toks_mem] at hk; rcases hk with ⟨h1, _⟩ | hk
    · exact h.new k h1
    · split at hk
      · exact h.live k (List.mem_filter.1 hk).1
      · exact h.live k hk
  · rw [e]; rw [after_eq] at hk; exact h.new k (by simp only at hk; omega)

def like (s t : SS) : Prop := ∃ f : List (Nat × Bool) × List (Nat × Nat), t = { s with facts := f.1, hn := f.2 }

def chain : List (SS × Δ) → SS → SS → Prop
  | [], s, s' => like s s'
  | q :: E, s, s' => like s q.1 ∧ chain E (q.1.after q.2) s'

structure OkE [Arn] (X : Cx) (ops : Array Oper) (Φ : Nat → Cont) (ρ : List D) (i : Nat) (q : SS × Δ) : Prop where
  ex : ∃ o, ops[i]? = some o ∧ (∀ d, o.dst = some d → d < q.1.n) ∧ q.2.dst = o.dst ∧ okδ q.1 q.2 = true ∧
    ((guardOf q.1 ops o.guard = .no ∧ q.2 = { dst := o.dst, sv := .dead }) ∨
     (guardOf q.1 ops o.guard = .yes ∧ ∃ e, stepOp X q.1 o = some (.go e q.2) ∧ ∀ p ys us, e = some (p, ys, us) → EnvOk Φ ρ q.1.nv p ys))
  fact : ∀ i b, look q.1.facts i = some b → nth ρ i = some ⟨.bool, b⟩

theorem EnvOk.app [Arn] {ρ outs : List D} {nv : Nat} {p : Pr} {xs : List A} (h : EnvOk Φ ρ nv p xs) : EnvOk Φ (ρ ++ outs) nv p xs := by
  obtain ⟨ds, os, h1, h2, h3⟩ := h; exact ⟨ds, os, evs_mono (fun i d h => nth_app h) _ _ h1, h2, fun j d hj => nth_app (h3 j d hj)⟩

theorem OkE.app [Arn] {ops : Array Oper} {ρ outs : List D} {i : Nat} {q : SS × Δ} (h : OkE X ops Φ ρ i q) : OkE X ops Φ (ρ ++ outs) i q := by
  obtain ⟨⟨o, h1, h2, h3, h4, h5⟩, h6⟩ := h; refine ⟨⟨o, h1, h2, h3, h4, h5.imp id ?_⟩, fun i b hb => nth_app (h6 i b hb)⟩
  rintro ⟨k1, e, k2, k3⟩
  exact ⟨k1, e, k2, fun p ys us he => (k3 p ys us he).app⟩

theorem chain_like [Arn] {E : List (SS × Δ)} {s t s' : SS} (h : like s t) (hc : chain E t s') : chain E s s' := by
  cases E with
  | nil => obtain ⟨f, rfl⟩ := h; obtain ⟨f', rfl⟩ := hc; exact ⟨f', rfl⟩
  | cons q E =>
    obtain ⟨f, rfl⟩ := h; obtain ⟨⟨f', h1⟩, h2⟩ := hc; exact ⟨⟨f', h1⟩, h2⟩

theorem hintAll_eq [Arn] : ∀ (l : List Oper) (st : SS), ∃ hn, hintAll l st = { st with hn := hn }
  | [], st => ⟨st.hn, rfl⟩
  | o :: r, st => by
    unfold hintAll
    (repeat' (first | exact hintAll_eq r _ | (obtain ⟨hn, h⟩ := hintAll_eq r { st with hn := _ }; exact ⟨hn, h⟩) | split))

theorem path [Arn] (hΦ : ΦOk X Φ) {ops : Array Oper} : ∀ (n : Nat) (l : List Nat) (lv : Nat) (st : SS) (K : List KI) (ir : IR), go X top sig n false lv (.dops false ops l) st K = some ir →
    (∀ i ∈ l, ∀ o, ops[i]? = some o → callOk X o = true) → ∀ (R : Type) (ρ : List D) (kr : List D → Option R) (kj : Nat → List D → Option R) (r : R), den Φ ir R lv ρ kr kj = some r → Ev st ρ → Still st →
    ∃ (E : List (SS × Δ)) (st' : SS) (outs : List D) (n' : Nat) (ir' : IR), E.length = l.length ∧ chain E st st' ∧ (∀ (k : Nat) (q : SS × Δ) (i : Nat), E[k]? = some q → l[k]? = some i → OkE X ops Φ (ρ ++ outs) i q) ∧ (∀ q ∈ E, Still q.1 ∧ q.2.dy = []) ∧
      n' < n ∧ go X top sig n' false lv (.res .norm) st' K = some ir' ∧ den Φ ir' R lv (ρ ++ outs) kr kj = some r ∧ Ev st' (ρ ++ outs) := by
  intro n; induction n with
  | zero => intro l lv st K ir h; simp [go] at h
  | succ n ih =>
    intro l lv st K ir h hc R ρ kr kj r hd hE hS; cases l with
    | nil =>
      simp only [go] at h; obtain ⟨hn', hh⟩ := hintAll_eq ops.toList st; rw [hh] at h; exact ⟨[], { st with hn := hn' }, [], n, ir, rfl, ⟨(st.facts, hn'), rfl⟩, fun k q i hk => by simp at hk, fun q hq => by simp at hq, Nat.lt_succ_self _, h, by rw [List.append_nil]; exact hd, by rw [List.append_nil]; exact ⟨hE.len, hE.fact⟩⟩
    | cons i rest =>
      simp only [go] at h; split at h
      · cases h
      · rename_i o ho; split at h
        · cases h
        · rename_i hdst; have hdst : ∀ d, o.dst = some d → d < st.n := dstOut_spec hdst
          have hco := hc i (by simp) o ho
          have hcr : ∀ i ∈ rest, ∀ o, ops[i]? = some o → callOk X o = true := fun i hi => hc i (by simp [hi])
          have part : ∀ x, both (.ite (.v x)) (go X top sig n false lv (.dops false ops (i :: rest)) (st.fact x true) K) (go X top sig n false lv (.dops false ops (i :: rest)) (st.fact x false) K) = some ir →
              ∃ (E : List (SS × Δ)) (st' : SS) (outs : List D) (n' : Nat) (ir' : IR), E.length = (i :: rest).length ∧ chain E st st' ∧ (∀ (k : Nat) (q : SS × Δ) (j : Nat), E[k]? = some q → (i :: rest)[k]? = some j → OkE X ops Φ (ρ ++ outs) j q) ∧ (∀ q ∈ E, Still q.1 ∧ q.2.dy = []) ∧
                n' < n + 1 ∧ go X top sig n' false lv (.res .norm) st' K = some ir' ∧ den Φ ir' R lv (ρ ++ outs) kr kj = some r ∧ Ev st' (ρ ++ outs) := by
            intro x hx; obtain ⟨ia, ib, h1, h2, rfl⟩ := both_some hx; obtain ⟨v, hv, hd'⟩ := ite_eval hd; have : ∃ ir1, go X top sig n false lv (.dops false ops (i :: rest)) (st.fact x v) K = some ir1 ∧ den Φ ir1 R lv ρ kr kj = some r := by
              cases v with
              | true => exact ⟨_, h1, hd'⟩
              | false => exact ⟨_, h2, hd'⟩
            obtain ⟨ir1, h3, h4⟩ := this; obtain ⟨E, st', outs, n', ir', k1, k2, k3, kS, k4, k5⟩ := ih _ _ _ _ _ h3 hc R ρ kr kj r h4 (hE.know hv) ⟨hS.live, hS.new⟩
            exact ⟨E, st', outs, n', ir', k1, chain_like ⟨((x, v) :: st.facts, st.hn), rfl⟩ k2, k3, kS, by omega, k5⟩
          have one : ∀ (δ : Δ) (outs1 : List D) (ir1 : IR), OkE X ops Φ (ρ ++ outs1) i (st, δ) → δ.dy = [] → outs1.length = δ.nv → go X top sig n false lv (.dops false ops rest) (st.after δ) K = some ir1 → den Φ ir1 R lv (ρ ++ outs1) kr kj = some r →
              ∃ (E : List (SS × Δ)) (st' : SS) (outs : List D) (n' : Nat) (ir' : IR), E.length = (i :: rest).length ∧ chain E st st' ∧ (∀ (k : Nat) (q : SS × Δ) (j : Nat), E[k]? = some q → (i :: rest)[k]? = some j → OkE X ops Φ (ρ ++ outs) j q) ∧ (∀ q ∈ E, Still q.1 ∧ q.2.dy = []) ∧
                n' < n + 1 ∧ go X top sig n' false lv (.res .norm) st' K = some ir' ∧ den Φ ir' R lv (ρ ++ outs) kr kj = some r ∧ Ev st' (ρ ++ outs) := by
            intro δ outs1 ir1 hok hnd hl hg hdn; obtain ⟨E, st', outs, n', ir', k1, k2, k3, kS, k4, k5, k6, k7⟩ := ih _ _ _ _ _ hg hcr R _ kr kj r hdn (hE.add hl) (hS.after hnd)
            refine ⟨(st, δ) :: E, st', outs1 ++ outs, n', ir', by simp [k1], ⟨⟨(st.facts, st.hn), rfl⟩, k2⟩, fun k q j hk hj => ?_, fun q hq => (List.mem_cons.1 hq).elim (fun e => by subst e; exact ⟨hS, hnd⟩) (kS q), by omega, k5, by rw [← List.append_assoc]; exact k6, by rw [← List.append_assoc]; exact k7⟩
            rw [← List.append_assoc]; cases k with
            | zero =>
              simp only [List.getElem?_cons_zero, oi] at hk hj; subst hk; subst hj; exact hok.app
            | succ k => exact k3 k q j (by simpa using hk) (by simpa using hj)
          split at h
          · cases h
          · rename_i hg; rw [SS.app_eq] at h; refine one { dst := o.dst, sv := .dead } [] _ ?_ rfl rfl h (by rw [List.append_nil]; exact hd)
            rw [List.append_nil]; exact ⟨⟨o, ho, hdst, rfl, rfl, .inl ⟨hg, rfl⟩⟩, hE.fact⟩
          · exact part _ h
          · rename_i hg; split at h
            · rename_i e δ hst; split at h
              · rename_i hok; replace hok : okδ st δ = true := by simp only [Bool.and_eq_true] at hok; exact hok.1
                rw [SS.app_eq] at h; have hi := step_info hst
                obtain ⟨k', outs, h1, h2, h3, h4⟩ := op_eval hΦ hi h hd hE.len; refine one δ outs k' ⟨⟨o, ho, hdst, hi.dst, hok, .inr ⟨hg, e, hst, h4⟩⟩, fun j b hj => nth_app (hE.fact j b hj)⟩ (step_nod hS.dynL hco hst) h2 h1 h3
              · cases h
            · simp only [oi] at h; subst h; simp [den] at hd
            · exact part _ h
            · cases h

theorem pathD [Arn] (hΦ : ΦOk X Φ) {ops : Array Oper} : ∀ (n : Nat) (l : List Nat) (lv : Nat) (st : SS) (K : List KI) (ir : IR), go X top sig n false lv (.dops true ops l) st K = some ir →
    ∀ (R : Type) (ρ : List D) (kr : List D → Option R) (kj : Nat → List D → Option R) (r : R), den Φ ir R lv ρ kr kj = some r → Ev st ρ →
    ∃ (E : List (SS × Δ)) (st' : SS) (outs : List D) (n' : Nat) (ir' : IR), E.length = l.length ∧ chain E st st' ∧ (∀ (k : Nat) (q : SS × Δ) (i : Nat), E[k]? = some q → l[k]? = some i → OkE X ops Φ (ρ ++ outs) i q) ∧ (∀ k q, E[k]? = some q → q.2.kill = none ∧ (k + 1 < E.length → q.2.dy = [])) ∧
      n' < n ∧ go X top sig n' false lv (.res .norm) st' K = some ir' ∧ den Φ ir' R lv (ρ ++ outs) kr kj = some r ∧ Ev st' (ρ ++ outs) := by
  intro n; induction n with
  | zero => intro l lv st K ir h; simp [go] at h
  | succ n ih =>
    intro l lv st K ir h R ρ kr kj r hd hE; cases l with
    | nil =>
      simp only [go] at h; obtain ⟨hn', hh⟩ := hintAll_eq ops.toList st; rw [hh] at h; exact ⟨[], { st with hn := hn' }, [], n, ir, rfl, ⟨(st.facts, hn'), rfl⟩, fun k q i hk => by simp at hk, fun k q hk => by simp at hk, Nat.lt_succ_self _, h, by rw [List.append_nil]; exact hd, by rw [List.append_nil]; exact ⟨hE.len, hE.fact⟩⟩
    | cons i rest =>
      simp only [go] at h; split at h
      · cases h
      · rename_i o ho; split at h
        · cases h
        · rename_i hdst; have hdst : ∀ d, o.dst = some d → d < st.n := dstOut_spec hdst
          have part : ∀ x, both (.ite (.v x)) (go X top sig n false lv (.dops true ops (i :: rest)) (st.fact x true) K) (go X top sig n false lv (.dops true ops (i :: rest)) (st.fact x false) K) = some ir →
              ∃ (E : List (SS × Δ)) (st' : SS) (outs : List D) (n' : Nat) (ir' : IR), E.length = (i :: rest).length ∧ chain E st st' ∧ (∀ (k : Nat) (q : SS × Δ) (j : Nat), E[k]? = some q → (i :: rest)[k]? = some j → OkE X ops Φ (ρ ++ outs) j q) ∧ (∀ k q, E[k]? = some q → q.2.kill = none ∧ (k + 1 < E.length → q.2.dy = [])) ∧
                n' < n + 1 ∧ go X top sig n' false lv (.res .norm) st' K = some ir' ∧ den Φ ir' R lv (ρ ++ outs) kr kj = some r ∧ Ev st' (ρ ++ outs) := by
            intro x hx; obtain ⟨ia, ib, h1, h2, rfl⟩ := both_some hx; obtain ⟨v, hv, hd'⟩ := ite_eval hd; have : ∃ ir1, go X top sig n false lv (.dops true ops (i :: rest)) (st.fact x v) K = some ir1 ∧ den Φ ir1 R lv ρ kr kj = some r := by
              cases v with
              | true => exact ⟨_, h1, hd'⟩
              | false => exact ⟨_, h2, hd'⟩
            obtain ⟨ir1, h3, h4⟩ := this; obtain ⟨E, st', outs, n', ir', k1, k2, k3, kS, k4, k5⟩ := ih _ _ _ _ _ h3 R ρ kr kj r h4 (hE.know hv)
            exact ⟨E, st', outs, n', ir', k1, chain_like ⟨((x, v) :: st.facts, st.hn), rfl⟩ k2, k3, kS, by omega, k5⟩
          have one : ∀ (δ : Δ) (outs1 : List D) (ir1 : IR), OkE X ops Φ (ρ ++ outs1) i (st, δ) → (δ.kill = none ∧ (0 < rest.length → δ.dy = [])) → outs1.length = δ.nv → go X top sig n false lv (.dops true ops rest) (st.after δ) K = some ir1 → den Φ ir1 R lv (ρ ++ outs1) kr kj = some r →
              ∃ (E : List (SS × Δ)) (st' : SS) (outs : List D) (n' : Nat) (ir' : IR), E.length = (i :: rest).length ∧ chain E st st' ∧ (∀ (k : Nat) (q : SS × Δ) (j : Nat), E[k]? = some q → (i :: rest)[k]? = some j → OkE X ops Φ (ρ ++ outs) j q) ∧ (∀ k q, E[k]? = some q → q.2.kill = none ∧ (k + 1 < E.length → q.2.dy = [])) ∧
                n' < n + 1 ∧ go X top sig n' false lv (.res .norm) st' K = some ir' ∧ den Φ ir' R lv (ρ ++ outs) kr kj = some r ∧ Ev st' (ρ ++ outs) := by
            intro δ outs1 ir1 hok hnd hl hg hdn; obtain ⟨E, st', outs, n', ir', k1, k2, k3, kS, k4, k5, k6, k7⟩ := ih _ _ _ _ _ hg R _ kr kj r hdn (hE.add hl)
            refine ⟨(st, δ) :: E, st', outs1 ++ outs, n', ir', by simp [k1], ⟨⟨(st.facts, st.hn), rfl⟩, k2⟩, fun k q j hk hj => ?_, fun k q hk => ?_, by omega, k5, by rw [← List.append_assoc]; exact k6, by rw [← List.append_assoc]; exact k7⟩
            · rw [← List.append_assoc]; cases k with
              | zero =>
                simp only [List.getElem?_cons_zero, oi] at hk hj; subst hk; subst hj; exact hok.app
              | succ k => exact k3 k q j (by simpa using hk) (by simpa using hj)
            · cases k with
              | zero =>
                simp only [List.getElem?_cons_zero, oi] at hk; subst hk; exact ⟨hnd.1, fun hl => hnd.2 (by simp only [List.length_cons] at hl; omega)⟩
              | succ k =>
                obtain ⟨e1, e2⟩ := kS k q (by simpa using hk)
                exact ⟨e1, fun hl => e2 (by simp only [List.length_cons] at hl; omega)⟩
          split at h
          · cases h
          · rename_i hg; rw [SS.app_eq] at h; refine one { dst := o.dst, sv := .dead } [] _ ?_ ⟨rfl, fun _ => rfl⟩ rfl h (by rw [List.append_nil]; exact hd)
            rw [List.append_nil]; exact ⟨⟨o, ho, hdst, rfl, rfl, .inl ⟨hg, rfl⟩⟩, hE.fact⟩
          · exact part _ h
          · rename_i hg; split at h
            · rename_i e δ hst; split at h
              · rename_i hok; simp only [Bool.and_eq_true, Bool.not_true, Bool.false_or] at hok; rw [SS.app_eq] at h; have hi := step_info hst
                obtain ⟨k', outs, h1, h2, h3, h4⟩ := op_eval hΦ hi h hd hE.len; refine one δ outs k' ⟨⟨o, ho, hdst, hi.dst, hok.1, .inr ⟨hg, e, hst, h4⟩⟩, fun j b hj => nth_app (hE.fact j b hj)⟩ ?_ h2 h1 h3
                have hcl := hok.2
                simp only [calm, Bool.and_eq_true] at hcl; refine ⟨?_, fun hl => ?_⟩
                · have := hcl.1
                  cases hkk : δ.kill with
                  | none => rfl
                  | some k0 => rw [hkk] at this; cases this
                · have := hcl.2
                  cases rest with
                  | nil => simp at hl
                  | cons r0 rr =>
                    cases hdd : δ.dy with
                    | nil => rfl
                    | cons x xs => rw [hdd] at this; simp at this
              · cases h
            · simp only [oi] at h; subst h; simp [den] at hd
            · exact part _ h
            · cases h
end
end Go.Proofs.Ytmglkddddpipgaa.Sx

namespace Go.Proofs.Ytmglkddddpipgaa.Sx
open Go.RowKit

section
variable {X : Cx} {top : Func} {sig : Sig} {B : Base} {Φ : Nat → Cont} {ops : Array Oper}

def bump (q : SS × Δ) : Nat := q.1.nb + (match q.2.newb with | some _ => 1 | none => 0)

theorem after_nb [Arn] (q : SS × Δ) : (q.1.after q.2).nb = bump q := by
  rw [after_eq]; simp only [newNb, bump]; cases q.2.newb <;> rfl

theorem abs_like [Arn] {s t : SS} (h : like s t) : abs t = abs s := by obtain ⟨f, rfl⟩ := h; rfl

theorem chain_spec [Arn] : ∀ (E : List (SS × Δ)) (s s' : SS), chain E s s' → (∀ q ∈ E, (∀ d, q.2.dst = some d → d < q.1.n) ∧ okδ q.1 q.2 = true) →
    abs s' = E.foldl AS.step (abs s) ∧ s.nb ≤ s'.nb ∧ s.ntok ≤ s'.ntok ∧
    (∀ (i : Nat) (q : SS × Δ), E[i]? = some q → q.1.n = s.n ∧ abs q.1 = (E.take i).foldl AS.step (abs s) ∧ s.nb ≤ q.1.nb ∧ s.ntok ≤ q.1.ntok ∧ bump q ≤ s'.nb ∧ q.1.ntok + q.2.nt ≤ s'.ntok) ∧
    (∀ (i j : Nat) (q q' : SS × Δ), E[i]? = some q → E[j]? = some q' → i < j → bump q ≤ q'.1.nb ∧ q.1.ntok + q.2.nt ≤ q'.1.ntok) ∧
    (∀ k, k < s.ntok → k ∉ s.live → ∀ q ∈ E, k ∉ q.1.live) ∧
    (∀ (i j k : Nat) (q q' : SS × Δ), E[i]? = some q → E[j]? = some q' → i < j → q.2.kill = some k → k ∉ q'.1.live)
  | [], s, s', h, _ => by
    obtain ⟨f, rfl⟩ := h; exact ⟨rfl, Nat.le_refl _, Nat.le_refl _, fun i q h => by simp at h, fun i j q q' h => by simp at h, fun k _ _ q h => by simp at h, fun i j k q q' h => by simp at h⟩
  | q :: E, s, s', h, hok => by
    obtain ⟨h1, h2⟩ := h; obtain ⟨k1, k2⟩ := hok q (by simp)
    obtain ⟨e1, e2, e3, e4, e5, e6, e7⟩ := chain_spec E _ _ h2 (fun q' hq => hok q' (by simp [hq]))
    have ha : abs (q.1.after q.2) = (abs s).step q := by rw [abs_after _ _ k1 k2, abs_like h1]; rfl
    have hnb : q.1.nb = s.nb := by obtain ⟨f, h⟩ := h1; rw [h]
    have hnt : q.1.ntok = s.ntok := by obtain ⟨f, h⟩ := h1; rw [h]
    have hn : q.1.n = s.n := by obtain ⟨f, h⟩ := h1; rw [h]
    have hlv : q.1.live = s.live := by obtain ⟨f, h⟩ := h1; rw [h]
    have hb := after_nb q
    have ht : (q.1.after q.2).ntok = q.1.ntok + q.2.nt := by rw [after_eq]
    have hnn : (q.1.after q.2).n = q.1.n := by rw [after_eq]
    have hbb : q.1.nb ≤ bump q := by unfold bump; omega
    rw [hb] at e2; rw [ht] at e3; refine ⟨by rw [e1, ha]; rfl, by omega, by omega, fun i q' hi => ?_, fun i j p p' hi hj hlt => ?_, fun k hk hkl p hp => ?_, fun i j k p p' hi hj hlt hkl => ?_⟩
    · cases i with
      | zero =>
        simp only [List.getElem?_cons_zero, oi] at hi; subst hi; exact ⟨hn, by rw [abs_like h1]; rfl, by omega, by omega, e2, e3⟩
      | succ i =>
        obtain ⟨f1, f2, f3, f4, f5, f6⟩ := e4 i q' (by simpa using hi)
        rw [hb] at f3; rw [ht] at f4; refine ⟨by rw [f1, hnn, hn], by rw [f2, ha]; rfl, by omega, by omega, f5, f6⟩
    · cases j with
      | zero => omega
      | succ j =>
        cases i with
        | zero =>
          simp only [List.getElem?_cons_zero, oi] at hi; subst hi; obtain ⟨f1, f2, f3, f4, f5, f6⟩ := e4 j p' (by simpa using hj)
          rw [hb] at f3; rw [ht] at f4; exact ⟨f3, f4⟩
        | succ i => exact e5 i j p p' (by simpa using hi) (by simpa using hj) (by omega)
    · rcases List.mem_cons.1 hp with rfl | hp
      · rw [hlv]; exact hkl
      · refine e6 k (by rw [ht]; omega) ?_ p hp
        rw [after_eq]; simp only [newLive, List.mem_append, toks_mem, not_or]; refine ⟨by omega, ?_⟩
        cases q.2.kill with
        | none => rw [hlv]; exact hkl
        | some j => simp only [List.mem_filter, not_and]; intro hm; rw [hlv] at hm; exact absurd hm hkl
    · cases j with
      | zero => omega
      | succ j =>
        cases i with
        | zero =>
          simp only [List.getElem?_cons_zero, oi] at hi; subst hi; have hkn : k < q.1.ntok := by
            simp only [okδ, hkl, Bool.and_eq_true, blt_eq, decide_eq_true_eq] at k2; exact k2.2
          refine e6 k (by rw [ht]; omega) ?_ p' (List.mem_of_getElem? (by simpa using hj))
          rw [after_eq]; simp only [newLive, List.mem_append, toks_mem, not_or, hkl, List.mem_filter, not_and]; exact ⟨by omega, fun _ => by simp⟩
        | succ i => exact e7 i j k p p' (by simpa using hi) (by simpa using hj) (by omega) hkl

theorem mask_take [Arn] {S : Nat → Prop} : ∀ (E : List (SS × Δ)) (k i : Nat) (α : AS), (∀ j, S j ↔ j < k + i) → mask E S k α = (E.take i).foldl AS.step α
  | [], k, i, α, _ => by simp [mask]
  | q :: E, k, 0, α, h => by
    rw [mask_none]
    · rfl
    · intro j _ hs; have := (h _).1 hs; omega
  | q :: E, k, i + 1, α, h => by
    have h1 : mask (q :: E) S k α = mask E S (k + 1) (α.step q) := by rw [mask]; exact congrArg _ (if_pos ((h k).2 (by omega)))
    rw [h1, mask_take E (k + 1) i _ (fun j => by rw [h j]; omega)]
    rfl
end
end Go.Proofs.Ytmglkddddpipgaa.Sx

namespace Go.Proofs.Ytmglkddddpipgaa.Sx
open Go.RowKit

section
variable {X : Cx} {st : SS} {o : Oper} {e : Option (Pr × List A × List Ty)} {δ : Δ}

def Plain (δ : Δ) : Prop := δ.kill = none ∧ δ.setb = none

theorem Plain.eOne [Arn] {sv : SV} (h : eOne o sv = some (.go e δ)) : Plain δ := by
  obtain ⟨rfl, rfl⟩ := eOne_go h; exact ⟨rfl, rfl⟩

theorem Plain.bind [Arn] {s : Option SV} (h : (s.bind fun sv => Sx.eOne o sv) = some (.go e δ)) : Plain δ := by
  simp only [Option.bind_eq_some_iff] at h; obtain ⟨sv, _, h⟩ := h; exact .eOne h

theorem Plain.ePr [Arn] {q : Pr} {xs : List A} {t : Ty} (h : ePr st o q xs t = some (.go e δ)) : Plain δ := by
  obtain ⟨rfl, rfl⟩ := ePr_go h; exact ⟨rfl, rfl⟩

theorem Plain.go [Arn] {e0 : Option (Pr × List A × List Ty)} {δ0 : Δ} (h : (some (Eff.go e0 δ0) : Option Eff) = some (.go e δ)) (hk : δ0.kill = none) (hb : δ0.setb = none) : Plain δ := by
  simp only [oi, Eff.go.injEq] at h; obtain ⟨rfl, rfl⟩ := h; exact ⟨hk, hb⟩

theorem appTok_own [Arn] {te : Ty} {el : TypeId} {c : SC} {k : Nat} (h : appTok st te el c = some (some k)) : ∃ i t e, c = .own i k t e := by
  unfold appTok at h; split at h
  · split at h
    · simp only [oi] at h; subst h; exact ⟨_, _, _, rfl⟩
    · cases h
  · split at h <;> simp at h
  · cases h

def SC.isTok (c : SC) (k : Nat) : Prop := (∃ i t e, c = .own i k t e) ∨ ∃ ps e, c = .lst k ps e

theorem lstOf_own [Arn] {el : TypeId} {c : SC} {ps : List (Nat × Nat)} {k : Nat} (h : lstOf st el c = some (ps, some k)) : c.isTok k := by
  unfold lstOf at h; split at h
  · simp at h
  · split at h
    · simp only [oi, Prod.mk.injEq] at h; obtain ⟨_, rfl⟩ := h; exact .inr ⟨_, _, rfl⟩
    · cases h
  · cases h

theorem opAppD_mem [Arn] {t0 t1 : TypeId} {x y : Operand} (hs : opAppD X.P st o t0 t1 x y = some (.go e δ)) :
    δ.setb = none ∧ ((∀ k, st.dynL k = none) → ∀ k, δ.kill = some k → ∃ c, (st.ev X.P (some t0) x).bind SV.c1 = some c ∧ c.isTok k) := by
  unfold opAppD at hs; split at hs
  · rename_i hcx _ _; split at hs
    · split at hs
      · split at hs
        · rename_i hd; split at hs
          · simp only [oi, Eff.go.injEq] at hs; obtain ⟨rfl, rfl⟩ := hs; exact ⟨rfl, fun hn => by rw [hn] at hd; cases hd⟩
          · cases hs
        · cases hs
      · split at hs
        · simp only [oi, Eff.go.injEq] at hs; obtain ⟨rfl, rfl⟩ := hs; refine ⟨rfl, fun _ k hk => ?_⟩
          simp only [oi] at hk; subst hk; exact ⟨_, hcx, .inl ⟨_, _, _, rfl⟩⟩
        · cases hs
      · cases hs
    · cases hs
  · cases hs

theorem doAppend_mem [Arn] {t0 t1 : TypeId} {x y : Operand} (hs : doAppend X.P st o t0 t1 x y = some (.go e δ)) :
    δ.setb = none ∧ ∀ k, δ.kill = some k → ∃ c, (st.ev X.P (some t0) x).bind SV.c1 = some c ∧ c.isTok k := by
  unfold doAppend at hs; split at hs
  · split at hs
    · rename_i cx ay ty hcx hay; split at hs
      · split at hs
        · split at hs
          · simp only [oi, Eff.go.injEq] at hs; obtain ⟨rfl, rfl⟩ := hs; exact ⟨rfl, fun k hk => by simp at hk⟩
          · cases hs
        · cases hs
        split at hs
        · rename_i kl ax tx htok harg; have fin : ∀ k, kl = some k → ∃ c, (st.ev X.P (some t0) x).bind SV.c1 = some c ∧ c.isTok k := by
            rintro k rfl
            obtain ⟨i, t, e', rfl⟩ := appTok_own htok; exact ⟨_, hcx, .inl ⟨i, t, e', rfl⟩⟩
          simp only at hs
          split at hs
          · split at hs
            · simp only [oi, Eff.go.injEq] at hs; obtain ⟨rfl, rfl⟩ := hs; exact ⟨rfl, fin⟩
            · cases hs
          · split at hs
            · simp only [oi, Eff.go.injEq] at hs; obtain ⟨rfl, rfl⟩ := hs; exact ⟨rfl, fin⟩
            · cases hs
          · cases hs
        · cases hs
      · cases hs
    · cases hs
  · simp only [doAppendP] at hs; split at hs
    · rename_i cx k2 qs e2 e1 hcx hcy hu1; split at hs
      · rename_i ps kl htok; split at hs
        · simp only [fL_eq, oi, Eff.go.injEq] at hs; obtain ⟨rfl, rfl⟩ := hs; refine ⟨rfl, fun k hk => ?_⟩
          simp only at hk
          subst hk; exact ⟨_, hcx, lstOf_own htok⟩
        · cases hs
      · cases hs
    · cases hs
  · cases hs

theorem step_mem [Arn] (hn : ∀ k, st.dynL k = none) (hs : stepOp X st o = some (.go e δ)) :
    (∀ k, δ.kill = some k → ∃ h x c, x ∈ o.op.operands ∧ (st.ev X.P h x).bind SV.c1 = some c ∧ c.isTok k) ∧
    (∀ β r, δ.setb = some (β, r) → stores o = true ∧ ∃ x off, x ∈ o.op.operands ∧ addrOf o = some x ∧ st.ev X.P none x = some (.one (.adr β off))) := by
  have plain : Plain δ → ((∀ k, δ.kill = some k → ∃ h x c, x ∈ o.op.operands ∧ (st.ev X.P h x).bind SV.c1 = some c ∧ c.isTok k) ∧
    (∀ β r, δ.setb = some (β, r) → stores o = true ∧ ∃ x off, x ∈ o.op.operands ∧ addrOf o = some x ∧ st.ev X.P none x = some (.one (.adr β off)))) := fun ⟨h1, h2⟩ => ⟨fun k hk => absurd (h1.symm.trans hk) (by simp), fun β r hr => absurd (h2.symm.trans hr) (by simp)⟩
  have hds := dslOf_none hn
  simp only [stepOp] at hs; split at hs
  case h_9 t x y ho =>
    simp only [opStore, fL_eq, hn] at hs; split at hs
    · rename_i β off hev; split at hs
      · split at hs
        · simp only [oi, Eff.go.injEq] at hs; obtain ⟨rfl, rfl⟩ := hs; refine ⟨fun k hk => by simp at hk, fun β' r hr => ?_⟩
          simp only [oi, Prod.mk.injEq] at hr; obtain ⟨rfl, _⟩ := hr; refine ⟨?_, x, off, by rw [ho]; simp [Op.operands], addrOf_store ho, hev⟩
          obtain ⟨d, op, ty, pos, af, gu⟩ := o; simp only at ho; subst ho; rfl
        · cases hs
      · cases hs
    · cases hs
    · cases hs
  case h_23 c ho =>
    obtain ⟨callee, xs, ts⟩ := c; split at hs
    · rename_i b hc; simp only at hc; subst hc
      simp only [doBuiltin, opDelete, opMapLen, hn] at hs; split at hs
      · exact plain (by (repeat' (first | (cases hs; done) | exact Plain.eOne hs | exact Plain.bind hs | exact Plain.ePr hs | exact Plain.go hs rfl rfl | (simp at hs; done) | (simp only [Option.bind_eq_some_iff] at hs; obtain ⟨_, _, h'⟩ := hs; exact Plain.eOne h') | (simp only [Option.bind_eq_some_iff] at hs; obtain ⟨_, _, h'⟩ := hs; exact Plain.go h' rfl rfl) | split at hs)))
      · exact plain (by (repeat' (first | (cases hs; done) | exact Plain.go hs rfl rfl | (simp at hs; done) | split at hs)))
      · rename_i x y t0 t1 hxs hts; obtain ⟨h1, h2⟩ : δ.setb = none ∧ ∀ k, δ.kill = some k → ∃ c, (st.ev X.P (some t0) x).bind SV.c1 = some c ∧ c.isTok k := by
          split at hs
          · exact ⟨(opAppD_mem hs).1, (opAppD_mem hs).2 hn⟩
          · exact doAppend_mem hs
        refine ⟨fun k hk => ?_, fun β r hr => by rw [h1] at hr; cases hr⟩
        obtain ⟨c, h3, h4⟩ := h2 k hk; refine ⟨_, x, c, ?_, h3, h4⟩
        have hm : x ∈ xs.toList := by rw [hxs]; simp
        rw [ho]; simp [Op.operands, Call.operands, Array.mem_toList_iff.1 hm]
      · exact plain (by (repeat' (first | (cases hs; done) | exact Plain.eOne hs | exact Plain.bind hs | exact Plain.ePr hs | exact Plain.go hs rfl rfl | (simp at hs; done) | (simp only [Option.bind_eq_some_iff] at hs; obtain ⟨_, _, h'⟩ := hs; exact Plain.eOne h') | (simp only [Option.bind_eq_some_iff] at hs; obtain ⟨_, _, h'⟩ := hs; exact Plain.go h' rfl rfl) | split at hs)))
      · exact plain (by (repeat' (first | (cases hs; done) | exact Plain.eOne hs | exact Plain.bind hs | exact Plain.ePr hs | exact Plain.go hs rfl rfl | (simp at hs; done) | (simp only [Option.bind_eq_some_iff] at hs; obtain ⟨_, _, h'⟩ := hs; exact Plain.eOne h') | (simp only [Option.bind_eq_some_iff] at hs; obtain ⟨_, _, h'⟩ := hs; exact Plain.go h' rfl rfl) | split at hs)))
      · exact plain (by (repeat' (first | (cases hs; done) | exact Plain.eOne hs | exact Plain.bind hs | exact Plain.ePr hs | exact Plain.go hs rfl rfl | (simp at hs; done) | (simp only [Option.bind_eq_some_iff] at hs; obtain ⟨_, _, h'⟩ := hs; exact Plain.eOne h') | (simp only [Option.bind_eq_some_iff] at hs; obtain ⟨_, _, h'⟩ := hs; exact Plain.go h' rfl rfl) | split at hs)))
      · exact plain (by (repeat' (first | (cases hs; done) | exact Plain.eOne hs | exact Plain.bind hs | exact Plain.ePr hs | exact Plain.go hs rfl rfl | (simp at hs; done) | (simp only [Option.bind_eq_some_iff] at hs; obtain ⟨_, _, h'⟩ := hs; exact Plain.eOne h') | (simp only [Option.bind_eq_some_iff] at hs; obtain ⟨_, _, h'⟩ := hs; exact Plain.go h' rfl rfl) | split at hs)))
      · cases hs
    · simp only [opCallV, mcOf_none hn, doCall] at hs; exact plain (by (repeat' (first | (cases hs; done) | exact Plain.eOne hs | exact Plain.bind hs | exact Plain.ePr hs | exact Plain.go hs rfl rfl | (simp at hs; done) | (simp only [Option.bind_eq_some_iff] at hs; obtain ⟨_, _, h'⟩ := hs; exact Plain.eOne h') | (simp only [Option.bind_eq_some_iff] at hs; obtain ⟨_, _, h'⟩ := hs; exact Plain.go h' rfl rfl) | split at hs)))
    · cases hs
  all_goals exact plain (by first
    | ((repeat' (first | (cases hs; done) | exact Plain.eOne hs | exact Plain.bind hs | exact Plain.ePr hs | exact Plain.go hs rfl rfl | (simp at hs; done) | (simp only [Option.bind_eq_some_iff] at hs; obtain ⟨_, _, h'⟩ := hs; exact Plain.eOne h') | (simp only [Option.bind_eq_some_iff] at hs; obtain ⟨_, _, h'⟩ := hs; exact Plain.go h' rfl rfl) | split at hs)); done)
    | (simp only [opPick, opLoad, opConvert, opSlice, opIndexD, opIndexAddr, opMakeSlice, opBuildSlice, doBin, doBinC, opLookup, opMapUpdate, opMakeMap, fL_eq, hn, hds] at hs; (repeat' (first | (cases hs; done) | exact Plain.eOne hs | exact Plain.bind hs | exact Plain.ePr hs | exact Plain.go hs rfl rfl | (simp at hs; done) | (simp only [Option.bind_eq_some_iff] at hs; obtain ⟨_, _, h'⟩ := hs; exact Plain.eOne h') | (simp only [Option.bind_eq_some_iff] at hs; obtain ⟨_, _, h'⟩ := hs; exact Plain.go h' rfl rfl) | split at hs))))
def NoSet (δ : Δ) : Prop := δ.setb = none

theorem NoSet.eOne [Arn] {sv : SV} (h : eOne o sv = some (.go e δ)) : NoSet δ := (Plain.eOne h).2
theorem NoSet.bind [Arn] {s : Option SV} (h : (s.bind fun sv => Sx.eOne o sv) = some (.go e δ)) : NoSet δ := (Plain.bind h).2
theorem NoSet.ePr [Arn] {q : Pr} {xs : List A} {t : Ty} (h : ePr st o q xs t = some (.go e δ)) : NoSet δ := (Plain.ePr h).2
theorem NoSet.go [Arn] {e0 : Option (Pr × List A × List Ty)} {δ0 : Δ} (h : (some (Eff.go e0 δ0) : Option Eff) = some (.go e δ)) (hb : δ0.setb = none) : NoSet δ := by
  simp only [oi, Eff.go.injEq] at h; obtain ⟨rfl, rfl⟩ := h; exact hb

theorem step_setb [Arn] (hs : stepOp X st o = some (.go e δ)) : ∀ β r, δ.setb = some (β, r) → stores o = true ∧ ∃ x off, x ∈ o.op.operands ∧ addrOf o = some x ∧ st.ev X.P none x = some (.one (.adr β off)) := by
  have plain : NoSet δ → (∀ β r, δ.setb = some (β, r) → stores o = true ∧ ∃ x off, x ∈ o.op.operands ∧ addrOf o = some x ∧ st.ev X.P none x = some (.one (.adr β off))) := fun h2 β r hr => absurd (h2.symm.trans hr) (by simp)
  simp only [stepOp] at hs; split at hs
  case h_9 t x y ho =>
    simp only [opStore, fL_eq] at hs; split at hs
    · rename_i β off hev; split at hs
      · split at hs
        · simp only [oi, Eff.go.injEq] at hs; obtain ⟨rfl, rfl⟩ := hs; refine fun β' r hr => ?_
          simp only [oi, Prod.mk.injEq] at hr; obtain ⟨rfl, _⟩ := hr; refine ⟨?_, x, off, by rw [ho]; simp [Op.operands], addrOf_store ho, hev⟩
          obtain ⟨d, op, ty, pos, af, gu⟩ := o; simp only at ho; subst ho; rfl
        · cases hs
      · cases hs
    · exact plain (by (repeat' (first | (cases hs; done) | exact NoSet.go hs rfl | split at hs)))
    · cases hs
  case h_23 c ho =>
    obtain ⟨callee, xs, ts⟩ := c; split at hs
    · rename_i b hc; simp only at hc; subst hc
      simp only [doBuiltin, opDelete, opMapLen] at hs; split at hs
      · exact plain (by (repeat' (first | (cases hs; done) | exact NoSet.eOne hs | exact NoSet.bind hs | exact NoSet.ePr hs | exact NoSet.go hs rfl | split at hs)))
      · exact plain (by (repeat' (first | (cases hs; done) | exact NoSet.eOne hs | exact NoSet.bind hs | exact NoSet.ePr hs | exact NoSet.go hs rfl | split at hs)))
      · exact plain (by split at hs; exact (opAppD_mem hs).1; exact (doAppend_mem hs).1)
      · exact plain (by (repeat' (first | (cases hs; done) | exact NoSet.eOne hs | exact NoSet.bind hs | exact NoSet.ePr hs | exact NoSet.go hs rfl | split at hs)))
      · exact plain (by (repeat' (first | (cases hs; done) | exact NoSet.eOne hs | exact NoSet.bind hs | exact NoSet.ePr hs | exact NoSet.go hs rfl | split at hs)))
      · exact plain (by (repeat' (first | (cases hs; done) | exact NoSet.eOne hs | exact NoSet.bind hs | exact NoSet.ePr hs | exact NoSet.go hs rfl | split at hs)))
      · exact plain (by (repeat' (first | (cases hs; done) | exact NoSet.eOne hs | exact NoSet.bind hs | exact NoSet.ePr hs | exact NoSet.go hs rfl | split at hs)))
      · cases hs
    · simp only [opCallV, doCall] at hs; exact plain (by (repeat' (first | (cases hs; done) | exact NoSet.eOne hs | exact NoSet.bind hs | exact NoSet.ePr hs | exact NoSet.go hs rfl | (simp at hs; done) | split at hs)))
    · cases hs
  all_goals exact plain (by first
    | ((repeat' (first | (cases hs; done) | exact NoSet.eOne hs | exact NoSet.bind hs | exact NoSet.ePr hs | exact NoSet.go hs rfl | (simp at hs; done) | (simp only [Option.bind_eq_some_iff] at hs; obtain ⟨_, _, h'⟩ := hs; exact NoSet.eOne h') | (simp only [Option.bind_eq_some_iff] at hs; obtain ⟨_, _, h'⟩ := hs; exact NoSet.go h' rfl) | split at hs)); done)
    | (simp only [opPick, opLoad, opConvert, opSlice, opSliceD, opIndexD, opIndexAddr, opMakeSlice, opBuildSlice, doBin, doBinC, opLookup, opMapUpdate, opMakeMap, fL_eq] at hs; (repeat' (first | (cases hs; done) | exact NoSet.eOne hs | exact NoSet.bind hs | exact NoSet.ePr hs | exact NoSet.go hs rfl | (simp at hs; done) | (simp only [Option.bind_eq_some_iff] at hs; obtain ⟨_, _, h'⟩ := hs; exact NoSet.eOne h') | (simp only [Option.bind_eq_some_iff] at hs; obtain ⟨_, _, h'⟩ := hs; exact NoSet.go h' rfl) | split at hs))))
end
end Go.Proofs.Ytmglkddddpipgaa.Sx

namespace Go.Proofs.Ytmglkddddpipgaa.Sx
open Go.RowKit

section
variable {X : Cx} {top : Func} {sig : Sig} {B : Base} {Φ : Nat → Cont} {ops : Array Oper}

structure DInv (ops : Array Oper) (E : List (SS × Δ)) (ρ : List D) (α0 : AS) (B : Base) (bs : List Act) (S : Nat → Prop) (a : Act) (w : World) : Prop where
  rel : ∃ g, RelG B ρ (mask E S 0 α0) a bs w g
  cl : ∀ (i j : Nat) (o : Oper), S i → ops[i]? = some o → j ∈ edgesOn o → S j
  lt : ∀ i, S i → i < ops.size
  box : ∀ (j i : Nat) (q q' : SS × Δ) (β : Nat) (r : List SC), S j → E[j]? = some q → q.2.setb = some (β, r) → ¬ S i → E[i]? = some q' → q'.2.newb.isSome = true → β ≠ q'.1.nb
  kil : ∀ (j i k : Nat) (q q' : SS × Δ), S j → E[j]? = some q → q.2.kill = some k → ¬ S i → E[i]? = some q' → ¬ isNew q' k

theorem fold_slot [Arn] : ∀ (E : List (SS × Δ)) (α : AS) (t : Nat), (∃ (j : Nat) (q : SS × Δ), E[j]? = some q ∧ q.2.dst = some t ∧ (E.foldl AS.step α).slot t = q.2.sv) ∨
    ((∀ q ∈ E, q.2.dst ≠ some t) ∧ (E.foldl AS.step α).slot t = α.slot t)
  | [], α, t => .inr ⟨fun q hq => by simp at hq, rfl⟩
  | q :: E, α, t => by
    rcases fold_slot E (α.step q) t with ⟨j, q', h1, h2, h3⟩ | ⟨h1, h2⟩
    · exact .inl ⟨j + 1, q', by simpa using h1, h2, h3⟩
    · have st : (α.step q).slot t = if q.2.dst = some t then q.2.sv else α.slot t := rfl
      by_cases e : q.2.dst = some t
      · refine .inl ⟨0, q, rfl, e, ?_⟩
        rw [List.foldl_cons, h2, st, if_pos e]
      · refine .inr ⟨fun q' hq' => ?_, by rw [List.foldl_cons, h2, st, if_neg e]⟩
        rcases List.mem_cons.1 hq' with rfl | hq'
        · exact e
        · exact h1 q' hq'

theorem fieldAddr_box [Arn] {st : SS} {o : Oper} {s : TypeId} {b : Tmp} {f : Nat} {e : Option (Pr × List A × List Ty)} {δ : Δ} {β off : Nat} (ho : o.op = .fieldAddr s (.tmp b) f) (hs : stepOp X st o = some (.go e δ)) (hv : δ.sv = .one (.adr β off)) :
    ∃ off0, st.slot b = some (.one (.adr β off0)) := by
  unfold stepOp at hs; simp only [ho] at hs; split at hs
  · rename_i off' t β' off0 h1 h2; split at hs
    · obtain ⟨_, rfl⟩ := eOne_go hs; simp only [SV.one.injEq, SC.adr.injEq] at hv; obtain ⟨rfl, _⟩ := hv; exact ⟨off0, h2⟩
    · cases hs
  · split at hs
    · obtain ⟨_, rfl⟩ := eOne_go hs; simp at hv
    · cases hs
  · split at hs
    · obtain ⟨_, rfl⟩ := eOne_go hs; simp at hv
    · cases hs
  · split at hs
    · obtain ⟨_, rfl⟩ := eOne_go hs; simp at hv
    · cases hs
  · split at hs
    · obtain ⟨_, rfl⟩ := eOne_go hs; simp at hv
    · cases hs
  · cases hs

theorem root_box [Arn] {an : Nat → List Nat} {st : SS} (hst : Stat X st ops an) {E : List (SS × Δ)} {st' : SS} {ρ : List D} (hch : chain E st st') (hlen : E.length = ops.size)
    (hE : ∀ (i : Nat) (q : SS × Δ), E[i]? = some q → OkE X ops Φ ρ i q) {i : Nat} {q : SS × Δ} {o : Oper} (hq : E[i]? = some q) (ho : ops[i]? = some o) {x : Operand} {b : Tmp} (hr : rootOf ops o x = some b)
    {β off β0 off0 : Nat} (hev : q.1.ev X.P none x = some (.one (.adr β off))) (hb : st.slot b = some (.one (.adr β0 off0))) : β = β0 := by
  have hok : ∀ q ∈ E, (∀ d, q.2.dst = some d → d < q.1.n) ∧ okδ q.1 q.2 = true := by
    intro q hq; obtain ⟨j, hj⟩ := List.getElem?_of_mem hq
    obtain ⟨⟨o', h1, h2, h3, h4, _⟩, _⟩ := hE j q hj; exact ⟨by rw [h3]; exact h2, h4⟩
  obtain ⟨c1, c2, c3, c4, c5, c6, c7⟩ := chain_spec E st st' hch hok; have hdst : ∀ (j : Nat) (q' : SS × Δ), E[j]? = some q' → ∃ oj, ops[j]? = some oj ∧ q'.2.dst = oj.dst := by
    intro j q' h1; obtain ⟨⟨o', k1, _, k3, _⟩, _⟩ := hE j q' h1; exact ⟨o', k1, k3⟩
  have keep : ∀ (t : Tmp), ops.toList.all (fun o' => o'.dst != some t) = true → ∀ (m : Nat) (p : SS × Δ), E[m]? = some p → (abs p.1).slot t = (abs st).slot t := by
    intro t ht m p hp; rw [(c4 m p hp).2.1]; rcases fold_slot (E.take m) (abs st) t with ⟨j, q', h1, h2, _⟩ | ⟨_, h2⟩
    · have hj : E[j]? = some q' := by
        rw [List.getElem?_take] at h1; split at h1
        · exact h1
        · cases h1
      obtain ⟨oj, k1, k2⟩ := hdst j q' hj; rw [List.all_eq_true] at ht; have := ht oj (by rw [Array.mem_toList_iff]; exact Array.mem_of_getElem? k1)
      rw [k2] at h2; simp [h2] at this
    · exact h2
  have hb' := (slot_abs hb).2
  cases x with
  | tmp t =>
    have hs : q.1.slot t = some (.one (.adr β off)) := hev
    have hs' := (slot_abs hs).2
    unfold rootOf at hr; simp only at hr
    split at hr
    · rename_i k hk; have hke := List.mem_of_find?_eq_some hk
      have hkp := List.find?_some hk
      have hki := hst.back i k o ho hke
      split at hr
      · rename_i o' ho'; simp only [ho', beq_iff_eq] at hkp; split at hr
        · rename_i sT b' f hop; split at hr
          · rename_i hall; simp only [oi] at hr; subst hr; have hi : i < E.length := (List.getElem?_eq_some_iff.1 hq).1
            obtain ⟨qk, hqk⟩ : ∃ qk, E[k]? = some qk := ⟨_, List.getElem?_eq_getElem (by omega)⟩
            have hkt : (E.take i)[k]? = some qk := by rw [List.getElem?_take, if_pos hki]; exact hqk
            rw [(c4 i q hq).2.1] at hs'; rcases fold_slot (E.take i) (abs st) t with ⟨j, q', h1, h2, h3⟩ | ⟨h1, _⟩
            · have hj : E[j]? = some q' := by
                rw [List.getElem?_take] at h1; split at h1
                · exact h1
                · cases h1
              obtain ⟨oj, k1, k2⟩ := hdst j q' hj; have hjk : j = k := Classical.byContradiction fun hne => hst.dst j k oj o' t k1 ho' hne (by rw [← k2]; exact h2) hkp
              subst hjk; rw [hqk] at hj; cases hj; rw [h3] at hs'; obtain ⟨⟨o2, e1, _, _, _, e5⟩, _⟩ := hE j qk hqk; rw [ho'] at e1; cases e1; rcases e5 with ⟨_, e6⟩ | ⟨_, e, e6, _⟩
              · rw [e6] at hs'; simp at hs'
              · obtain ⟨off1, h4⟩ := fieldAddr_box hop e6 hs'; have h5 := (slot_abs h4).2
                rw [keep b' hall j qk hqk, hb'] at h5; simp only [SV.one.injEq, SC.adr.injEq] at h5; exact h5.1.symm
            · obtain ⟨ok, k1, k2⟩ := hdst k qk hqk; rw [ho'] at k1; cases k1; exact absurd (by rw [k2]; exact hkp) (h1 qk (List.mem_of_getElem? hkt))
          · cases hr
        · cases hr
      · cases hr
    · split at hr
      · rename_i hall; simp only [oi] at hr; subst hr; rw [keep t hall i q hq, hb'] at hs'; simp only [SV.one.injEq, SC.adr.injEq] at hs'; exact hs'.1.symm
      · cases hr
  | const v => simp [rootOf] at hr
  | func f => simp [rootOf] at hr
  | global g => simp [rootOf] at hr

theorem apart_ne [Arn] {an : Nat → List Nat} {st : SS} (hst : Stat X st ops an) {E : List (SS × Δ)} {st' : SS} {ρ : List D} (hch : chain E st st') (hlen : E.length = ops.size)
    (hE : ∀ (i : Nat) (q : SS × Δ), E[i]? = some q → OkE X ops Φ ρ i q) {i j : Nat} {q p : SS × Δ} {o o' : Oper} (hq : E[i]? = some q) (hp : E[j]? = some p) (ho : ops[i]? = some o) (ho' : ops[j]? = some o')
    (ha : apart st ops o o' = true) {x y : Operand} {β off β' off' : Nat} (hx : addrOf o = some x) (hy : addrOf o' = some y) (hev : q.1.ev X.P none x = some (.one (.adr β off))) (hev' : p.1.ev X.P none y = some (.one (.adr β' off'))) : β ≠ β' := by
  unfold apart boxOf at ha; simp only [hx, hy, Option.bind_some] at ha; split at ha
  · rename_i β1 β2 h1 h2; have fin : ∀ (i : Nat) (q : SS × Δ) (o : Oper) (x : Operand) (β off β1 : Nat), E[i]? = some q → ops[i]? = some o → q.1.ev X.P none x = some (.one (.adr β off)) →
        (match rootOf ops o x with | some b => (match st.slot b with | some (.one (.adr β _)) => some β | _ => none) | none => none) = some β1 → β = β1 := by
      intro i q o x β off β1 hq ho hev h; split at h
      · rename_i b hb; split at h
        · rename_i β2 off2 hs; simp only [oi] at h; subst h; exact root_box hst hch hlen hE hq ho hb hev hs
        · cases h
      · cases h
    rw [fin i q o x β off β1 hq ho hev h1, fin j p o' y β' off' β2 hp ho' hev' h2]; rintro rfl
    simp at ha
  · cases ha

def Mode (st : SS) (ops : Array Oper) (an : Nat → List Nat) (E : List (SS × Δ)) : Prop :=
  (∀ (i : Nat) (q : SS × Δ), E[i]? = some q → Still q.1 ∧ q.2.dy = []) ∨
  ((∀ k, st.ntok ≤ k → st.dynAt k = none) ∧ (∀ j, j + 1 < ops.size → j ∈ an (ops.size - 1)) ∧ ∀ (i : Nat) (q : SS × Δ), E[i]? = some q → q.2.kill = none ∧ (i + 1 < ops.size → q.2.dy = []))

theorem dinv_step [Arn] (hΦ : ΦOk X Φ) {an : Nat → List Nat} {st : SS} (hst : Stat X st ops an) {E : List (SS × Δ)} {st' : SS} {ρ : List D} (hch : chain E st st') (hlen : E.length = ops.size)
    (hE : ∀ (i : Nat) (q : SS × Δ), E[i]? = some q → OkE X ops Φ ρ i q) (hM : Mode st ops an E) {S : Nat → Prop} {bs : List Act} {a : Act} {w : World} (hd : DInv ops E ρ (abs st) B bs S a w)
    {i : Nat} {o : Oper} (ho : ops[i]? = some o) (hn : ¬ S i) (hr : ∀ j ∈ edgesOn o, S j) {Q : Exit → Act → World → Prop} {K : Act → World → Prop}
    (hK : ∀ a' w', DInv ops E ρ (abs st) B bs (fun j => S j ∨ j = i) a' w' → K a' w') : wpOp X.P ops Q i K a w := by
  obtain ⟨g, hrel⟩ := hd.rel; have hi : i < E.length := by rw [hlen]; exact (Array.getElem?_eq_some_iff.1 ho).1
  obtain ⟨q, hq⟩ : ∃ q, E[i]? = some q := ⟨_, List.getElem?_eq_getElem hi⟩
  have hok : ∀ q ∈ E, (∀ d, q.2.dst = some d → d < q.1.n) ∧ okδ q.1 q.2 = true := by
    intro q hq; obtain ⟨j, hj⟩ := List.getElem?_of_mem hq
    obtain ⟨⟨o', h1, h2, h3, h4, _⟩, _⟩ := hE j q hj; exact ⟨by rw [h3]; exact h2, h4⟩
  obtain ⟨c1, c2, c3, c4, c5, c6, c7⟩ := chain_spec E st st' hch hok; obtain ⟨⟨o', ho', hdst, hqd, hqo, hcase⟩, hfact⟩ := hE i q hq; rw [ho] at ho'; cases ho'; obtain ⟨qn, qa, qb, qt, _, _⟩ := c4 i q hq; have hanc := anc_closed hst hd.cl hd.lt i o ho hr
  have habs : abs q.1 = mask E (fun j => j < i) 0 (abs st) := by rw [qa]; exact (mask_take E 0 i (abs st) (fun j => by simp)).symm
  have hdstE : ∀ (j : Nat) (q' : SS × Δ) (oj : Oper), E[j]? = some q' → ops[j]? = some oj → q'.2.dst = oj.dst := by
    intro j q' oj h1 h2; obtain ⟨⟨o', k1, _, k3, _⟩, _⟩ := hE j q' h1; rw [h2] at k1; cases k1; exact k3
  have hop : ∀ (j : Nat) (q' : SS × Δ), E[j]? = some q' → ∃ oj, ops[j]? = some oj := fun j q' h1 => by
    obtain ⟨⟨o', k1, _⟩, _⟩ := hE j q' h1; exact ⟨o', k1⟩
  have hslot : ∀ (t : Tmp) (sv : SV), t ∈ o.looksAt ops → q.1.slot t = some sv → (mask E S 0 (abs st)).slot t = sv := by
    intro t sv ht hs; rw [← (slot_abs hs).2, habs]; refine mask_slot E 0 _ _ rfl fun j q' hj hjd => ?_
    rw [Nat.zero_add]; obtain ⟨oj, hoj⟩ := hop j q' hj; rw [hdstE j q' oj hj hoj] at hjd; rcases hst.reads i j o oj t ho hoj hjd ht with h | h
    · have := hanc j h
      exact ⟨fun _ => this.2, fun _ => this.1⟩
    · have hij := (anc_closed hst (S := fun k => k < ops.size) (fun a b o' _ h1 h2 => by
        have := hst.back a b o' h1 h2
        have := (Array.getElem?_eq_some_iff.1 h1).1
        omega) (fun _ h => h) j oj hoj (fun b hb => by
        have := hst.back j b oj hoj hb
        have := (Array.getElem?_eq_some_iff.1 hoj).1
        omega) i h).2
      refine ⟨fun hs => absurd ?_ hn, fun hlt => by omega⟩
      exact (anc_closed hst hd.cl hd.lt j oj hoj (fun k hk => hd.cl j k oj hs hoj hk) i h).1
  have hfb : ∀ (j : Nat) (q' : SS × Δ), ¬ S j → E[j]? = some q' → q'.2.newb.isSome = true → (mask E S 0 (abs st)).box q'.1.nb = none := by
    intro j q' hj hq' hnew; have h0 : (abs st).box q'.1.nb = none := by simp only [abs]; rw [if_neg]; have := (c4 j q' hq').2.2.1; omega
    rw [← h0]; refine Eq.trans (mask_box (S' := fun _ => False) E 0 _ _ rfl fun k p hk hp => ?_) (by rw [mask_none]; intro _ _ h; exact h)
    rw [Nat.zero_add]; refine ⟨fun hs => ?_, False.elim⟩
    rcases hp with ⟨r, hp⟩ | ⟨hp1, hp2⟩
    · exact hd.box k j p q' _ r hs hk hp hj hq' hnew rfl
    · rcases Nat.lt_trichotomy k j with hlt | heq | hgt
      · have := (c5 k j p q' hk hq' hlt).1
        obtain ⟨r, hr⟩ := Option.isSome_iff_exists.1 hp1; simp only [bump, hr] at this; omega
      · subst heq; exact hj hs
      · have := (c5 j k q' p hq' hk hgt).1
        obtain ⟨r, hr⟩ := Option.isSome_iff_exists.1 hnew; simp only [bump, hr] at this; omega
  have hft : ∀ (j : Nat) (q' : SS × Δ) (k : Nat), ¬ S j → E[j]? = some q' → isNew q' k → ¬ (mask E S 0 (abs st)).known k := by
    intro j q' k hj hq' hnew hkn; rw [mask_known] at hkn; rcases hkn with h | ⟨m, p, h1, h2, h3⟩
    · simp only [abs] at h; have := (c4 j q' hq').2.2.2.1
      unfold isNew at hnew; omega
    · rw [Nat.zero_add] at h2; unfold isNew at hnew h3; rcases Nat.lt_trichotomy m j with hlt | heq | hgt
      · have := (c5 m j p q' h1 hq' hlt).2; omega
      · subst heq; exact hj h2
      · have := (c5 j m q' p hq' h1 hgt).2; omega
  have hset' : ∀ (j : Nat) (q' : SS × Δ) (oj : Oper) (β : Nat) (r : List SC), E[j]? = some q' → ops[j]? = some oj → q'.2.setb = some (β, r) → stores oj = true ∧ ∃ x off, addrOf oj = some x ∧ q'.1.ev X.P none x = some (.one (.adr β off)) := by
    intro j q' oj β r h1 h2 h3; obtain ⟨⟨o', k1, _, _, _, k5⟩, _⟩ := hE j q' h1; rw [h2] at k1; cases k1; rcases k5 with ⟨_, k6⟩ | ⟨_, e, k6, _⟩
    · rw [k6] at h3; cases h3
    · obtain ⟨k7, x, off, _, k8, k9⟩ := step_setb k6 β r h3; exact ⟨k7, x, off, k8, k9⟩
  have hset : ∀ (j : Nat) (q' : SS × Δ) (oj : Oper) (β : Nat) (r : List SC), E[j]? = some q' → ops[j]? = some oj → q'.2.setb = some (β, r) → stores oj = true := by
    intro j q' oj β r h1 h2 h3; exact (hset' j q' oj β r h1 h2 h3).1
  have htouch : ∀ o : Oper, stores o = true → touches o = true := by
    intro o h; unfold stores at h; split at h
    · rfl
    · cases h
  have hlater : ∀ (j : Nat) (oj : Oper), ops[j]? = some oj → S j → i ∉ an j := by
    intro j oj h1 h2 h3; exact hn (anc_closed hst hd.cl hd.lt j oj h1 (fun k hk => hd.cl j k oj h2 h1 hk) i h3).1
  have hdd : ∀ (j : Nat) (q' : SS × Δ), E[j]? = some q' → i < j → S j → q.2.dy = [] ∧ q'.2.dy = [] := by
    intro j q' hj hlt hs; rcases hM with hM | ⟨_, h1, h2⟩
    · exact ⟨(hM i q hq).2, (hM j q' hj).2⟩
    · obtain ⟨oj, hoj⟩ := hop j q' hj; have hjs := (Array.getElem?_eq_some_iff.1 hoj).1
      have : j + 1 < ops.size := by
        apply Classical.byContradiction
        intro hn'; have e : j = ops.size - 1 := by omega
        exact hlater j oj hoj hs (by rw [e]; exact h1 i (by omega))
      exact ⟨(h2 i q hq).2 (by omega), (h2 j q' hj).2 this⟩
  have hcomm : ∀ (j : Nat) (q' : SS × Δ), E[j]? = some q' → i < j → S j → Comm q q' := by
    intro j q' hj hlt hs; obtain ⟨oj, hoj⟩ := hop j q' hj; have h5 := c5 i j q q' hq hj hlt
    simp only [okδ, Bool.and_eq_true] at hqo; refine ⟨fun d h1 h2 => ?_, fun β r β' r' h1 h2 he => ?_, fun h1 h2 => ?_, fun β r h1 h2 => ?_, fun β r h1 h2 => hd.box j i q' q β r hs hj h1 hn hq h2, fun k h1 h2 => ?_, fun k h1 => hd.kil j i k q' q hs hj h1 hn hq, (hdd j q' hj hlt hs).1, (hdd j q' hj hlt hs).2, ?_⟩
    · rw [hqd] at h1; rw [hdstE j q' oj hj hoj] at h2; exact hst.dst i j o oj d ho hoj (by omega) h1 h2
    · rcases hst.mem i j o oj ho hoj (by omega) (hset i q o β r hq ho h1) (htouch _ (hset j q' oj β' r' hj hoj h2)) with h | h | h
      · have := (hanc j h).2; omega
      · exact hlater j oj hoj hs h
      · obtain ⟨_, x, off, a1, a2⟩ := hset' i q o β r hq ho h1; obtain ⟨_, y, off', b1, b2⟩ := hset' j q' oj β' r' hj hoj h2; exact apart_ne hst hch hlen hE hq hj ho hoj h a1 b1 a2 b2 he
    · obtain ⟨r, hr'⟩ := Option.isSome_iff_exists.1 h1; have := h5.1
      simp only [bump, hr'] at this; omega
    · have h6 := hqo.1
      rw [h1] at h6; simp only [blt_eq, decide_eq_true_eq] at h6; have := h5.1
      unfold bump at this; omega
    · have h6 := hqo.2
      rw [h1] at h6; simp only [blt_eq, decide_eq_true_eq] at h6; have := h5.2
      unfold isNew at h2; omega
    · have chg : ∀ (m : Nat) (p : SS × Δ) (om : Oper), E[m]? = some p → ops[m]? = some om → p.2.dr = [] ∨ chgsAr X om = true := by
        intro m p om hm hom; obtain ⟨⟨o2, z1, _, _, _, z5⟩, _⟩ := hE m p hm; rw [hom] at z1; cases z1; rcases z5 with ⟨_, z6⟩ | ⟨_, e2, z6, _⟩
        · rw [z6]; exact .inl rfl
        · exact step_dr z6
      rcases chg i q o hq ho with h1 | h1
      · exact .inl h1
      · rcases chg j q' oj hj hoj with h2 | h2
        · exact .inr h2
        · rcases hst.ar i j o oj ho hoj (by omega) h1 (chgs_uses h2) with h | h
          · have := (hanc j h).2; omega
          · exact absurd h (hlater j oj hoj hs)
  have hins : mask E (fun j => S j ∨ j = i) 0 (abs st) = (mask E S 0 (abs st)).step q :=
    mask_insert E 0 _ (Nat.zero_le _) (by simpa using hq) hn fun j q' hj hl hs => hcomm j q' hj (by omega) (by simpa using hs)
  have hp : Pre X.P B ρ q.1 o (mask E S 0 (abs st)) a bs w g :=
    ⟨hrel, fun d hd' => by rw [mask_n]; show d < st.n; rw [← qn]; exact hdst d hd', fun t sv hm hs => hslot t sv (List.mem_append_left _ (List.mem_filterMap.2 ⟨.tmp t, by simpa using hm, rfl⟩)) hs⟩
  have hnext : (∀ β r, q.2.setb = some (β, r) → ∃ row, (mask E S 0 (abs st)).box β = some row) → (∀ k, q.2.kill = some k → (mask E S 0 (abs st)).known k) →
      ∀ a' w', (∃ g', RelG B ρ ((mask E S 0 (abs st)).step q) a' bs w' g') → K a' w' := by
    intro hb hk a' w' h; refine hK a' w' ⟨by rw [hins]; exact h, ?_, ?_, ?_, ?_⟩
    · rintro j k oj (hs | rfl) h1 h2
      · exact .inl (hd.cl j k oj hs h1 h2)
      · rw [ho] at h1; cases h1; exact .inl (hr k h2)
    · rintro j (hs | rfl)
      · exact hd.lt j hs
      · omega
    · intro j i' p q' β r hs h1 h2 h3 h4 h5; rcases hs with hs | rfl
      · exact hd.box j i' p q' β r hs h1 h2 (fun h => h3 (.inl h)) h4 h5
      · rw [hq] at h1; cases h1; obtain ⟨row, hrow⟩ := hb β r h2; have := hfb i' q' (fun h => h3 (.inl h)) h4 h5
        rintro rfl
        rw [this] at hrow; cases hrow
    · intro j i' k p q' hs h1 h2 h3 h4; rcases hs with hs | rfl
      · exact hd.kil j i' k p q' hs h1 h2 (fun h => h3 (.inl h)) h4
      · rw [hq] at h1; cases h1; intro h5; exact hft i' q' k (fun h => h3 (.inl h)) h4 h5 (hk k h2)
  obtain ⟨gy, gn⟩ := guard_spec (st := q.1) (o := o) (ops := ops) hrel (fun j want hg t sv ht hs => hslot t sv (List.mem_append_right _ (by rw [hg]; simp only; rw [ht]; simp)) hs) hfact
  unfold wpOp; simp only [ho]; rcases hcase with ⟨hg, hδ⟩ | ⟨hg, e, hstp, henv⟩
  · rw [gn hg, if_neg (by simp)]; refine hnext (fun β r h => by rw [hδ] at h; cases h) (fun k h => by rw [hδ] at h; cases h) _ _ ⟨g, ?_⟩
    show RelG B ρ ((mask E S 0 (abs st)).upd q.2 q.1.nb q.1.ntok) _ bs w g
    rw [hδ]; exact upd_put _ _ _ 0 _ _ (hrel.put hp.dst rfl)
  · rw [gy hg, if_pos rfl]; have m2 := step_setb hstp
    have m1 : ∀ k, q.2.kill = some k → ∃ h x c, x ∈ o.op.operands ∧ (q.1.ev X.P h x).bind SV.c1 = some c ∧ c.isTok k := by
      rcases hM with hM | ⟨_, _, h2⟩
      · exact (step_mem (hM i q hq).1.dynL hstp).1
      · intro k hk; rw [(h2 i q hq).1] at hk; cases hk
    have hdyn : ∀ k x, q.1.dynL k = some x → (mask E S 0 (abs st)).live k ∧ (mask E S 0 (abs st)).dyn k = some x := by
      intro k x hx; rcases hM with hM | ⟨h0, h1, h2⟩
      · rw [(hM i q hq).1.dynL] at hx; cases hx
      · have hsz : i < ops.size := (Array.getElem?_eq_some_iff.1 ho).1
        have hSl : ∀ j q', E[j]? = some q' → S j → q'.2.dy = [] := by
          intro j q' hj hs; obtain ⟨oj, hoj⟩ := hop j q' hj; have hjs := (Array.getElem?_eq_some_iff.1 hoj).1
          refine (h2 j q' hj).2 ?_
          apply Classical.byContradiction
          intro hn'; have e : j = ops.size - 1 := by omega
          by_cases ei : i = j
          · subst ei; exact hn hs
          · exact hlater j oj hoj hs (by rw [e]; exact h1 i (by omega))
        unfold SS.dynL at hx; split at hx
        rotate_left
        · cases hx
        rename_i hc; have hlv : (abs q.1).live k := by show k ∈ q.1.live; simpa using hc
        have hdy : (abs q.1).dyn k = some x := hx
        have e1 : (mask E S 0 (abs st)).dyn = (abs st).dyn := mask_dyn E 0 _ fun j q' hj hs => hSl j q' hj (by simpa using hs)
        have e2 : (abs q.1).dyn = (abs st).dyn := by
          rw [habs]; exact mask_dyn E 0 _ fun j q' hj hs => by
            have : j < i := by simpa using hs
            exact (h2 j q' hj).2 (by omega)
        have hk : k < st.ntok := by
          apply Classical.byContradiction
          intro hk; have := h0 k (by omega)
          rw [e2] at hdy; have hdy' : st.dynAt k = some x := hdy
          rw [this] at hdy'; cases hdy'
        refine ⟨?_, by rw [e1, ← e2]; exact hdy⟩
        rw [habs] at hlv; refine (mask_live E 0 _ _ Iff.rfl fun j q' hj hpj => ?_).2 hlv
        exfalso
        rcases hpj with hpj | hpj
        · rw [(h2 j q' hj).1] at hpj; cases hpj
        · have := (c4 j q' hj).2.2.2.1
          unfold isNew at hpj; omega
    have hb : ∀ β r, q.2.setb = some (β, r) → ∃ row, (mask E S 0 (abs st)).box β = some row := by
      intro β r h; obtain ⟨_, x, off, hx, _, hev⟩ := m2 β r h; have hr : SCRep ρ (mask E S 0 (abs st)) g w (.adr β off) (a.eval x) := hp.ev hx hev
      exact hr.1
    have hk : ∀ k, q.2.kill = some k → (mask E S 0 (abs st)).known k := by
      intro k h; obtain ⟨ty, x, c, hx, hc, htk⟩ := m1 k h; have hcr := hp.c1 hx hc
      rcases htk with ⟨i0, t, e', rfl⟩ | ⟨ps, e', rfl⟩
      · obtain ⟨_, _, _, h3, _⟩ := hcr; exact h3
      · exact hcr.1
    have hi' := step_info hstp
    have hqo' := hqo
    simp only [okδ, Bool.and_eq_true] at hqo'; have hstep : StepOk X ρ q.1 o (mask E S 0 (abs st)) q.2 Φ e := by
      refine ⟨fun β row htch ⟨row', hrow'⟩ hl => ?_, fun k hkl => ?_, fun h => hfb i q hn hq h, fun k h1 h2 h3 => hft i q k hn hq ⟨h1, h2⟩ h3, hfact, henv, hdyn, fun hus k x hx => ?_, fun k => ?_⟩
      rotate_right 2
      · have e1 : (mask E S 0 (abs st)).ar = (abs q.1).ar := by
          rw [habs]; refine mask_ar E 0 _ _ rfl fun j q' hj hd => ?_
          obtain ⟨oj, hoj⟩ := hop j q' hj; rw [Nat.zero_add]; by_cases e0 : j = i
          · subst e0; exact ⟨fun h => absurd h hn, fun h => absurd h (Nat.lt_irrefl _)⟩
          · have hch2 : chgsAr X oj = true := by
              obtain ⟨⟨o2, z1, _, _, _, z5⟩, _⟩ := hE j q' hj; rw [hoj] at z1; cases z1; rcases z5 with ⟨_, z6⟩ | ⟨_, e2, z6, _⟩
              · rw [z6] at hd; exact absurd rfl hd
              · exact (step_dr z6).resolve_left hd
            rcases hst.ar j i oj o hoj ho e0 hch2 hus with h | h
            · refine ⟨fun hs => absurd h (hlater j oj hoj hs), fun hlt => ?_⟩
              have : i < j := by
                have hb := anc_closed (S := fun k => k < ops.size) hst (fun a b o h1 h2 h3 => by have := hst.back a b o h2 h3; omega) (fun _ h => h) j oj hoj
                  (fun k hk => by have := hst.back j k oj hoj hk; have := (Array.getElem?_eq_some_iff.1 hoj).1; omega) i h
                exact hb.2
              omega
            · have := hanc j h
              exact ⟨fun _ => this.2, fun _ => this.1⟩
        rw [e1]; exact hx
      · have e1 : (mask E S 0 (abs st)).out = (abs st).out := mask_out E 0 _
        have e2 : (abs q.1).out = (abs st).out := by rw [habs]; exact mask_out E 0 _
        show _ = (abs q.1).out k
        rw [e1, e2]
      · rw [← hl, boxAt_abs, habs]; have hβ : β < q.1.nb := by
          rw [boxAt_abs] at hl; simp only [abs] at hl; split at hl
          · assumption
          · cases hl
        obtain ⟨xa, offa, hxa, heva⟩ := htch; have hto : touches o = true := by
          unfold addrOf at hxa; split at hxa
          · rfl
          · rfl
          · cases hxa
        refine mask_box E 0 _ _ rfl fun j q' hj hpj => ?_
        rw [Nat.zero_add]; obtain ⟨oj, hoj⟩ := hop j q' hj; rcases hpj with ⟨r, hpj⟩ | ⟨hp1, hp2⟩
        · by_cases e0 : j = i
          · subst e0; exact ⟨fun h => absurd h hn, fun h => absurd h (Nat.lt_irrefl _)⟩
          · rcases hst.mem j i oj o hoj ho e0 (hset j q' oj β r hj hoj hpj) hto with h | h | h
            · refine ⟨fun hs => absurd h (hlater j oj hoj hs), fun hlt => ?_⟩
              have : i < j := by
                have hb := anc_closed (S := fun k => k < ops.size) hst (fun a b o h1 h2 h3 => by have := hst.back a b o h2 h3; omega) (fun _ h => h) j oj hoj
                  (fun k hk => by have := hst.back j k oj hoj hk; have := (Array.getElem?_eq_some_iff.1 hoj).1; omega) i h
                exact hb.2
              omega
            · have := hanc j h
              exact ⟨fun _ => this.2, fun _ => this.1⟩
            · obtain ⟨_, y, off', b1, b2⟩ := hset' j q' oj β r hj hoj hpj; exact absurd rfl (apart_ne hst hch hlen hE hj hq hoj ho h b1 hxa b2 heva)
        · constructor
          · intro hs; rcases Nat.lt_trichotomy j i with hlt | heq | hgt
            · exact hlt
            · subst heq; exact absurd hs hn
            · have := (c5 i j q q' hq hj hgt).1
              unfold bump at this; omega
          · intro hlt; apply Classical.byContradiction
            intro hs; have := hfb j q' hs hj hp1
            rw [hp2, hrow'] at this; cases this
      · have hkin := hi'.kill k hkl
        have hkn := hk k hkl
        have hknt : k < q.1.ntok := by
          have := hqo'.2
          rw [hkl] at this; simpa [blt_eq] using this
        have h0 : (abs q.1).live k := hkin
        rw [habs] at h0; refine (mask_live E 0 _ _ Iff.rfl fun j q' hj hpj => ?_).2 h0
        rw [Nat.zero_add]; rcases hpj with hpj | hpj
        · constructor
          · intro hs; rcases Nat.lt_trichotomy j i with hlt | heq | hgt
            · exact hlt
            · subst heq; exact absurd hs hn
            · obtain ⟨⟨oj, k1, _, _, _, k5⟩, _⟩ := hE j q' hj; rcases k5 with ⟨_, k6⟩ | ⟨_, e', k6, _⟩
              · rw [k6] at hpj; cases hpj
              · exact absurd ((step_info k6).kill k hpj) (c7 i j k q q' hq hj hgt hkl)
          · intro hlt; exact absurd hkin (c7 j i k q' q hj hq hlt hpj)
        · constructor
          · intro hs; rcases Nat.lt_trichotomy j i with hlt | heq | hgt
            · exact hlt
            · subst heq; exact absurd hs hn
            · have := (c5 i j q q' hq hj hgt).2
              unfold isNew at hpj; omega
          · intro hlt; apply Classical.byContradiction
            intro hs; exact hft j q' k hs hj hpj hkn
    refine .inl (step_does (Φ := Φ) hp hΦ hstep hstp _ _ ?_)
    rintro a' w' ⟨g', hg'⟩
    exact hnext hb hk a' w' ⟨g', hg'⟩
end
end Go.Proofs.Ytmglkddddpipgaa.Sx

namespace Go.Proofs.Ytmglkddddpipgaa.Sx
open Go.RowKit

section
variable {X : Cx} {top : Func} {sig : Sig} {B : Base} {Φ : Nat → Cont} {ops : Array Oper}

def open' (ops : Array Oper) (listed : Array Bool) : List Nat := (List.range ops.size).filter fun i => !listed.getD i true

theorem ready_first [Arn] {an : Nat → List Nat} {st : SS} (hst : Stat X st ops an) {listed : Array Bool} (hl : listed.size = ops.size) (h : Region.ready .any ops listed = []) : ∀ i, i < ops.size → listed.getD i true = true := by
  intro i; induction i using Nat.strongRecOn with
  | ind i ih =>
    intro hi; apply Classical.byContradiction
    intro hn; have : i ∈ Region.ready .any ops listed := by
      unfold Region.ready; simp only [List.mem_filter, List.mem_range, Bool.and_eq_true, Bool.not_eq_true']; refine ⟨hi, by simpa using hn, ?_⟩
      rw [Array.getElem?_eq_getElem hi]; simp only [Option.map_some, Option.getD_some, Array.all_eq_true', Bool.or_eq_true, Bool.not_eq_true']; intro e he; by_cases hb : Region.binds .any e = true
      · right
        have hj : e.on ∈ edgesOn ops[i] := by
          unfold edgesOn; simp only [List.mem_map, List.mem_filter]; exact ⟨e, ⟨by simpa using he, hb⟩, rfl⟩
        have hlt := hst.back i e.on ops[i] (Array.getElem?_eq_getElem hi) hj
        have := ih e.on hlt (by omega)
        simp only [Array.getD_eq_getD_getElem?] at this ⊢; rw [Array.getElem?_eq_getElem (by omega)] at this ⊢; exact this
      · left; simpa using hb
    rw [h] at this; simp at this

theorem getD_tf [Arn] (l : Array Bool) (i : Nat) (h : i < l.size) : l.getD i true = l.getD i false := by
  simp [Array.getD_eq_getD_getElem?, Array.getElem?_eq_getElem h]

theorem DInv.congr [Arn] {E : List (SS × Δ)} {ρ : List D} {α0 : AS} {bs : List Act} {S S' : Nat → Prop} {a : Act} {w : World} (h : DInv ops E ρ α0 B bs S a w) (hs : ∀ i, S i ↔ S' i) : DInv ops E ρ α0 B bs S' a w := by
  have : S = S' := funext fun i => propext (hs i)
  rw [← this]; exact h

theorem wpAny_inv [Arn] (hΦ : ΦOk X Φ) {an : Nat → List Nat} {st : SS} (hst : Stat X st ops an) {E : List (SS × Δ)} {st' : SS} {ρ : List D} (hch : chain E st st') (hlen : E.length = ops.size)
    (hE : ∀ (i : Nat) (q : SS × Δ), E[i]? = some q → OkE X ops Φ ρ i q) (hM : Mode st ops an E) {bs : List Act} {Q : Exit → Act → World → Prop}
    (hfin : ∀ a w, DInv ops E ρ (abs st) B bs (fun i => i < ops.size) a w → Q .normal a w) :
    ∀ (fuel : Nat) (listed : Array Bool) (a : Act) (w : World), listed.size = ops.size → (open' ops listed).length ≤ fuel → DInv ops E ρ (abs st) B bs (fun i => listed.getD i false = true) a w → wpAny X.P .any ops Q fuel listed a w := by
  have done : ∀ (listed : Array Bool) (a : Act) (w : World), listed.size = ops.size → (∀ i, i < ops.size → listed.getD i true = true) → DInv ops E ρ (abs st) B bs (fun i => listed.getD i false = true) a w → Q .normal a w := by
    intro listed a w hl hall hd; refine hfin a w (hd.congr fun i => ⟨hd.lt i, fun hi => ?_⟩)
    rw [← getD_tf _ _ (by omega)]; exact hall i hi
  intro fuel; induction fuel with
  | zero =>
    intro listed a w hl ho hd; have hnil : open' ops listed = [] := List.length_eq_zero_iff.1 (by omega)
    have hall : ∀ i, i < ops.size → listed.getD i true = true := by
      intro i hi; apply Classical.byContradiction
      intro hn; have : i ∈ open' ops listed := List.mem_filter.2 ⟨List.mem_range.2 hi, by simpa using hn⟩
      rw [hnil] at this; simp at this
    refine ⟨?_, done listed a w hl hall hd⟩
    rw [List.eq_nil_iff_forall_not_mem]; intro i hi; unfold Region.ready at hi; simp only [List.mem_filter, List.mem_range, Bool.and_eq_true, Bool.not_eq_true'] at hi; rw [hall i hi.1] at hi; simp at hi
  | succ fuel ih =>
    intro listed a w hl ho hd; refine ⟨fun hr => done listed a w hl (ready_first hst hl hr) hd, fun i hi => ?_⟩
    unfold Region.ready at hi; simp only [List.mem_filter, List.mem_range, Bool.and_eq_true, Bool.not_eq_true'] at hi; obtain ⟨hlt, hn, hdep⟩ := hi; have hoi := Array.getElem?_eq_getElem hlt
    refine dinv_step hΦ hst hch hlen hE hM hd hoi (by rw [← getD_tf _ _ (by omega), hn]; simp) (fun j hj => ?_) fun a' w' hd' => ih _ a' w' (by simp [hl]) ?_ (hd'.congr fun j => ?_)
    · rw [hoi] at hdep; simp only [Option.map_some, Option.getD_some, Array.all_eq_true', Bool.or_eq_true, Bool.not_eq_true'] at hdep; unfold edgesOn at hj; simp only [List.mem_map, List.mem_filter] at hj; obtain ⟨e, ⟨he, hb⟩, rfl⟩ := hj; rcases hdep e (by simpa using he) with h | h
      · rw [hb] at h; cases h
      · exact h
    · have hsub : (open' ops (listed.setIfInBounds i true)).length < (open' ops listed).length := by
        have he : open' ops (listed.setIfInBounds i true) = (open' ops listed).filter fun j => !(j == i) := by
          unfold open'; rw [List.filter_filter]; refine List.filter_congr fun j _ => ?_
          simp only [Array.getD_eq_getD_getElem?, Array.getElem?_setIfInBounds]; by_cases e : i = j
          · subst e; simp [show i < listed.size by omega]
          · simp [e, Ne.symm e]
        rw [he, List.length_filter_lt_length_iff_exists]; exact ⟨i, List.mem_filter.2 ⟨List.mem_range.2 hlt, by simp [hn]⟩, by simp⟩
      omega
    · simp only [Array.getD_eq_getD_getElem?, Array.getElem?_setIfInBounds]; by_cases e : i = j
      · subst e; simp [show i < listed.size by omega]
      · simp [e, Ne.symm e]
end
end Go.Proofs.Ytmglkddddpipgaa.Sx

namespace Go.Proofs.Ytmglkddddpipgaa.Sx
open Go.RowKit

section
variable {X : Cx} {top : Func} {sig : Sig} {B : Base} {Φ : Nat → Cont} {rs0 : List D}

theorem RelG.drew [Arn] {ρ : List D} {α : AS} {a : Act} {bs : List Act} {w : World} {g : G} (h : RelG B ρ α a bs w g) : RelG B ρ α a bs { w with drawn := w.drawn + 1 } g := by
  have hl : LeC ρ α g w ρ α g { w with drawn := w.drawn + 1 } := ⟨fun _ _ h => h, fun β row h => ⟨⟨row, h⟩, rfl⟩, fun _ h => ⟨h, rfl, rfl, rfl⟩, fun b o h => ⟨h, rfl⟩, fun _ _ _ h => h⟩
  exact h.world hl rfl rfl rfl (fun β row hr => RelG.BoxOk_mono hl (h.box β row hr) rfl rfl (h.box β row hr).np rfl)
    (fun k hk => h.live k hk |>.imp id fun t => by
      obtain ⟨n, xs, t1, t2, t3⟩ := t.own; exact ⟨n, xs, t1, t2, t3.mono hl.mem hl.ad (fun _ _ h => h) (fun _ h => h) rfl rfl rfl (fun _ _ h => h)⟩) h.pwf ⟨h.bel.os, h.bel.tape, h.bel.output, h.bel.size, h.bel.block⟩ h.dk rfl rfl rfl
    (fun _ _ _ => ⟨rfl, fun _ => Iff.rfl⟩) (fun b r hr => ⟨h.hl.owb b r hr, .inl ⟨r, hr⟩⟩) (fun _ _ hr _ => ⟨hr, rfl, fun _ h => h⟩)

theorem noOut_spec [Arn] {st : SS} {β : Nat} (h : noOut st β = true) : ∀ k xv γ, st.outAt k = some (xv, γ) → γ ≠ β := by
  intro k xv γ hk e; subst e; have hk' : (look st.out k).getD none = some (xv, γ) := hk
  cases hl : look st.out k with
  | none => rw [hl] at hk'; cases hk'
  | some u =>
    have := (List.all_eq_true.1 h) _ (look_mem _ _ _ hl)
    simp only [hk] at this; simp at this

theorem noOutX_spec [Arn] {st : SS} {k β : Nat} (h : noOutX st k β = true) : ∀ k' xv γ, k' ≠ k → st.outAt k' = some (xv, γ) → γ ≠ β := by
  intro k' xv γ hne hk e; subst e; have hk' : (look st.out k').getD none = some (xv, γ) := hk
  cases hl : look st.out k' with
  | none => rw [hl] at hk'; cases hk'
  | some u =>
    have := (List.all_eq_true.1 h) _ (look_mem _ _ _ hl)
    simp only [hk] at this; simp [hne] at this

theorem look_map2 [Arn] {τ υ : Type} (f : τ → υ) : ∀ (l : List (Nat × τ)) (i : Nat), look (l.map fun q => (q.1, f q.2)) i = (look l i).map f
  | [], i => rfl
  | (j, v) :: l, i => by
    rw [List.map_cons, look_cons, look_cons, look_map2 f l i]; split <;> rfl

theorem dynAny_none [Arn] {st : SS} : ∀ (n : Nat), dynAny st n = none → ∀ k, k < n → st.dynL k = none
  | 0, _, k, h => by omega
  | n + 1, h, k, hk => by
    simp only [dynAny] at h; split at h
    · cases h
    · rename_i h1; by_cases e : k = n
      · subst e; exact h1
      · exact dynAny_none n h k (by omega)

theorem still_of [Arn] {st : SS} {ρ : List D} {a : Act} {bs : List Act} {w : World} {g : G} (hR : RelG B ρ (abs st) a bs w g) (h : dynAny st st.ntok = none) : Still st := by
  refine ⟨fun k hk => ?_, fun k hk => ?_⟩
  · have h1 : k < st.ntok := (hR.live k hk).1
    have h2 := dynAny_none _ h k h1
    unfold SS.dynL at h2; split at h2
    · exact h2
    · rename_i hc; have : st.live.contains k = true := by simpa using hk
      rw [this] at hc; cases hc
  · cases hd : st.dynAt k with
    | none => rfl
    | some x =>
      have : k < st.ntok := hR.dk k x hd
      omega

theorem frz_go [Arn] {st : SS} {k : Nat} {κ : SS → Option IR} {ir : IR} (h : st.frz k κ = some ir) {ρ : List D} {a : Act} {bs : List Act} {w : World} {g : G} (hR : RelG B ρ (abs st) a bs w g) (hE : Ev st ρ) :
    ∃ st' g', κ st' = some ir ∧ RelG B ρ (abs st') a bs w g' ∧ Ev st' ρ := by
  unfold SS.frz at h; split at h
  · rename_i i t e hd; simp only [fL_eq] at h; unfold SS.dynL at hd; split at hd
    · rename_i hc; obtain ⟨g', hg⟩ := hR.frz (k := k) (i := i) (t := t) (e := e) (by show k ∈ st.live; simpa using hc) hd
      refine ⟨_, g', h, ?_, ⟨hE.len, hE.fact⟩⟩
      have hs : ∀ (n : Nat) (l : List (Nat × SV)), absSlots n (l.map fun q => (q.1, q.2.frz k i t e)) = fun j => (absSlots n l j).frz k i t e := by
        intro n l; funext j
        simp only [absSlots, look_map2 (SV.frz k i t e)]; split
        · cases look l j <;> rfl
        · rfl
      have e1 : abs { st with slots := st.slots.map fun q => (q.1, q.2.frz k i t e), saved := st.saved.map fun q => (q.1, q.2.map fun r => (r.1, r.2.frz k i t e)),
                              boxes := st.boxes.map fun q => (q.1, q.2.map (SC.frz k i t e)), dyn := (k, none) :: st.dyn } = frzAS (abs st) k i t e := by
        unfold abs frzAS; simp only [AS.mk.injEq, true_and]; refine ⟨hs _ _, ?_, ?_, ?_, rfl, rfl⟩
        · funext β
          rw [look_map2 (List.map (SC.frz k i t e))]; split <;> rfl
        · rw [List.map_map, List.map_map]; apply List.map_congr_left
          intro q _; simp only [Function.comp_apply, hs]
        · funext j
          simp only [SS.dynAt, look_cons]; by_cases e : k = j
          · subst e; simp
          · rw [if_neg e, if_neg (Ne.symm e)]
      rw [e1]; exact hg
    · cases hd
  · cases h

theorem ren_go [Arn] {st : SS} {β β' : Nat} {κ : SS → Option IR} {ir : IR} (h : st.ren β β' κ = some ir) {ρ : List D} {a : Act} {bs : List Act} {w : World} {g : G} (hR : RelG B ρ (abs st) a bs w g) (hE : Ev st ρ) :
    ∃ st' g', κ st' = some ir ∧ RelG B ρ (abs st') a bs w g' ∧ Ev st' ρ := by
  unfold SS.ren at h; split at h
  · cases h
  rename_i hne0; simp only [Bool.or_eq_true, Bool.not_eq_true', not_or, Bool.not_eq_true, Bool.not_eq_false] at hne0; obtain ⟨⟨hne, hno1⟩, hno2⟩ := hne0; have hne : β ≠ β' := by
    rintro rfl
    simp at hne
  split at h
  · rename_i row r0 h1 h2; rw [boxAt_abs] at h1 h2; split at h
    · rename_i row' bx h3 h4; simp only [fL_eq] at h; have hl := renB_look (β := β) (β' := β') st.boxes bx h4
      have hnb : ∀ γ r, (abs st).box γ = some r → γ < st.nb ∧ look st.boxes γ = some r := by
        intro γ r hr; simp only [abs] at hr; split at hr
        · rename_i hlt; exact ⟨hlt, hr⟩
        · cases hr
      obtain ⟨g', hg⟩ := hR.ren (bx := fun γ => if γ < st.nb then look ((β, row') :: bx) γ else none) hne h1 ⟨_, h2⟩ h3 (by rw [if_pos (hnb _ _ h2).1, look_cons, if_pos rfl])
        (by rw [if_pos (hnb _ _ h1).1, look_cons, if_neg hne]; exact (hl β').1 (.inr rfl))
        (fun γ r' e hr => by
          split at hr
          · rename_i hlt; rw [look_cons, if_neg (Ne.symm e)] at hr; by_cases e2 : γ = β'
            · rw [(hl γ).1 (.inr e2)] at hr; cases hr
            · rcases (hl γ).2 e e2 with ⟨k1, k2⟩ | ⟨r, r2, k1, k2, k3⟩
              · rw [k2] at hr; cases hr
              · rw [k2] at hr; simp only [oi] at hr; subst hr; exact ⟨r, by simp only [abs]; rw [if_pos hlt]; exact k1, k3⟩
          · cases hr)
        (fun γ r e e2 hr => by
          obtain ⟨hlt, hr⟩ := hnb γ r hr; rw [if_pos hlt, look_cons, if_neg (Ne.symm e)]; rcases (hl γ).2 e e2 with ⟨k1, k2⟩ | ⟨r, r2, k1, k2, k3⟩
          · rw [k1] at hr; cases hr
          · exact ⟨r2, k2⟩)
        (fun k xv γ hk => ⟨noOut_spec hno1 k xv γ hk, noOut_spec hno2 k xv γ hk⟩)
      refine ⟨_, g', h, ?_, ⟨hE.len, hE.fact⟩⟩
      have hs : ∀ (n : Nat) (l : List (Nat × SV)), absSlots n (l.map fun q => (q.1, q.2.ren β β')) = fun j => (absSlots n l j).ren β β' := by
        intro n l; funext j
        simp only [absSlots, look_map2 (SV.ren β β')]; split
        · cases look l j <;> rfl
        · rfl
      have e1 : abs { st with slots := st.slots.map fun q => (q.1, q.2.ren β β'), saved := st.saved.map fun q => (q.1, q.2.map fun r => (r.1, r.2.ren β β')),
                              boxes := (β, row') :: bx } = renAS (abs st) β β' (fun γ => if γ < st.nb then look ((β, row') :: bx) γ else none) := by
        unfold abs renAS; simp only [AS.mk.injEq, true_and, and_true]; refine ⟨hs _ _, ?_, rfl, rfl, rfl⟩
        rw [List.map_map, List.map_map]; apply List.map_congr_left
        intro q _; simp only [Function.comp_apply, hs]
      rw [e1]; exact hg
    · cases h
  · cases h

theorem frb_go [Arn] {st : SS} {β : Nat} {e : Ty} {κ : List A → SS → Option IR} {ir : IR} (h : st.frb β e (fun xs st' => addOp (some (.mkp e, xs, [.pt e])) (κ xs st')) = some ir) {R : Type} {lv : Nat} {ρ : List D} {kr : List D → Option R} {kj : Nat → List D → Option R} {r : R}
    (hd : den Φ ir R lv ρ kr kj = some r) {a : Act} {bs : List Act} {w : World} {g : G} (hR : RelG B ρ (abs st) a bs w g) (hE : Ev st ρ) :
    ∃ xs st' g' ir' out, κ xs st' = some ir' ∧ RelG B (ρ ++ out) (abs st') a bs w g' ∧ Ev st' (ρ ++ out) ∧ den Φ ir' R lv (ρ ++ out) kr kj = some r := by
  unfold SS.frb at h; split at h
  · rename_i row h1; rw [boxAt_abs] at h1; split at h
    · rename_i xs ts bx h2 h3; split at h
      · rename_i hts; simp only [Bool.and_eq_true, beq_iff_eq] at hts; obtain ⟨⟨rfl, _⟩, hno⟩ := hts; simp only [fL_eq] at h; rw [fN_eq] at h; unfold addOp at h; split at h
        · rename_i p ys us k hk2 he; simp only [oi] at h; simp only [oi, Prod.mk.injEq] at hk2; obtain ⟨e1, e2, e3⟩ := hk2; subst e1; subst e2; subst h; simp only [den] at hd; obtain ⟨cs0, el0, hh0, hc0⟩ := (hR.box β row h1).cells
          obtain ⟨ds, q1, q2, q3⟩ := args_rep row cs0.toList _ _ h2 hc0; obtain ⟨x, j1, j2⟩ := join_rep (g := g) (w := w) e ds [] cs0.toList q2 q3
          rw [List.append_nil] at j1; rw [q1] at hd; simp only [evalPr, toE, j1] at hd; have hR1 : RelG B (ρ ++ [⟨.pt e, some x⟩]) (abs st) a bs w g := hR.env (fun i d h => nth_app h)
          have hi : nth (ρ ++ [(⟨.pt e, some x⟩ : D)]) st.nv = some ⟨.pt e, some x⟩ := by
            rw [nth_eq, ← hE.len]; simp
          have hl := frbB_look (β := β) (xa := .v st.nv) (ty := .pt e) st.boxes bx h3
          have hnb : ∀ γ r, (abs st).box γ = some r → γ < st.nb ∧ look st.boxes γ = some r := by
            intro γ r hr; simp only [abs] at hr; split at hr
            · rename_i hlt; exact ⟨hlt, hr⟩
            · cases hr
          obtain ⟨g', hg⟩ := hR1.frb (bx := fun γ => if γ < st.nb then look bx γ else none) h1 hi
            (fun cs el hh hc => by rw [hh0] at hh; simp only [oi] at hh; cases hh; exact j2)
            (by rw [if_pos (hnb _ _ h1).1]; exact (hl β).1 rfl)
            (fun γ r' e' hr => by
              split at hr
              · rename_i hlt; rcases (hl γ).2 e' with ⟨k1, k2⟩ | ⟨r, r2, k1, k2, k3⟩
                · rw [k2] at hr; cases hr
                · rw [k2] at hr; simp only [oi] at hr; subst hr; exact ⟨r, by simp only [abs]; rw [if_pos hlt]; exact k1, k3⟩
              · cases hr)
            (fun γ r e' hr => by
              obtain ⟨hlt, hr⟩ := hnb γ r hr; rw [if_pos hlt]; rcases (hl γ).2 e' with ⟨k1, k2⟩ | ⟨r, r2, k1, k2, k3⟩
              · rw [k1] at hr; cases hr
              · exact ⟨r2, k2⟩)
            (fun k xv γ hk => noOut_spec hno k xv γ hk)
          refine ⟨_, _, g', k, [⟨.pt e, some x⟩], he, ?_, ⟨by simp [hE.len], fun i b hb => nth_app (hE.fact i b hb)⟩, hd⟩
          have hs : ∀ (n : Nat) (l : List (Nat × SV)), absSlots n (l.map fun q => (q.1, q.2.frb β (.v st.nv) (.pt e))) = fun j => (absSlots n l j).frb β (.v st.nv) (.pt e) := by
            intro n l; funext j
            simp only [absSlots, look_map2 (fun s => SV.frb β (.v st.nv) (.pt e) s)]; split
            · cases look l j <;> rfl
            · rfl
          have e1 : abs { st with slots := st.slots.map fun q => (q.1, q.2.frb β (.v st.nv) (.pt e)), saved := st.saved.map fun q => (q.1, q.2.map fun r => (r.1, r.2.frb β (.v st.nv) (.pt e))),
                                  boxes := bx, nv := st.nv + 1 } = frbAS (abs st) β st.nv e (fun γ => if γ < st.nb then look bx γ else none) := by
            unfold abs frbAS subAS; simp only [AS.mk.injEq, true_and, and_true]; refine ⟨hs _ _, ?_, rfl, rfl, rfl⟩
            rw [List.map_map, List.map_map]; apply List.map_congr_left
            intro q _; simp only [Function.comp_apply, hs]
          rw [e1]; exact hg
        · rename_i hk _; cases hk
        · cases h
      · cases h
    · cases h
  · cases h

theorem ownToks_spec [Arn] {st : SS} {row : List SC} : ∀ (own : List (Nat × TypeId)) (tk : List Nat), ownToks st row own = some tk → Shut (abs st) row own tk
  | [], tk, h => by
    simp only [ownToks, oi] at h; subst h; exact ⟨by simp, by simp⟩
  | (c, e) :: r, tk, h => by
    simp only [ownToks] at h; split at h
    · rename_i i k t e' l h1 h2; split at h
      · rename_i hc; simp only [Bool.and_eq_true, beq_iff_eq, Bool.not_eq_true', List.contains_eq_mem, decide_eq_true_eq, decide_eq_false_iff_not] at hc; obtain ⟨⟨rfl, hlv⟩, hnl⟩ := hc; simp only [oi] at h; subst h; have ih := ownToks_spec r l h2
        rw [nth_eq] at h1; have hin : ∀ c2 e2 i2 t2, (c2, e2) ∈ r → row[c2]? = some (.own i2 k t2 e2) → False := by
          intro c2 e2 i2 t2 hm hr; rcases ih.own c2 e2 hm with ⟨i', k', t', z1, _, z3⟩ | ⟨t', e', z1⟩
          · rw [hr] at z1; simp only [oi, SC.own.injEq] at z1; obtain ⟨_, rfl, _⟩ := z1; exact hnl z3
          · rw [hr] at z1; simp at z1
        refine ⟨fun c2 e2 hm => ?_, fun c1 c2 e1 e2 i1 i2 t1 t2 k' m1 m2 r1 r2 => ?_⟩
        · rcases List.mem_cons.1 hm with hm | hm
          · simp only [Prod.mk.injEq] at hm; obtain ⟨rfl, rfl⟩ := hm; exact .inl ⟨_, _, _, h1, hlv, by simp⟩
          · exact (ih.own c2 e2 hm).imp (fun ⟨i, k', t, z1, z2, z3⟩ => ⟨i, k', t, z1, z2, by simp [z3]⟩) id
        · rcases List.mem_cons.1 m1 with n1 | n1 <;> rcases List.mem_cons.1 m2 with n2 | n2
          · simp only [Prod.mk.injEq] at n1 n2; rw [n1.1, n2.1]
          · simp only [Prod.mk.injEq] at n1; obtain ⟨rfl, rfl⟩ := n1; rw [h1] at r1; simp only [oi, SC.own.injEq] at r1; obtain ⟨_, rfl, _⟩ := r1; exact (hin c2 e2 i2 t2 n2 r2).elim
          · simp only [Prod.mk.injEq] at n2; obtain ⟨rfl, rfl⟩ := n2; rw [h1] at r2; simp only [oi, SC.own.injEq] at r2; obtain ⟨_, rfl, _⟩ := r2; exact (hin c1 e1 i1 t1 n1 r1).elim
          · exact ih.one c1 c2 e1 e2 i1 i2 t1 t2 k' n1 n2 r1 r2
      · cases h
    · rename_i t' e' l h1 h2; simp only [oi] at h; subst h; have ih := ownToks_spec r _ h2
      rw [nth_eq] at h1; refine ⟨fun c2 e2 hm => ?_, fun c1 c2 e1 e2 i1 i2 t1 t2 k' m1 m2 r1 r2 => ?_⟩
      · rcases List.mem_cons.1 hm with hm | hm
        · simp only [Prod.mk.injEq] at hm; obtain ⟨rfl, rfl⟩ := hm; exact .inr ⟨_, _, h1⟩
        · exact ih.own c2 e2 hm
      · have n1 : ∀ c3 e3 i3 t3, (c3, e3) ∈ (c, e) :: r → row[c3]? = some (.own i3 k' t3 e3) → (c3, e3) ∈ r := by
          intro c3 e3 i3 t3 hm hr; rcases List.mem_cons.1 hm with hm | hm
          · simp only [Prod.mk.injEq] at hm; obtain ⟨rfl, rfl⟩ := hm; rw [h1] at hr; simp at hr
          · exact hm
        exact ih.one c1 c2 e1 e2 i1 i2 t1 t2 k' (n1 _ _ _ _ m1 r1) (n1 _ _ _ _ m2 r2) r1 r2
    · cases h

def shutSS (st : SS) (β : Nat) (x : A) (k : Nat) (bx : List (Nat × List SC)) (tk : List Nat) : SS :=
  { st with slots := st.slots.map fun q => (q.1, q.2.frb β x (.ref k)), saved := st.saved.map fun q => (q.1, q.2.map fun r => (r.1, r.2.frb β x (.ref k))), boxes := bx, live := st.live.filter fun j => !tk.contains j }

theorem shut_inv [Arn] {st : SS} {β k : Nat} {x : A} {T : ArT} {κ : List A → SS → Option IR} {ir : IR} (h : st.shut β x k T κ = some ir) :
    ∃ row xs bx tk, (abs st).box β = some row ∧ args row = some (xs, T.t.cells) ∧ frbB β x (.ref k) st.boxes = some bx ∧ ownToks st row T.own = some tk ∧ k % 2 = 0 ∧ κ xs (shutSS st β x k bx tk) = some ir := by
  unfold SS.shut at h; split at h
  · rename_i row h1; rw [boxAt_abs] at h1; split at h
    · rename_i xs ts bx tk h2 h3 h4; split at h
      · rename_i hts; simp only [Bool.and_eq_true, beq_iff_eq] at hts; obtain ⟨⟨rfl, _⟩, hk⟩ := hts; simp only [fL_eq] at h; exact ⟨row, xs, bx, tk, h1, h2, h3, h4, hk, h⟩
      · cases h
    · cases h
  · cases h

theorem shut_abs [Arn] {st : SS} {β k : Nat} {x xn : A} {T : ArT} {bx : List (Nat × List SC)} {tk : List Nat} {nv : Nat} {ou : List (Nat × Option (A × Nat))} :
    abs { shutSS st β x k bx tk with nv := nv, ar := (k, T, xn) :: st.ar, out := ou } =
      subAS (abs st) β x (.ref k) (fun γ => if γ < st.nb then look bx γ else none) (fun m => (abs st).live m ∧ m ∉ tk) (fun k' => if k' = k then some (T, xn) else (abs st).ar k') (fun k' => (look ou k').getD none) := by
  have hs : ∀ (n : Nat) (l : List (Nat × SV)), absSlots n (l.map fun q => (q.1, q.2.frb β x (.ref k))) = fun j => (absSlots n l j).frb β x (.ref k) := by
    intro n l; funext j
    simp only [absSlots, look_map2 (fun s => SV.frb β x (.ref k) s)]; split
    · cases look l j <;> rfl
    · rfl
  unfold abs subAS shutSS; simp only [AS.mk.injEq, true_and]; refine ⟨hs _ _, ?_, ?_, rfl, ?_, rfl⟩
  · funext m
    simp [List.mem_filter]
  · rw [List.map_map, List.map_map]; apply List.map_congr_left
    intro q _; simp only [Function.comp_apply, hs]
  · funext k'
    simp only [SS.arAt, look_cons]; by_cases e : k = k'
    · subst e; simp
    · rw [if_neg e, if_neg (Ne.symm e)]

theorem shut_box [Arn] {st : SS} {β : Nat} {x : A} {ty : Ty} {row : List SC} {bx : List (Nat × List SC)} (h1 : (abs st).box β = some row) (h3 : frbB β x ty st.boxes = some bx) :
    (fun γ => if γ < st.nb then look bx γ else none) β = none ∧
    (∀ γ r', γ ≠ β → (fun γ => if γ < st.nb then look bx γ else none) γ = some r' → ∃ r, (abs st).box γ = some r ∧ frbL β x ty r = some r') ∧
    (∀ γ r, γ ≠ β → (abs st).box γ = some r → ∃ r', (fun γ => if γ < st.nb then look bx γ else none) γ = some r') := by
  have hl := frbB_look (β := β) (xa := x) (ty := ty) st.boxes bx h3
  have hnb : ∀ γ r, (abs st).box γ = some r → γ < st.nb ∧ look st.boxes γ = some r := by
    intro γ r hr; simp only [abs] at hr; split at hr
    · rename_i hlt; exact ⟨hlt, hr⟩
    · cases hr
  refine ⟨by simp only; rw [if_pos (hnb _ _ h1).1]; exact (hl β).1 rfl, fun γ r' e' hr => ?_, fun γ r e' hr => ?_⟩
  · simp only at hr
    split at hr
    · rename_i hlt; rcases (hl γ).2 e' with ⟨k1, k2⟩ | ⟨r, r2, k1, k2, k3⟩
      · rw [k2] at hr; cases hr
      · rw [k2] at hr; simp only [oi] at hr; subst hr; exact ⟨r, by simp only [abs]; rw [if_pos hlt]; exact k1, k3⟩
    · cases hr
  · obtain ⟨hlt, hr⟩ := hnb γ r hr; simp only
    rw [if_pos hlt]; rcases (hl γ).2 e' with ⟨k1, k2⟩ | ⟨r, r2, k1, k2, k3⟩
    · rw [k1] at hr; cases hr
    · exact ⟨r2, k2⟩

theorem addOp_inv [Arn] {p : Pr} {xs : List A} {ts : List Ty} {k : Option IR} {ir : IR} (h : addOp (some (p, xs, ts)) k = some ir) : ∃ ir', k = some ir' ∧ ir = .op p xs ir' := by
  unfold addOp at h; split at h
  · rename_i p' ys us k' hk2; simp only [oi] at h; simp only [oi, Prod.mk.injEq] at hk2; obtain ⟨rfl, rfl, rfl⟩ := hk2; exact ⟨_, rfl, h.symm⟩
  · rename_i hk2; cases hk2
  · cases h

theorem push_go [Arn] {st : SS} {β k : Nat} {κ : SS → Option IR} {ir : IR} (h : st.push β k (fun e st' => addOp (some e) (κ st')) = some ir) {R : Type} {lv : Nat} {ρ : List D} {kr : List D → Option R} {kj : Nat → List D → Option R} {r : R}
    (hd : den Φ ir R lv ρ kr kj = some r) {a : Act} {bs : List Act} {w : World} {g : G} (hR : RelG B ρ (abs st) a bs w g) (hE : Ev st ρ) :
    ∃ st' g' ir' out, κ st' = some ir' ∧ RelG B (ρ ++ out) (abs st') a bs w g' ∧ Ev st' (ρ ++ out) ∧ den Φ ir' R lv (ρ ++ out) kr kj = some r := by
  unfold SS.push at h; split at h
  rotate_left 1
  · cases h
  rename_i T x0 har; split at h
  rotate_left 1
  · cases h
  rename_i hno; rw [fN_eq] at h; obtain ⟨row, xs, bx, tk, h1, h2, h3, h4, hk, h⟩ := shut_inv h; rw [fN_eq] at h; obtain ⟨ir', he, rfl⟩ := addOp_inv h; simp only [den] at hd; obtain ⟨zs, f1, f2, f3⟩ := (hR.hl.ar.ars k T x0 har).ex
  obtain ⟨cs0, el0, hh0, hc0⟩ := (hR.box β row h1).cells
  obtain ⟨ds, q1, q2, q3⟩ := args_rep row cs0.toList _ _ h2 hc0; obtain ⟨y, j1, j2⟩ := join_rep (g := g) (w := w) T.t ds [] cs0.toList q2 q3
  rw [List.append_nil] at j1; have hev : evs ρ (x0 :: xs) = some (⟨.sl T.t, zs⟩ :: ds) := by unfold evs; rw [f1]; simp only [q1]
  rw [hev] at hd; simp only [evalPr, toE, j1, if_true] at hd; let out : List D := [⟨.sl T.t, zs ++ [y]⟩, ⟨.ref k, some zs.length⟩]
  have hR1 : RelG B (ρ ++ out) (abs st) a bs w g := hR.env (fun i d h => nth_app h)
  have hi0 : nth (ρ ++ out) st.nv = some ⟨.sl T.t, zs ++ [y]⟩ := by rw [nth_eq, ← hE.len]; simp [out]
  have hi1 : nth (ρ ++ out) (st.nv + 1) = some ⟨.ref k, some zs.length⟩ := by rw [nth_eq, ← hE.len]; simp [out]
  obtain ⟨b2, b3, b4⟩ := shut_box h1 h3; obtain ⟨g', hg⟩ := hR1.shut (β := β) (k := k) (j := zs.length) (x := .v (st.nv + 1)) (x0 := x0) (xn := .v st.nv) (T := T) (row := row) (ax := xs) (tk := tk) (y := y) (xs := zs) (ys := zs ++ [y])
    (ad' := fun k' j' b => g.p.ad k' j' b ∨ (k' = k ∧ j' = zs.length ∧ b = g.θ β)) (ou := fun k' => (look st.out k').getD none) h1 hk har (A.ev_mono (fun _ _ h => nth_app h) f1) hi0 hi1
    (fun cs el hh hc => by rw [hh0] at hh; simp only [oi] at hh; cases hh; exact j2) h2 (ownToks_spec _ _ h4)
    (fun _ _ _ => Iff.rfl) (fun b hb => absurd (f2 _ b hb).1 (Nat.lt_irrefl _)) (by simp) (by simp) (fun j' hj' => by
      rcases Nat.lt_or_ge j' zs.length with hlt | hge
      · rw [List.getElem?_append_left hlt]
      · rw [List.getElem?_eq_none (by simp; omega), List.getElem?_eq_none hge])
    (fun k' xv γ hk' => ⟨hk', noOut_spec hno k' xv γ hk'⟩) (fun k' xv γ hk' => .inl hk') b2 b3 b4
  refine ⟨_, g', ir', out, he, ?_, ⟨by simp [hE.len, out], fun i b hb => nth_app (hE.fact i b hb)⟩, hd⟩
  have := shut_abs (st := st) (β := β) (k := k) (x := .v (st.nv + 1)) (xn := .v st.nv) (T := T) (bx := bx) (tk := tk) (nv := st.nv + 2) (ou := st.out)
  rw [← this] at hg; exact hg

theorem close_go [Arn] {st : SS} {k : Nat} {κ : SS → Option IR} {ir : IR} (h : st.close k (fun e st' => addOp (some e) (κ st')) = some ir) {R : Type} {lv : Nat} {ρ : List D} {kr : List D → Option R} {kj : Nat → List D → Option R} {r : R}
    (hd : den Φ ir R lv ρ kr kj = some r) {a : Act} {bs : List Act} {w : World} {g : G} (hR : RelG B ρ (abs st) a bs w g) (hE : Ev st ρ) :
    ∃ st' g' ir' out, κ st' = some ir' ∧ RelG B (ρ ++ out) (abs st') a bs w g' ∧ Ev st' (ρ ++ out) ∧ den Φ ir' R lv (ρ ++ out) kr kj = some r := by
  unfold SS.close at h; split at h
  rotate_left 1
  · cases h
  rename_i T x0 x β har hout; split at h
  rotate_left 1
  · cases h
  rename_i hno; obtain ⟨row, xs, bx, tk, h1, h2, h3, h4, hk, h⟩ := shut_inv h; rw [fN_eq] at h; obtain ⟨ir', he, rfl⟩ := addOp_inv h; simp only [den] at hd; obtain ⟨zs, f1, f2, f3⟩ := (hR.hl.ar.ars k T x0 har).ex
  obtain ⟨_, j, g1, g2, g3⟩ := hR.hl.ar.outs k x β hout; obtain ⟨cs0, el0, hh0, hc0⟩ := (hR.box β row h1).cells
  obtain ⟨ds, q1, q2, q3⟩ := args_rep row cs0.toList _ _ h2 hc0; obtain ⟨y, j1, j2⟩ := join_rep (g := g) (w := w) T.t ds [] cs0.toList q2 q3
  rw [List.append_nil] at j1; have hev : evs ρ (x0 :: x :: xs) = some (⟨.sl T.t, zs⟩ :: ⟨.ref k, some j⟩ :: ds) := by unfold evs; rw [f1]; simp only; unfold evs; rw [g1]; simp only [q1]
  rw [hev] at hd; have hjl := (f2 j _ g2).1
  simp only [evalPr, toE, j1, and_self, if_true, hjl] at hd; let out : List D := [⟨.sl T.t, zs.set j y⟩]
  have hR1 : RelG B (ρ ++ out) (abs st) a bs w g := hR.env (fun i d h => nth_app h)
  have hi0 : nth (ρ ++ out) st.nv = some ⟨.sl T.t, zs.set j y⟩ := by rw [nth_eq, ← hE.len]; simp [out]
  have g1' : x.ev (ρ ++ out) = some ⟨.ref k, some j⟩ := A.ev_mono (fun _ _ h => nth_app h) g1
  obtain ⟨b2, b3, b4⟩ := shut_box h1 h3; obtain ⟨g', hg⟩ := hR1.shut (β := β) (k := k) (j := j) (x := x) (x0 := x0) (xn := .v st.nv) (T := T) (row := row) (ax := xs) (tk := tk) (y := y) (xs := zs) (ys := zs.set j y)
    (ad' := g.p.ad) (ou := fun k' => (look ((k, none) :: st.out) k').getD none) h1 hk har (A.ev_mono (fun _ _ h => nth_app h) f1) hi0 g1'
    (fun cs el hh hc => by rw [hh0] at hh; simp only [oi] at hh; cases hh; exact j2) h2 (ownToks_spec _ _ h4)
    (fun k' j' b => ⟨.inl, fun h => h.elim id (by rintro ⟨rfl, rfl, rfl⟩; exact g2)⟩) g3 (by rw [List.getElem?_set_self hjl]) (by simp) (fun j' hj' => by rw [List.getElem?_set_ne (Ne.symm hj')])
    (fun k' xv γ hk' => by
      simp only [look_cons] at hk'; split at hk'
      · simp at hk'
      · rename_i ek; have hk2 : (abs st).out k' = some (xv, γ) := hk'
        refine ⟨hk2, ?_⟩
        exact noOutX_spec hno k' xv γ (Ne.symm ek) hk2)
    (fun k' xv γ hk' => by
      by_cases ek : k = k'
      · subst ek; have hk2 : st.outAt k = some (xv, γ) := hk'
        rw [hout] at hk2; simp only [oi, Prod.mk.injEq] at hk2; obtain ⟨rfl, rfl⟩ := hk2; exact .inr ⟨rfl, g1'⟩
      · refine .inl ?_
        simp only [look_cons, if_neg ek]; exact hk') b2 b3 b4
  refine ⟨_, g', ir', out, he, ?_, ⟨by simp [hE.len, out], fun i b hb => nth_app (hE.fact i b hb)⟩, hd⟩
  have := shut_abs (st := st) (β := β) (k := k) (x := x) (xn := .v st.nv) (T := T) (bx := bx) (tk := tk) (nv := st.nv + 1) (ou := (k, none) :: st.out)
  rw [← this] at hg; exact hg

theorem open_go [Arn] {st : SS} {k : Nat} {x : A} {κ : SS → Option IR} {ir : IR} (h : st.open k x (fun e st' => addOp (some e) (κ st')) = some ir) {R : Type} {lv : Nat} {ρ : List D} {kr : List D → Option R} {kj : Nat → List D → Option R} {r : R}
    (hd : den Φ ir R lv ρ kr kj = some r) {a : Act} {bs : List Act} {w : World} {g : G} (hR : RelG B ρ (abs st) a bs w g) (hE : Ev st ρ) :
    ∃ st' g' ir' out, κ st' = some ir' ∧ RelG B (ρ ++ out) (abs st') a bs w g' ∧ Ev st' (ρ ++ out) ∧ den Φ ir' R lv (ρ ++ out) kr kj = some r := by
  unfold SS.open at h; split at h
  rotate_left 1
  · cases h
  rename_i T x0 har hout; split at h
  rotate_left 1
  · cases h
  rename_i hk; simp only [beq_iff_eq] at hk; simp only [fL_eq, fN_eq] at h; obtain ⟨ir', he, rfl⟩ := addOp_inv h; simp only [den] at hd; obtain ⟨zs, f1, f2, f3⟩ := (hR.hl.ar.ars k T x0 har).ex
  have hx : ∃ dx, x.ev ρ = some dx := by
    cases hx : x.ev ρ with
    | some dx => exact ⟨dx, rfl⟩
    | none =>
      have hev : evs ρ [x0, x] = none := by unfold evs; rw [f1]; simp only; unfold evs; rw [hx]
      rw [hev] at hd; cases hd
  obtain ⟨dx, hx⟩ := hx; have hev : evs ρ [x0, x] = some [⟨.sl T.t, zs⟩, dx] := by unfold evs; rw [f1]; simp only; unfold evs; rw [hx]; rfl
  rw [hev] at hd; obtain ⟨tx, vx⟩ := dx; cases tx with
  | ref k' =>
    simp only [evalPr, true_and] at hd; split at hd
    rotate_left 1
    · cases hd
    rename_i ek; subst ek; cases hvx : vx with
    | none => rw [hvx] at hd; simp at hd
    | some j =>
      rw [hvx] at hd hx; simp only at hd
      cases hy : zs[j]? with
      | none => rw [hy] at hd; cases hd
      | some y =>
        rw [hy] at hd; simp only at hd
        let out : List D := split T.t y
        have hR1 : RelG B (ρ ++ out) (abs st) a bs w g := hR.env (fun i d h => nth_app h)
        have hol : out.length = T.t.cells.length := split_len T.t y
        have hi : ∀ m d, out[m]? = some d → nth (ρ ++ out) (st.nv + m) = some d := fun m d hm => by
          rw [nth_eq, ← hE.len, List.getElem?_append_right (Nat.le_add_right _ _), Nat.add_sub_cancel_left]; exact hm
        obtain ⟨g', hg⟩ := hR1.open (k := k') (j := j) (nb := st.nb) (nt := st.ntok) (i := st.nv) (T := T) (x := x) (x0 := x0) (xs := zs) (y := y) har (A.ev_mono (fun _ _ h => nth_app h) f1) (A.ev_mono (fun _ _ h => nth_app h) hx) hy hout hk
          (by simp [abs]) (fun m hm hkn => by have hkn' : m < st.ntok := hkn; omega) hi
        refine ⟨_, g', ir', out, he, ?_, ⟨by simp [hE.len, hol], fun i b hb => nth_app (hE.fact i b hb)⟩, hd⟩
        have hbl : ∀ β row, look st.boxes β = some row → β < st.nb → True := fun _ _ _ _ => trivial
        have e1 : abs { st with boxes := (st.nb, resCells st.nv st.ntok (ownT T.own 0 T.t.cells)) :: st.boxes, nb := st.nb + 1, live := toks st.ntok (nOwn (ownT T.own 0 T.t.cells)) ++ st.live, nv := st.nv + T.t.cells.length, ntok := st.ntok + nOwn (ownT T.own 0 T.t.cells), out := (k', some (x, st.nb)) :: st.out } =
            openAS (abs st) st.nb st.ntok (nOwn (ownT T.own 0 T.t.cells)) (resCells st.nv st.ntok (ownT T.own 0 T.t.cells)) k' x := by
          unfold abs openAS; simp only [AS.mk.injEq, true_and]; refine ⟨?_, ?_, ?_, rfl, rfl, ?_⟩
          · funext γ
            rw [look_cons]; by_cases e : γ = st.nb
            · subst e; simp
            · rw [if_neg (Ne.symm e), if_neg e]; by_cases h1 : γ < st.nb
              · rw [if_pos h1, if_pos (by omega)]
              · rw [if_neg h1, if_neg (by omega)]
          · funext m
            simp only [eq_iff_iff]; omega
          · funext m
            simp only [List.mem_append, eq_iff_iff]; rw [toks_mem, or_comm]
          · funext m
            simp only [SS.outAt, look_cons]; by_cases e : k' = m
            · subst e; simp
            · rw [if_neg e, if_neg (Ne.symm e)]
        rw [e1]; exact hg
  | _ => simp [evalPr] at hd

theorem hint_abs [Arn] {o : Oper} {s s' : SS} : abs (hint o s s') = abs s' := by
  unfold hint
  (repeat' split) <;> rfl

theorem hint_ev [Arn] {o : Oper} {s s' : SS} {ρ : List D} (h : Ev s' ρ) : Ev (hint o s s') ρ := by
  have h1 : (hint o s s').nv = s'.nv := by unfold hint; (repeat' split) <;> rfl
  have h2 : (hint o s s').facts = s'.facts := by unfold hint; (repeat' split) <;> rfl
  exact ⟨by rw [h1]; exact h.len, by rw [h2]; exact h.fact⟩

theorem evs_split [Arn] {ρ : List D} : ∀ (xs ys : List A) (ds : List D), evs ρ (xs ++ ys) = some ds → ∃ d1, evs ρ xs = some d1 ∧ ∀ d2, evs ρ ys = some d2 → ds = d1 ++ d2
  | [], ys, ds, h => ⟨[], rfl, fun d2 h2 => by rw [List.nil_append] at h; rw [h] at h2; simpa using h2⟩
  | x :: xs, ys, ds, h => by
    simp only [List.cons_append, evs] at h; split at h
    · rename_i d hd; split at h
      · rename_i ds' hds; simp only [oi] at h; subst h; obtain ⟨d1, e1, e2⟩ := evs_split xs ys ds' hds; exact ⟨d :: d1, by simp only [evs, hd, e1], fun d2 h2 => by rw [e2 d2 h2]; rfl⟩
      · cases h
    · cases h

theorem sound [Arn] (hΦ : ΦOk X Φ) (hm : X.P.follows .mixedOrders = true) : ∀ n, Sound X top sig B Φ rs0 n := by
  intro n; induction n using Nat.strongRecOn with
  | ind n ih =>
  cases n with
  | zero => intro lv t st K ir h; simp [go] at h
  | succ n =>
  have ihn := ih n (Nat.lt_succ_self n)
  intro lv t st K ir h R ρ kr kj r ns bs a w g hd hkr hK hE hR; cases t with
  | code c =>
    cases c with
    | skip =>
      simp only [go] at h; exact wp_skip (ihn _ _ _ _ _ h _ _ _ _ _ _ _ _ _ _ hd hkr hK hE hR)
    | seq x y =>
      simp only [go] at h; exact wp_seq (ihn _ _ _ _ _ h _ _ _ _ _ _ _ _ _ _ hd hkr hK hE hR)
    | region id ops draw =>
      cases hpush : pushAny st st.hn with
      | some q =>
        obtain ⟨β, k⟩ := q; simp only [go, hpush] at h; obtain ⟨st1, g1, ir1, out1, h1, hR1, hE1, hd1⟩ := push_go h hd hR hE; exact ihn _ _ _ _ _ h1 _ _ _ _ _ _ _ _ _ _ hd1 hkr hK.env hE1 hR1
      | none =>
      cases hoi : (if draw = true then openIn st (callArs X ops.toList) else none) with
      | some k =>
        simp only [go, hpush, hoi] at h; obtain ⟨st1, g1, ir1, out1, h1, hR1, hE1, hd1⟩ := close_go h hd hR hE; exact ihn _ _ _ _ _ h1 _ _ _ _ _ _ _ _ _ _ hd1 hkr hK.env hE1 hR1
      | none =>
      cases hwd : (if draw = true then wantDraw st ops.toList ops.toList else none) with
      | some q =>
        obtain ⟨k, x⟩ := q; simp only [go, hpush, hoi, hwd] at h; split at h
        · cases h
        split at h
        · obtain ⟨st1, g1, ir1, out1, h1, hR1, hE1, hd1⟩ := close_go h hd hR hE; exact ihn _ _ _ _ _ h1 _ _ _ _ _ _ _ _ _ _ hd1 hkr hK.env hE1 hR1
        · obtain ⟨st1, g1, ir1, out1, h1, hR1, hE1, hd1⟩ := open_go h hd hR hE; exact ihn _ _ _ _ _ h1 _ _ _ _ _ _ _ _ _ _ hd1 hkr hK.env hE1 hR1
      | none =>
      have hor : (draw = true ∧ ∃ k, st.frz k (fun st' => go X top sig n false lv (.code (.region id ops draw)) st' K) = some ir) ∨
          (draw = false ∧ go X top sig n false lv (.ops ops (List.range ops.size)) st K = some ir) ∨
          (draw = true ∧ dynAny st st.ntok = none ∧ drawOk X st ops = true ∧ go X top sig n false lv (.dops false ops (List.range ops.size)) st K = some ir) ∨
          (draw = true ∧ lastOk ops = true ∧ drawOk X st ops = true ∧ go X top sig n false lv (.dops true ops (List.range ops.size)) st K = some ir) := by
        simp only [go, fL_eq, hpush, hoi, hwd] at h; split at h
        · rename_i k _; split at h
          · rename_i hb; simp only [Bool.and_eq_true] at hb; exact .inr (.inr (.inr ⟨rfl, hb.1, hb.2, h⟩))
          · exact .inl ⟨rfl, k, h⟩
        · rename_i hno; split at h
          · rename_i hb; exact .inr (.inr (.inl ⟨rfl, hno, hb, h⟩))
          · cases h
        · exact .inr (.inl ⟨rfl, h⟩)
      clear h; have fin : ∀ (an : Nat → List Nat), Stat X st ops an → ∀ (E : List (SS × Δ)) (st' : SS) (outs : List D) (n' : Nat) (ir' : IR), E.length = (List.range ops.size).length → chain E st st' →
          (∀ (k : Nat) (q : SS × Δ) (i : Nat), E[k]? = some q → (List.range ops.size)[k]? = some i → OkE X ops Φ (ρ ++ outs) i q) → Mode st ops an E → n' < n → go X top sig n' false lv (.res .norm) st' K = some ir' →
          den Φ ir' R lv (ρ ++ outs) kr kj = some r → Ev st' (ρ ++ outs) → draw = true → Goal X.P (Fin X.P top sig B rs0) K ns bs a w (.code (.region id ops draw)) := by
        intro an hst E st' outs n' ir' k1 k2 k3 hM k4 k5 k6 k7 hdr; subst hdr; have hlen : E.length = ops.size := by simpa using k1
        have hE' : ∀ (i : Nat) (q : SS × Δ), E[i]? = some q → OkE X ops Φ (ρ ++ outs) i q := fun i q hq => k3 i q i hq (by
          have : i < ops.size := by rw [← hlen]; exact (List.getElem?_eq_some_iff.1 hq).1
          simp [this])
        have hok : ∀ q ∈ E, (∀ d, q.2.dst = some d → d < q.1.n) ∧ okδ q.1 q.2 = true := by
          intro q hq; obtain ⟨j, hj⟩ := List.getElem?_of_mem hq
          obtain ⟨⟨o', h1, h2, h3, h4, _⟩, _⟩ := hE' j q hj; exact ⟨by rw [h3]; exact h2, h4⟩
        have habs := (chain_spec E st st' k2 hok).1
        refine wp_region_any hm (wpAny_inv (bs := bs) (B := B) hΦ hst k2 hlen hE' hM (fun a' w' hd' => ?_) ops.size _ a _ (by simp) ?_ ?_)
        · obtain ⟨g', hr⟩ := hd'.rel; rw [mask_all _ _ _ _ (fun j hj => by show 0 + j < ops.size; omega), ← habs] at hr
          exact ih n' (by omega) _ _ _ _ _ k5 _ _ _ _ _ ns bs _ _ _ k6 hkr hK.env k7 hr
        · unfold open'; exact Nat.le_trans (List.length_filter_le _ _) (by simp)
        · have hno : ∀ i, ¬ ((Array.replicate ops.size false).getD i false = true) := by
            intro i h; simp only [Array.getD_eq_getD_getElem?, Array.getElem?_replicate] at h; split at h <;> simp at h
          refine ⟨⟨g, ?_⟩, fun i j o h => absurd h (hno i), fun i h => absurd h (hno i), fun j i q q' β r h => absurd h (hno j), fun j i k q q' h => absurd h (hno j)⟩
          rw [mask_none _ _ _ _ (fun j _ h => hno _ h)]; exact (hR.env (fun i d h => nth_app h)).drew
      rcases hor with ⟨_, k, h⟩ | ⟨hdr, h⟩ | ⟨hdr, hdn, hdo, h⟩ | ⟨hdr, hlast, hdo, h⟩
      · obtain ⟨st1, g1, h1, hR1, hE1⟩ := frz_go h hR hE; exact ihn _ _ _ _ _ h1 _ _ _ _ _ _ _ _ _ _ hd hkr hK hE1 hR1
      · subst hdr; exact wp_region (ihn _ _ _ _ _ h _ _ _ _ _ _ _ _ _ _ hd hkr hK hE hR)
      · obtain ⟨an, hst, _⟩ := drawOk_spec (X := X) (st := st) (ops := ops) hdo
        obtain ⟨E, st', outs, n', ir', k1, k2, k3, kS, k4, k5, k6, k7⟩ := path hΦ n _ lv st K ir h (fun i hi o ho => hst.call i o ho) R ρ kr kj r hd hE (still_of hR hdn)
        exact fin an hst E st' outs n' ir' k1 k2 k3 (.inl fun i q hq => kS q (List.mem_of_getElem? hq)) k4 k5 k6 k7 hdr
      · obtain ⟨an, hst, hla⟩ := drawOk_spec (X := X) (st := st) (ops := ops) hdo
        obtain ⟨E, st', outs, n', ir', k1, k2, k3, kS, k4, k5, k6, k7⟩ := pathD hΦ n _ lv st K ir h R ρ kr kj r hd hE; refine fin an hst E st' outs n' ir' k1 k2 k3 (.inr ⟨fun k hk => ?_, hla hlast, fun i q hq => ?_⟩) k4 k5 k6 k7 hdr
        · cases hdk : st.dynAt k with
          | none => rfl
          | some x =>
            have : k < st.ntok := hR.dk k x hdk
            omega
        · have := kS i q hq
          rwa [k1, List.length_range] at this
    | cond c x y =>
      simp only [go] at h; split at h
      · rename_i v ty hev; obtain ⟨d, k1, k2, k3⟩ := ev_rep hR hev; simp only [A.ev, oi] at k1; subst k1; have k3' : [a.eval c] = [Value.bool v] := k3
        simp only [List.cons.injEq, and_true] at k3'; have := ihn _ _ _ _ _ h _ _ _ _ _ _ _ _ _ _ hd hkr hK hE hR
        exact wp_cond k3' this
      · rename_i i hev; obtain ⟨d, k1, k2, k3⟩ := ev_rep hR hev; obtain ⟨b, rfl, hb⟩ := bool_of k2 k3; have k1' : nth ρ i = some ⟨.bool, b⟩ := k1
        split at h
        · rename_i v hkn; have hv := hE.fact i v hkn
          rw [k1'] at hv; simp only [oi, D.mk.injEq, heq_eq_eq, true_and] at hv; subst hv; have := ihn _ _ _ _ _ h _ _ _ _ _ _ _ _ _ _ hd hkr hK hE hR
          exact wp_cond hb this
        · obtain ⟨ia, ib, h1, h2, rfl⟩ := both_some h; obtain ⟨v, hv, hd'⟩ := ite_eval hd; rw [k1'] at hv; simp only [oi, D.mk.injEq, heq_eq_eq, true_and] at hv; subst hv; refine wp_cond hb ?_
          cases b with
          | true => exact ihn _ _ _ _ _ h1 _ _ _ _ _ _ _ _ _ _ hd' hkr hK (hE.know k1') hR
          | false => exact ihn _ _ _ _ _ h2 _ _ _ _ _ _ _ _ _ _ hd' hkr hK (hE.know k1') hR
      · cases h
    | scope c =>
      simp only [go] at h; exact wp_scope_straight (ihn _ _ _ _ _ h _ _ _ _ _ _ _ _ _ _ hd hkr hK hE hR)
    | label l =>
      simp only [go] at h; exact wp_label (ihn _ _ _ _ _ h _ _ _ _ _ _ _ _ _ _ hd hkr hK hE hR)
    | block id c =>
      simp only [go] at h; exact wp_block (ihn _ _ _ _ _ h _ _ _ _ _ _ _ _ _ _ hd hkr hK hE hR)
    | loop c =>
      have hor0 : (∃ k, st.frz k (fun st' => go X top sig n false lv (.code (.loop c)) st' K) = some ir) ∨ (go X top sig (n + 1) false lv (.code (.loop c)) st K = some ir ∧ dynDst st (dsts c) = none) := by
        cases hdy : dynDst st (dsts c) with
        | none => exact .inr ⟨h, rfl⟩
        | some k => simp only [go, hdy] at h; exact .inl ⟨k, h⟩
      clear h; rcases hor0 with ⟨k, h⟩ | ⟨h, hdy⟩
      · obtain ⟨st1, g1, h1, hR1, hE1⟩ := frz_go h hR hE; exact ihn _ _ _ _ _ h1 _ _ _ _ _ _ _ _ _ _ hd hkr hK hE1 hR1
      cases hpush : pushAny st st.hn with
      | some q =>
        obtain ⟨β, k⟩ := q; simp only [go, hdy, hpush] at h; obtain ⟨st1, g1, ir1, out1, h1, hR1, hE1, hd1⟩ := push_go h hd hR hE; exact ihn _ _ _ _ _ h1 _ _ _ _ _ _ _ _ _ _ hd1 hkr hK.env hE1 hR1
      | none =>
      cases hopen : openAny st st.out with
      | some k =>
        simp only [go, hdy, hpush, hopen] at h; obtain ⟨st1, g1, ir1, out1, h1, hR1, hE1, hd1⟩ := close_go h hd hR hE; exact ihn _ _ _ _ _ h1 _ _ _ _ _ _ _ _ _ _ hd1 hkr hK.env hE1 hR1
      | none =>
      simp only [go, fL_eq, hdy, hpush, hopen] at h; have hor : go X top sig n false lv (.code c) st (.unr c 63 :: K) = some ir ∨ ∃ fz car, runLoop (fun hd h => go X top sig n false (lv + 1) (.code c) hd (.loop c h :: K)) lv (dsts c) st false fz car = some ir := by
        split at h
        · exact .inl h
        · split at h
          · exact .inr ⟨_, _, h⟩
          · split at h
            · split at h
              · rename_i hr; simp only [oi] at h; subst h; exact .inr ⟨_, _, hr⟩
              · exact .inr ⟨_, _, h⟩
            · cases h
      clear h; rcases hor with h | ⟨fz, car, h⟩
      · have := ihn _ _ _ _ _ h _ _ _ _ _ ns bs _ _ _ hd hkr hK hE hR
        exact wp_loop_rounds 64 (by rw [rounds_succ]; exact this)
      · obtain ⟨hd0, xs, ts, b, h1, h2, rfl, hfa⟩ := runLoop_spec h; simp only [den] at hd; split at hd
        · rename_i ds0 hx; split at hd
          · rename_i s0 hs0; obtain ⟨N, hN⟩ := iter_some hd; obtain ⟨hl0, hnv, g0, hR0⟩ := hR.jump h1 hx (Nat.le_of_eq hE.len.symm)
            have hcl : (pairs ts).cells.length = car.length := by rw [← hl0, ← toTup_eq hs0, split_len]
            have htk : ρ.take st.nv = ρ := by rw [← hE.len]; exact List.take_length
            rw [htk, ← toTup_eq hs0] at hR0; refine wp_loop_rounds N ?_
            have key : ∀ (m : Nat) (s : (pairs ts).den) (a : Act) (w : World) (g : G), iterN (fun s => den Φ b (LS (pairs ts).den R) (lv + 1) (ρ ++ split (pairs ts) s) (fun ds => (kr ds).map .out)
                (fun l ds => if l = lv then (toTup ts ds).map .again else (kj l ds).map .out)) m s = some r → RelG B (ρ ++ split (pairs ts) s) (abs hd0) a bs w g →
                Code.rounds X.P c (KP X.P (Fin X.P top sig B rs0) K ns bs) m a w := by
              intro m; induction m with
              | zero => intro s a w g hi; simp [iterN] at hi
              | succ m ihm =>
                intro s a w g hi hRs; simp only [iterN] at hi; rw [rounds_succ]; have hEs : Ev hd0 (ρ ++ split (pairs ts) s) := ⟨by rw [List.length_append, split_len, hE.len, hcl, hnv], fun i b hb => by rw [hfa] at hb; cases hb⟩
                have hKs : ∀ J' : Nat → List D → Prop, (∀ l ds, l < lv → J' l ds → kj l ds = some r) → KInv X.P B (Fin X.P top sig B rs0) (ρ ++ split (pairs ts) s) J' lv K ns bs := fun J' hJ =>
                  KInv.mono (by simp) (fun m hm => by rw [List.take_append_of_le_length hm]) K lv lv ns bs (Nat.le_refl _) hJ hK
                split at hi
                · rename_i s' hstep; refine ihn _ _ _ _ _ h2 _ _ _ _ _ (m :: ns) bs a w g hstep (fun ds hk => ?_) ⟨Nat.lt_succ_self _, by simp [hE.len], fun ds a' w' g' hJ hR' => ?_, hKs _ fun l ds hl hJ => ?_⟩ hEs hRs
                  · cases hh : kr ds <;> simp [hh] at hk
                  · simp only [if_true] at hJ; have hJ' : toTup ts ds = some s' := by
                      cases hh : toTup ts ds with
                      | none => rw [hh] at hJ; simp at hJ
                      | some s2 => rw [hh] at hJ; simp at hJ; rw [hJ]
                    have hsp := toTup_eq hJ'
                    have htk' : (ρ ++ split (pairs ts) s).take st.nv = ρ := by rw [← hE.len]; exact List.take_left
                    rw [htk', ← hsp] at hR'; exact ihm s' a' w' g' hi hR'
                  · rw [if_neg (by omega)] at hJ; cases hh : kj l ds <;> simp [hh] at hJ
                · rename_i r' hstep; simp only [oi] at hi; subst hi; refine ihn _ _ _ _ _ h2 _ _ _ _ _ (m :: ns) bs a w g hstep (fun ds hk => ?_) ⟨Nat.lt_succ_self _, by simp [hE.len], fun ds a' w' g' hJ hR' => ?_, hKs _ fun l ds hl hJ => ?_⟩ hEs hRs
                  · cases hh : kr ds with
                    | none => rw [hh] at hk; simp at hk
                    | some x => rw [hh] at hk; simp at hk; subst hk; exact hkr ds hh
                  · simp only [if_true] at hJ; cases hh : toTup ts ds <;> simp [hh] at hJ
                  · rw [if_neg (by omega)] at hJ; cases hh : kj l ds with
                    | none => rw [hh] at hJ; simp at hJ
                    | some x => rw [hh] at hJ; simp at hJ; rw [hJ]
                · cases hi
            exact key N s0 a w g0 hN hR0
          · cases hd
        · cases hd
    | exit id =>
      simp only [go] at h; exact wp_exit (ihn _ _ _ _ _ h _ _ _ _ _ _ _ _ _ _ hd hkr hK hE hR)
    | ret =>
      simp only [go] at h; exact wp_ret (ihn _ _ _ _ _ h _ _ _ _ _ _ _ _ _ _ hd hkr hK hE hR)
    | _ => simp [go] at h
  | dops q ops l => exact trivial
  | ops ops l =>
    cases l with
    | nil =>
      simp only [go] at h; exact ihn _ _ _ _ _ h _ _ _ _ _ _ _ _ _ _ hd hkr hK hE hR
    | cons i rest =>
      simp only [go] at h; split at h
      · cases h
      · rename_i o ho; split at h
        · cases h
        · rename_i hdst; have hdst : ∀ d, o.dst = some d → d < st.n := dstOut_spec hdst
          obtain ⟨gy, gn⟩ := guard_spec (o := o) (ops := ops) hR (fun j want _ t sv _ hs => (slot_abs hs).2) hE.fact
          have hp := SS.seq_step (X := X) hR hdst
          have part : ∀ x, both (.ite (.v x)) (go X top sig n false lv (.ops ops (i :: rest)) (st.fact x true) K) (go X top sig n false lv (.ops ops (i :: rest)) (st.fact x false) K) = some ir →
              Goal X.P (Fin X.P top sig B rs0) K ns bs a w (.ops ops (i :: rest)) := by
            intro x hx; obtain ⟨ia, ib, h1, h2, rfl⟩ := both_some hx; obtain ⟨v, hv, hd'⟩ := ite_eval hd; cases v with
            | true => exact ihn _ _ _ _ _ h1 _ _ _ _ _ _ _ _ _ _ hd' hkr hK (hE.know hv) hR
            | false => exact ihn _ _ _ _ _ h2 _ _ _ _ _ _ _ _ _ _ hd' hkr hK (hE.know hv) hR
          show wpOps X.P ops _ (i :: rest) a w
          split at h
          · cases h
          · -- skipped
            rename_i hg; simp only [wpOps, ho, gn hg, Bool.false_eq_true, if_false]; rw [SS.app_eq] at h; have hR' : RelG B ρ (abs (st.after { dst := o.dst, sv := .dead })) (a.put o.dst undef) bs w g := by
              rw [abs_after _ _ hdst rfl]; exact upd_put _ _ _ 0 _ _ (hR.put hdst rfl)
            have hE' := hE.add (outs := []) (δ := { dst := o.dst, sv := .dead }) rfl
            rw [List.append_nil] at hE'; exact ihn _ _ _ _ _ h _ _ _ _ _ _ _ _ _ _ hd hkr hK hE' hR'
          · exact part _ h
          · rename_i hg; simp only [wpOps, ho, gy hg, if_true]; split at h
            · split at h
              · rename_i k hdy; obtain ⟨st1, g1, h1, hR1, hE1⟩ := frz_go h hR hE; have := ihn _ _ _ _ _ h1 _ _ _ _ _ _ _ _ _ _ hd hkr hK hE1 hR1
                simp only [Goal, wpOps, ho, gy ‹_›, if_true] at this; exact this
              · split at h
                · obtain ⟨xs, st1, g1, ir1, out, h1, hR1, hE1, hd1⟩ := frb_go h hd hR hE; have := ihn _ _ _ _ _ h1 _ _ _ _ _ _ _ _ _ _ hd1 hkr hK.env hE1 hR1
                  simp only [Goal, wpOps, ho, gy ‹_›, if_true] at this; exact this
                · have goes : (∃ st' g' ir' out, go X top sig n false lv (.ops ops (i :: rest)) st' K = some ir' ∧ RelG B (ρ ++ out) (abs st') a bs w g' ∧ Ev st' (ρ ++ out) ∧ den Φ ir' R lv (ρ ++ out) kr kj = some r) → wpOps X.P ops (KP X.P (Fin X.P top sig B rs0) K ns bs) (i :: rest) a w := by
                    rintro ⟨st1, g1, ir1, out, h1, hR1, hE1, hd1⟩
                    exact ihn _ _ _ _ _ h1 _ _ _ _ _ _ _ _ _ _ hd1 hkr hK.env hE1 hR1
                  have fin2 := fun hx => goes hx
                  simp only [wpOps, ho, gy ‹_›, if_true] at fin2; split at h
                  · exact fin2 (push_go h hd hR hE)
                  · split at h
                    · split at h
                      · exact fin2 (close_go h hd hR hE)
                      · exact fin2 (open_go h hd hR hE)
                    · split at h
                      · exact fin2 (close_go h hd hR hE)
                      · cases h
            · rename_i e δ hst; split at h
              · rename_i hok; rw [SS.app_eq] at h; have hi := step_info hst
                obtain ⟨k', outs, h1, h2, h3, h4⟩ := op_eval hΦ hi h hd hE.len; have hR' := hR.env (ρ' := ρ ++ outs) (fun i d h => nth_app h)
                refine .inl (step_does (Φ := Φ) (SS.seq_step hR' hdst) hΦ (stepOk_seq hi (fun i b hb => nth_app (hE.fact i b hb)) h4) hst _ _ ?_)
                rintro a' w' ⟨g', hg'⟩
                rw [← abs_after _ _ (by rw [hi.dst]; exact hdst) hok] at hg'
                exact ihn _ _ _ _ _ h1 _ _ _ _ _ _ _ _ _ _ h3 hkr hK.env (hint_ev (hE.add h2)) (by rw [hint_abs]; exact hg')
              · cases h
            · simp only [oi] at h; subst h; simp [den] at hd
            · have := part _ h
              simp only [Goal, wpOps, ho, gy ‹_›, if_true] at this; exact this
            · rename_i c y z hst; obtain ⟨iy, iz, h1, h2, rfl⟩ := both_some h; rw [SS.app_eq] at h1 h2; obtain ⟨el, xs, k1, k2, k3, k4, k5, k6, k7, k8⟩ := nilc_does hp hst; simp only [den, k1] at hd; have hz : ∀ a' w', Post B ρ (abs st) z st.nb st.ntok bs a' w' → den Φ iz R lv ρ kr kj = some r → wpOps X.P ops (KP X.P (Fin X.P top sig B rs0) K ns bs) rest a' w' := by
                rintro a' w' ⟨g', hg'⟩ hdz
                rw [← abs_after _ _ (by rw [k4]; exact hdst) k8] at hg'
                have hE' := hE.add (outs := []) (δ := z) k6.symm
                rw [List.append_nil] at hE'; exact ihn _ _ _ _ _ h2 _ _ _ _ _ _ _ _ _ _ hdz hkr hK hE' hg'
              have hy : ∀ a' w', Post B ρ (abs st) y st.nb st.ntok bs a' w' → den Φ iy R lv ρ kr kj = some r → wpOps X.P ops (KP X.P (Fin X.P top sig B rs0) K ns bs) rest a' w' := by
                rintro a' w' ⟨g', hg'⟩ hdy
                rw [← abs_after _ _ (by rw [k3]; exact hdst) k7] at hg'
                have hE' := hE.add (outs := []) (δ := y) k5.symm
                rw [List.append_nil] at hE'; exact ihn _ _ _ _ _ h1 _ _ _ _ _ _ _ _ _ _ hdy hkr hK hE' hg'
              have hbo : (xs = [] → den Φ iy R lv ρ kr kj = some r) ∧ den Φ iz R lv ρ kr kj = some r := by
                split at hd
                · simp only [eqO] at hd; split at hd
                  · rename_i e; exact ⟨fun _ => e.trans hd, hd⟩
                  · cases hd
                · rename_i hne; exact ⟨fun e => by subst e; simp at hne, hd⟩
              rcases k2 with ⟨e, hdo⟩ | hdo
              · exact .inl (hdo _ _ fun a' w' hpo => hy a' w' hpo (hbo.1 e))
              · exact .inl (hdo _ _ fun a' w' hpo => hz a' w' hpo hbo.2)
            · rename_i f vs hst; split at h
              · rename_i fn hfn; split at h
                · rename_i c hbody; split at h
                  · cases h
                  · rename_i hchk; simp only [Bool.or_eq_true, blt_eq, decide_eq_true_eq, not_or, Bool.not_eq_true, Nat.not_lt] at hchk; obtain ⟨us, hus, hwp⟩ := enter_does hp hst hfn hbody hchk.1; refine .inl (hwp _ _ ?_)
                    have hR' := enter_rel hR hus hchk.2
                    have hE' : Ev (enter st fn vs) ρ := ⟨hE.len, hE.fact⟩
                    have := ihn _ _ _ _ _ h _ _ _ _ _ ns (a :: bs) _ w g hd hkr hK hE' hR'
                    have hc := calls_of_wp (args := us) hfn hbody this
                    refine Calls.mono hc ?_
                    intro e w' he; cases e <;> exact he
                · cases h
              · cases h
  | res e =>
    cases e with
    | norm =>
      cases K with
      | nil =>
        simp only [go] at h; exact ihn _ _ _ _ _ h _ _ _ _ _ ns bs _ _ _ hd hkr hK hE hR
      | cons k K =>
        cases k with
        | code c =>
          simp only [go] at h; exact ihn _ _ _ _ _ h _ _ _ _ _ ns bs _ _ _ hd hkr hK hE hR
        | ops ops l =>
          simp only [go] at h; exact ihn _ _ _ _ _ h _ _ _ _ _ ns bs _ _ _ hd hkr hK hE hR
        | blk id =>
          simp only [go] at h; exact ihn _ _ _ _ _ h _ _ _ _ _ ns bs _ _ _ hd hkr hK hE hR
        | stop => exact hK.elim
        | sc =>
          simp only [go] at h; exact ihn _ _ _ _ _ h _ _ _ _ _ ns bs _ _ _ hd hkr hK hE hR
        | unr c m =>
          cases m with
          | zero => simp [go] at h
          | succ m =>
            simp only [go] at h; have := ihn _ _ _ _ _ h _ _ _ _ _ ns bs _ _ _ hd hkr hK hE hR
            show Code.rounds X.P c (KP X.P (Fin X.P top sig B rs0) K ns bs) (m + 1) a w
            rw [rounds_succ]; exact this
        | loop c hh =>
          simp only [go] at h; split at h
          · obtain ⟨st1, g1, h1, hR1, hE1⟩ := ren_go h hR hE; exact ihn _ _ _ _ _ h1 _ _ _ _ _ ns bs _ _ _ hd hkr hK hE1 hR1
          split at h
          · obtain ⟨st1, g1, ir1, out1, h1, hR1, hE1, hd1⟩ := push_go h hd hR hE; exact ihn _ _ _ _ _ h1 _ _ _ _ _ ns bs _ _ _ hd1 hkr hK.env hE1 hR1
          split at h
          · obtain ⟨st1, g1, ir1, out1, h1, hR1, hE1, hd1⟩ := close_go h hd hR hE; exact ihn _ _ _ _ _ h1 _ _ _ _ _ ns bs _ _ _ hd1 hkr hK.env hE1 hR1
          simp only [Bool.false_eq_true, if_false, Option.map_eq_some_iff] at h; obtain ⟨xs, h1, rfl⟩ := h; simp only [den] at hd; split at hd
          · rename_i ds hx; cases ns with
            | nil => exact hK.elim
            | cons m ns =>
              obtain ⟨k1, k2, k3, k4⟩ := hK; obtain ⟨_, _, g', hR'⟩ := hR.jump h1 hx k2; exact k3 ds a w g' hd hR'
          · cases hd
        | frame fn d =>
          simp only [go] at h; have := ihn _ _ _ _ _ h _ _ _ _ _ ns bs _ _ _ hd hkr hK hE hR
          cases bs with
          | nil => exact hK.elim
          | cons b bs => exact this
    | ret =>
      simp only [go] at h; split at h
      · simp only [oi] at h; subst h; simp [den] at hd
      split at h
      · rename_i K' hpop; split at h
        · rename_i k hdy; obtain ⟨st1, g1, h1, hR1, hE1⟩ := frz_go h hR hE; exact ihn _ _ _ _ _ h1 _ _ _ _ _ _ _ _ _ _ hd hkr hK hE1 hR1
        split at h
        · obtain ⟨st1, g1, ir1, out1, h1, hR1, hE1, hd1⟩ := push_go h hd hR hE; exact ihn _ _ _ _ _ h1 _ _ _ _ _ _ _ _ _ _ hd1 hkr hK.env hE1 hR1
        split at h
        · obtain ⟨st1, g1, ir1, out1, h1, hR1, hE1, hd1⟩ := close_go h hd hR hE; exact ihn _ _ _ _ _ h1 _ _ _ _ _ _ _ _ _ _ hd1 hkr hK.env hE1 hR1
        split at h
        · rename_i rs hrs; split at h
          · obtain ⟨xs, st1, g1, ir1, out, h1, hR1, hE1, hd1⟩ := frb_go h hd hR hE; exact ihn _ _ _ _ _ h1 _ _ _ _ _ _ _ _ _ _ hd1 hkr hK.env hE1 hR1
          split at h
          · rename_i hfit; split at h
            rotate_left 1
            · cases h
            rename_i p as h1 h1'; simp only [oi] at h; subst h; obtain ⟨das, a1, _⟩ := arArgs_rep hR (st := st) (fun _ _ h => h) (fun _ => rfl) sig.ars as h1' sig.ars (fun _ h => h)
            simp only [den] at hd; split at hd
            · rename_i dsa hxa; obtain ⟨ds, hx, hdsa⟩ : ∃ ds, evs ρ p.1 = some ds ∧ dsa = ds ++ das := by
                obtain ⟨ds, e1, e2⟩ := evs_split p.1 as dsa hxa; exact ⟨ds, e1, e2 _ a1⟩
              subst hdsa; have hds := hkr _ hd
              subst hds; refine popRet_none K K' lv ns bs hpop hK a w ?_
              obtain ⟨us, h2, h3⟩ := results_run hR hrs; obtain ⟨cs, h4⟩ := returned hR h3 hfit h1 hx h1' a1; exact ⟨hR.nodef, _, h2, _, rfl, g.p, _, us, cs, h4, fun k j b => ⟨hR.hl.adm k j b, hR.hl.adf k j b⟩⟩
            · cases hd
          · cases h
        · cases h
      · rename_i fn d K' hpop; obtain ⟨ns', b, bs', rfl, hK', hto⟩ := popRet_some K K' lv ns bs hpop hK; refine hto a w ?_
        split at h
        · rename_i m σ sv rs hsv hrs; split at h
          · rename_i v hv; split at h
            · cases h
            · rename_i hdm; rw [SS.app_eq] at h; obtain ⟨us, h2, h3⟩ := results_run hR hrs; refine ⟨hR.nodef, _, h2, ?_⟩
              have hsav := hR.saved
              simp only [abs, hsv, List.map_cons] at hsav; cases hsav with
              | cons q1 q2 =>
                have hR1 : RelG B ρ (abs { st with n := m, slots := σ, saved := sv }) b bs' w g :=
                  { nodef := q1.1, sz := q1.2.1, slot := fun i => SVRep.congr (α := abs st) rfl rfl (q1.2.2 i), saved := Forall2.mono (fun _ _ ⟨h1, h2, h3⟩ => ⟨h1, h2, fun i => SVRep.congr (α := abs st) rfl rfl (h3 i)⟩) q2, box := fun β row hr => BoxOk.congr (α := abs st) (α' := abs { st with n := m, slots := σ, saved := sv }) rfl rfl (hR.box β row hr), live := fun k hk => ⟨(hR.live k hk).1, ⟨(hR.live k hk).2.own⟩⟩, pwf := hR.pwf, bel := hR.bel, hB := hR.hB, dk := hR.dk, hl := hR.hl.st hR.bel.size ⟨fun _ _ h => h, fun β row h => ⟨⟨row, h⟩, rfl⟩, fun k h => ⟨h, rfl, rfl, rfl⟩, fun _ _ h => ⟨h, rfl⟩, fun _ _ _ h => h⟩ rfl rfl }
                have hdm' : ∀ i, d = some i → i < m := dstOut_spec hdm
                have hval : SVRep ρ (abs st) g w v (resVal us) := resAll_rep hv h3
                have hR2 := upd_put _ d v 0 st.nb st.ntok (hR1.put (dst := d) hdm' (SVRep.congr (α := abs st) rfl rfl hval))
                have hab := abs_after { st with n := m, slots := σ, saved := sv } { dst := d, sv := v } hdm' rfl
                rw [← hab] at hR2; have hE1 : Ev { st with n := m, slots := σ, saved := sv } ρ := ⟨hE.len, hE.fact⟩
                have hE' := hE1.add (outs := []) (δ := { dst := d, sv := v }) rfl
                rw [List.append_nil] at hE'; exact ihn _ _ _ _ _ h _ _ _ _ _ ns' bs' _ _ _ hd hkr hK' hE' hR2
          · cases h
        · cases h
    | exit id =>
      simp only [go] at h; split at h
      · rename_i K' hpop; obtain ⟨ns', h1, h2⟩ := popTo_spec K K' lv ns bs hpop hK; exact h2 a w (ihn _ _ _ _ _ h _ _ _ _ _ ns' bs _ _ _ hd hkr h1 hE hR)
      · cases h
end
end Go.Proofs.Ytmglkddddpipgaa.Sx

namespace Go.Proofs.Ytmglkddddpipgaa.Sx
open Go.RowKit

section
variable {X : Cx} {Φ : Nat → Cont}

theorem vars_rep [Arn] {ρ : List D} {α : AS} {g : G} {w : World} : ∀ (ts : List Ty) (i : Nat) (ds : List D) (cs : List Value), ds.map (·.t) = ts → All2 (fun d v => RepD g.p w v d) ds cs → (∀ m d, ds[m]? = some d → nth ρ (i + m) = some d) →
    All2 (SCRep ρ α g w) (vars i ts) cs
  | [], i, ds, cs, h, hr, hn => by
    have : ds = [] := by simpa using h
    subst this; cases hr; exact .nil
  | t :: ts, i, ds, cs, h, hr, hn => by
    cases hr with
    | nil => simp at h
    | cons h1 h2 =>
      rename_i d v ds cs; simp only [List.map_cons, List.cons.injEq] at h; refine .cons ⟨d, hn 0 d rfl, h.1, h1⟩ (vars_rep ts (i + 1) ds cs h.2 h2 fun m d' hm => ?_)
      have := hn (m + 1) d' (by simpa using hm)
      rwa [show i + 1 + m = i + (m + 1) by omega]

theorem entry_slots [Arn] {ρ : List D} {α : AS} {g : G} {w : World} : ∀ (ins : List (Bool × Ty)) (j i : Nat) (vs cs : List Value) (ds : List D), partVals (ins.map fun q => (q.1, q.2.cells.length)) vs cs → All2 (fun d v => RepD g.p w v d) ds cs →
    ds.map (·.t) = (ins.map (·.2.cells)).flatten → (∀ m d, ds[m]? = some d → nth ρ (i + m) = some d) → vs.length = ins.length ∧
    ∀ k, (∃ sv, look (entrySlots j i ins) k = some sv ∧ j ≤ k ∧ ∃ v, vs[k - j]? = some v ∧ SVRep ρ α g w sv v) ∨ (look (entrySlots j i ins) k = none ∧ (j ≤ k → vs[k - j]? = none))
  | [], j, i, vs, cs, ds, hp, hr, ht, hn => by
    cases vs with
    | nil => exact ⟨rfl, fun k => .inr ⟨rfl, fun _ => by simp⟩⟩
    | cons => simp [partVals] at hp
  | (ag, t) :: ins, j, i, vs, cs, ds, hp, hr, ht, hn => by
    cases vs with
    | nil => simp [partVals] at hp
    | cons v vs =>
      simp only [List.map_cons, partVals] at hp; obtain ⟨c1, c2, rfl, hl, hk, hp'⟩ := hp; simp only [List.map_cons, List.flatten_cons] at ht; have hd1 : All2 (fun d v => RepD g.p w v d) (ds.take t.cells.length) c1 := by have := hr.take t.cells.length; rwa [List.take_left' hl] at this
      have hd2 : All2 (fun d v => RepD g.p w v d) (ds.drop t.cells.length) c2 := by have := hr.drop t.cells.length; rwa [List.drop_left' hl] at this
      have ht1 : (ds.take t.cells.length).map (·.t) = t.cells := by rw [List.map_take, ht, List.take_left' rfl]
      have ht2 : (ds.drop t.cells.length).map (·.t) = (ins.map (·.2.cells)).flatten := by rw [List.map_drop, ht, List.drop_left' rfl]
      obtain ⟨e1, e2⟩ := entry_slots ins (j + 1) (i + t.cells.length) vs c2 _ hp' hd2 ht2 (fun m d hm => by rw [Nat.add_assoc]; rw [List.getElem?_drop] at hm; exact hn _ d hm)
      have hv := vars_rep (ρ := ρ) (α := α) t.cells i _ c1 ht1 hd1 (fun m d hm => hn m d (by rw [List.getElem?_take] at hm; split at hm <;> simp_all))
      refine ⟨by simp [e1], fun k => ?_⟩
      simp only [entrySlots, look_cons]; by_cases ek : j = k
      · subst ek; rw [if_pos rfl]; refine .inl ⟨_, rfl, Nat.le_refl _, v, by simp, ?_⟩
        rcases hk with ⟨rfl, rfl⟩ | ⟨rfl, rfl⟩
        · simp only [if_true]; exact ⟨c1.toArray, rfl, by simpa using hv⟩
        · simp only [Bool.false_eq_true, if_false]; generalize vars i t.cells = vc at hv
          cases hv with
          | cons k1 k2 => cases k2; exact k1
      · rw [if_neg ek]; rcases e2 k with ⟨sv, h1, h2, u, h3, h4⟩ | ⟨h1, h2⟩
        · exact .inl ⟨sv, h1, by omega, u, by rw [show k - j = (k - (j + 1)) + 1 by omega]; simpa using h3, h4⟩
        · refine .inr ⟨h1, fun hle => ?_⟩
          rw [show k - j = (k - (j + 1)) + 1 by omega]; simpa using h2 (by omega)

theorem look_appE [Arn] {τ : Type} : ∀ (l m : List (Nat × τ)) (i : Nat), look (l ++ m) i = match look l i with | some x => some x | none => look m i
  | [], m, i => rfl
  | (j, v) :: l, m, i => by
    rw [List.cons_append, look_cons, look_cons, look_appE l m i]; split <;> rfl

theorem sx_run [Arn] (hΦ : ΦOk X Φ) (hm : X.P.follows .mixedOrders = true) {f : FuncId} {sig : Sig} {ir : IR} (h : sx X f sig = some ir) :
    (∃ fn c, X.P.funcs[f]? = some fn ∧ fn.body = some c ∧ (fn.name == "runtime.NumGoroutine") = false) ∧
    ∀ (w : World) (p : PF) (om : Nat → Option Res) (vs cs : List Value) (ds as rs : List D), (∀ b o, p b o → b < w.heap.size) → (∀ b r, om b = some r → b < w.heap.size ∧ InArs sig.ars r) → (∀ q ∈ X.loc, ∀ j b, ¬ p.ad q.1 j b) →
      partVals (sig.ins.map fun q => (q.1, q.2.cells.length)) vs cs → All2 (fun d v => RepD p w v d) ds cs → ds.map (·.t) = inL sig → All2 (ArAt p om w) sig.ars as → den Φ ir (List D) 0 (ds ++ as) some (fun _ _ => none) = some rs →
      Calls X.P f vs.toArray w fun e w' => ∃ v, e = .returned v ∧ ∃ p' om' us cs', ReturnedA sig w p om rs v w' p' om' us cs' ∧ ∀ k j b, (p.ad k j b → p'.ad k j b) ∧ (¬ (∃ q ∈ sig.ars ++ X.loc, q.1 = k) → p'.ad k j b → p.ad k j b) := by
  unfold sx at h; split at h
  · rename_i fn hfn; split at h
    · rename_i c hbody; split at h
      · cases h
      · rename_i hchk; simp only [Bool.or_eq_true, blt_eq, decide_eq_true_eq, not_or, Bool.not_eq_true, Nat.not_lt] at hchk; refine ⟨⟨fn, c, hfn, hbody, hchk.1⟩, fun w p om vs cs ds as rs hpw hlab hlc hparts hrep htys has hden => ?_⟩
        let B : Base := ⟨0, w, p, om, fun k => ∃ q ∈ sig.ars ++ X.loc, q.1 = k⟩
        let g : G := ⟨p, fun _ => 0, fun _ => undef, fun _ => 0, fun _ => 0, om⟩
        generalize hloc : (X.loc.map fun q => ((q.1, q.2, .l (.nil q.2.t)) : Nat × ArT × A)) = loc at h
        have hn : ((sig.ins.map fun q => q.2.cells).flatten).length = ds.length := by rw [← List.length_map (f := (·.t)) (as := ds), htys]; rfl
        have hasl : as.length = sig.ars.length := has.len.symm
        obtain ⟨e1, e2⟩ := entry_slots (ρ := ds ++ as) (α := abs (entry fn sig loc)) (g := g) (w := w) sig.ins 0 0 vs cs ds hparts hrep htys (fun m d hm => by rw [Nat.zero_add]; exact nth_app (by rw [nth_eq]; exact hm))
        have har0 : ∀ k, (abs (entry fn sig loc)).ar k = match look (arNew ds.length sig.ars) k with | some x => some x | none => look loc k := fun k => by
          show look (arNew _ sig.ars ++ loc) k = _
          rw [look_appE, hn]; cases look (arNew ds.length sig.ars) k <;> rfl
        have hlk : ∀ k T x, look loc k = some (T, x) → x = .l (.nil T.t) ∧ ∃ q ∈ X.loc, q.1 = k := by
          intro k T x hk; have := look_mem _ _ _ hk
          rw [← hloc] at this; obtain ⟨q, h1, h2⟩ := List.mem_map.1 this; simp only [Prod.mk.injEq] at h2; obtain ⟨rfl, rfl, rfl⟩ := h2; exact ⟨rfl, q, h1, rfl⟩
        have hR : RelG B (ds ++ as) (abs (entry fn sig loc)) { tmps := vs.toArray ++ Array.replicate (fn.ntmps - vs.toArray.size) undef, defers := [] } [] w g := by
          refine { nodef := rfl, sz := by simp [abs, entry]; omega, slot := fun i => ?_, saved := .nil, box := fun β row hr => (by simp [abs, entry] at hr), live := fun k hk => (by simp [abs, entry] at hk), pwf := hpw, bel := Below.refl _ _, hB := Nat.zero_le _, dk := fun k x hx => (by have hx' : (none : Option (Nat × Ty × TypeId)) = some x := hx; cases hx'), hl := ?_ }
          rotate_right 1
          · refine { b0 := rfl, om := fun b r hr => .inl ⟨r, hr⟩, owb := fun b r hr => (hlab b r hr).1, fr := fun b _ _ => ⟨rfl, fun _ => Iff.rfl⟩, p0m := fun b o hp => ⟨hp, rfl⟩, adm := fun _ _ _ h => h, adf := fun _ _ _ _ h => h, ark := fun k x hx => ?_, ar := ⟨fun k T x hk => ?_, fun k xv β hk => (by have hk' : (none : Option (A × Nat)) = some (xv, β) := hk; cases hk')⟩ }
            · rw [har0] at hx; rcases arNew_look sig.ars ds.length k with ⟨h1, _⟩ | ⟨m, T, h1, h2⟩
              · rw [h1] at hx; obtain ⟨T, x⟩ := x; obtain ⟨_, q, h3, h4⟩ := hlk k T x hx; exact ⟨q, List.mem_append.2 (.inr h3), h4⟩
              · exact ⟨_, List.mem_append.2 (.inl (List.mem_of_getElem? h2)), rfl⟩
            · rw [har0] at hk; rcases arNew_look sig.ars ds.length k with ⟨h1, _⟩ | ⟨m, T', h1, h2⟩
              · rw [h1] at hk; obtain ⟨rfl, q, h3, h4⟩ := hlk k T x hk; refine ⟨[], rfl, fun j b hb => ?_, fun j y hy => by simp at hy⟩
                exact absurd (h4 ▸ hb) (hlc q h3 j b)
              · rw [h1] at hk; simp only [oi, Prod.mk.injEq] at hk; obtain ⟨rfl, rfl⟩ := hk; obtain ⟨d, k1, xs, hd, f2, f3⟩ := has.get m _ h2; subst hd; refine ⟨xs, ?_, f2, fun j y hy => ?_⟩
                · show nth (ds ++ as) (ds.length + m) = _
                  rw [nth_eq, List.getElem?_append_right (Nat.le_add_right _ _), Nat.add_sub_cancel_left]; exact k1
                · obtain ⟨b, q1, q2⟩ := f3 j y hy; exact ⟨b, q1, .inr (q2.relab1 (g' := g) (fun _ h => h) (fun _ _ h => h) (fun _ _ => Iff.rfl) (fun _ _ _ h => h))⟩
          have hget : ∀ v, vs[i]? = v → (vs.toArray ++ Array.replicate (fn.ntmps - vs.toArray.size) undef).getD i undef = v.getD undef := by
            intro v hv; rw [Array.getD_eq_getD_getElem?]; by_cases hi : i < vs.length
            · rw [Array.getElem?_append_left (by simpa using hi), List.getElem?_toArray, hv]
            · rw [Array.getElem?_append_right (by simpa using hi), Array.getElem?_replicate]; rw [List.getElem?_eq_none (by omega)] at hv; subst hv; split <;> rfl
          show SVRep (ds ++ as) _ g w (absSlots fn.ntmps (entrySlots 0 0 sig.ins) i) _
          rcases e2 i with ⟨sv, h1, _, v, h3, h4⟩ | ⟨h1, h2⟩
          · rw [Nat.sub_zero] at h3; have hi : i < vs.length := (List.getElem?_eq_some_iff.1 h3).1
            rw [hget _ h3]; simp only [absSlots, h1]; rw [if_pos (by omega)]; exact h4
          · rw [hget _ (h2 (Nat.zero_le _))]; simp only [absSlots, h1]; split <;> rfl
        have hE : Ev (entry fn sig loc) (ds ++ as) := ⟨by simp only [entry, List.length_append]; rw [hn, hasl], fun i b hb => by cases hb⟩
        have := sound (top := fn) (sig := sig) (B := B) (rs0 := rs) hΦ hm 20000 0 (.code c) (entry fn sig loc) [] ir h (List D) (ds ++ as) some (fun _ _ => none) rs [] [] _ w g hden (fun ds h => by simpa using h) trivial hE hR
        have hc : Calls X.P f vs.toArray w (fun e w' => ∃ v, e = .returned v ∧ ∃ p' om' us cs, ReturnedA sig B.w0 B.p0 B.om0 rs v w' p' om' us cs ∧ ∀ k j b, (B.p0.ad k j b → p'.ad k j b) ∧ (¬ B.ks k → p'.ad k j b → B.p0.ad k j b)) := calls_of_wp hfn hbody this
        exact Calls.mono hc fun e w' h => h
    · cases h
  · cases h

def Ty.noref : Ty → Bool
  | .ref _ => false | .sl e => e.noref | .pt e => e.noref | .nd e => e.noref | .pair a b => a.noref && b.noref | _ => true

theorem CellsAt.cng [Arn] {p p' : PF} {w : World} (hc : p'.c = p.c) {b o : Nat} {cs : List Value} (h : CellsAt p w b o cs) : CellsAt p' w b o cs := fun j v hj => by
  obtain ⟨h1, h2⟩ := h j v hj; exact ⟨by show p'.c _ _; rw [hc]; exact h1, h2⟩

theorem Rep.cng [Arn] {p p' : PF} {w : World} (hc : p'.c = p.c) : ∀ (t : Ty) (vs : List Value) (x : t.den), t.noref = true → Rep p w t vs x → Rep p' w t vs x
  | .unit, _, _, _, hr => hr
  | .int _, _, _, _, hr => hr
  | .bool, _, _, _, hr => hr
  | .str, _, _, _, hr => hr
  | .ref _, _, _, hn, _ => by simp [Ty.noref] at hn
  | .pair a b, vs, x, hn, hr => by
    simp only [Ty.noref, Bool.and_eq_true] at hn; obtain ⟨va, vb, rfl, h1, h2⟩ := hr; exact ⟨va, vb, rfl, Rep.cng hc a _ _ hn.1 h1, Rep.cng hc b _ _ hn.2 h2⟩
  | .sl e, vs, xs, hn, hr => by
    rcases hr with hr | ⟨b, off, cap, rfl, h1, h2, h3⟩ | hr
    · exact .inl hr
    · refine .inr (.inl ⟨b, off, cap, rfl, h1, h2, fun i x hx => ?_⟩)
      obtain ⟨cs, hcs, hr⟩ := h3 i x hx; exact ⟨cs, hcs.cng hc, Rep.cng hc e _ _ (by simpa [Ty.noref] using hn) hr⟩
    · exact .inr (.inr hr)
  | .pt e, vs, x, hn, hr => by
    rcases hr with hr | ⟨b, cs, y, h1, h2, h3, h4⟩
    · exact .inl hr
    · exact .inr ⟨b, cs, y, h1, h2, h3.cng hc, Rep.cng hc e _ _ (by simpa [Ty.noref] using hn) h4⟩
  | .nd e, vs, x, hn, hr => by
    obtain ⟨v, h1, h2⟩ := hr; exact ⟨v, h1, RepT.mono (fun _ _ _ h => h.cng hc) (fun cs y hy => Rep.cng hc e cs y (by simpa [Ty.noref] using hn) hy) x v h2⟩

theorem reps_cng [Arn] {p p' : PF} {w : World} (hc : p'.c = p.c) : ∀ (ds : List D) (vs : List Value), All2 (fun d v => RepD p w v d) ds vs → (ds.map (·.t)).all Ty.noref = true → All2 (fun d v => RepD p' w v d) ds vs
  | [], _, h, _ => by cases h; exact .nil
  | d :: ds, _, h, hn => by
    cases h with
    | cons h1 h2 =>
      simp only [List.map_cons, List.all_cons, Bool.and_eq_true] at hn; exact .cons (Rep.cng hc _ _ _ hn.1 h1) (reps_cng hc ds _ h2 hn.2)

theorem ReturnedA.plain [Arn] {sig : Sig} {w w' : World} {p p' : PF} {om om' : Nat → Option Res} {rs : List D} {v : Value} {us cs : List Value} (h : ReturnedA sig w p om rs v w' p' om' us cs) (hars : sig.ars = []) (hom : ∀ b, om b = none)
    {q q' : PF} (hq : q.c = p.c) (hq' : q'.c = p'.c) (hrp : All2 (fun d v => RepD p' w' v d) rs cs → All2 (fun d v => RepD q' w' v d) rs cs) : Returned sig w q rs v w' q' us cs := by
  obtain ⟨rs1, as, hrs, hrep, htys, has⟩ := h.rep; rw [hars] at has; have : as = [] := by cases has; rfl
  subst this; rw [List.append_nil] at hrs; subst hrs; have e1 : ∀ b o, q b o ↔ p b o := fun b o => by show q.c b o ↔ p.c b o; rw [hq]
  have e2 : ∀ b o, q' b o ↔ p' b o := fun b o => by show q'.c b o ↔ p'.c b o; rw [hq']
  refine ⟨h.val, ⟨h.bel.os, h.bel.tape, h.bel.output, h.bel.size, fun k hk => (h.fr k hk (hom k)).1⟩, fun b o hb => (e2 b o).trans (((h.fr b hb (hom b)).2 o).trans (e1 b o).symm), fun b o hb => h.wf b o ((e2 b o).1 hb), h.parts, hrp hrep, htys, ⟨fun j v e sz hj => ?_, h.own.dis⟩⟩
  obtain ⟨n, xs, k1, k2⟩ := h.own.own j v e sz hj; refine ⟨n, xs, ⟨k1.1, k1.2.imp id ?_⟩, fun b hb o ho hp => k2 b hb o ho ((e2 b o).1 hp)⟩
  rintro ⟨b, cap, cur, q1, q2, q3⟩
  refine ⟨b, cap, cur, q1, ?_, q3⟩
  rcases (h.ownl j _ b hj (by simp only [q1]; rfl)).2 with ⟨r, hr⟩ | hr
  · rw [hom] at hr; cases hr
  · exact hr

def Sig.noref (sig : Sig) : Bool := (inL sig).all Ty.noref && ((outL sig).map (·.1)).all Ty.noref

theorem sx_ok [Arn] (hΦ : ΦOk X Φ) (hm : X.P.follows .mixedOrders = true) {f : FuncId} {sig : Sig} {ir : IR} (hl : X.loc = [] ∨ (sig.ars = [] ∧ sig.noref = true)) (h : sx X f sig = some ir) :
    FnOkX X.P f sig (fun ds => den Φ ir (List D) 0 ds some (fun _ _ => none)) := by
  obtain ⟨hb, hrun⟩ := sx_run hΦ hm h; refine ⟨fun hars => ⟨hb, fun w p vs cs ds rs hpw hparts hrep htys hden => ?_⟩, fun hars => ⟨hb, fun w p om vs cs ds as rs hpw hlab hparts hrep htys has hden => ?_⟩⟩
  · rcases hl with hl | ⟨_, hl⟩
    · have := hrun w p (fun _ => none) vs cs ds [] rs hpw (fun b r hr => by cases hr) (by rw [hl]; simp) hparts hrep htys (by rw [hars]; exact .nil) (by rw [List.append_nil]; exact hden)
      refine Calls.mono this ?_
      rintro e w' ⟨v, rfl, p', om', us, cs', hret, had⟩
      refine ⟨v, rfl, p', us, cs', hret.plain hars (fun _ => rfl) rfl rfl id, ?_⟩
      funext k j b
      exact propext ⟨(had k j b).2 (by rw [hars, hl]; simp), (had k j b).1⟩
    · simp only [Sig.noref, Bool.and_eq_true] at hl; let p1 : PF := ⟨p.c, fun _ _ _ => False⟩
      have := hrun w p1 (fun _ => none) vs cs ds [] rs hpw (fun b r hr => by cases hr) (fun _ _ _ _ h => h) hparts (reps_cng (p := p) (p' := p1) rfl _ _ hrep (by rw [htys]; exact hl.1)) htys (by rw [hars]; exact .nil) (by rw [List.append_nil]; exact hden)
      refine Calls.mono this ?_
      rintro e w' ⟨v, rfl, p', om', us, cs', hret, had⟩
      obtain ⟨rs1, as, hrs, _, ht, has⟩ := hret.rep; rw [hars] at has; have hnil : as = [] := by cases has; rfl
      subst hnil; rw [List.append_nil] at hrs; subst hrs; exact ⟨v, rfl, ⟨p'.c, p.ad⟩, us, cs', hret.plain hars (fun _ => rfl) rfl rfl (fun hr => reps_cng (p := p') (p' := ⟨p'.c, p.ad⟩) rfl _ _ hr (by rw [ht]; exact hl.2)), rfl⟩
  · have hloc : X.loc = [] := hl.elim id fun hl => absurd hl.1 hars
    have := hrun w p om vs cs ds as rs hpw hlab (by rw [hloc]; simp) hparts hrep htys has hden
    refine Calls.mono this ?_
    rintro e w' ⟨v, rfl, p', om', us, cs', hret, had⟩
    refine ⟨v, rfl, p', om', us, cs', hret, fun k j b => ⟨(had k j b).1, fun hk => (had k j b).2 ?_⟩⟩
    rintro ⟨q, hq, rfl⟩
    rw [hloc, List.append_nil] at hq; exact hk q hq rfl
end
end Go.Proofs.Ytmglkddddpipgaa.Sx
