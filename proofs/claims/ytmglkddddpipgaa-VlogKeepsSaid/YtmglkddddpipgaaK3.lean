/-
  What the other operations do: lists that may be written, appends, builtin functions; each operation stepped.
-/
import Derived.Test.YtmglkddddpipgaaK2
import Derived.Laws.OwnMore
import Derived.MapKept
set_option linter.unusedVariables false
set_option linter.unusedSimpArgs false
namespace Go.Proofs.Ytmglkddddpipgaa.Sx
open Go.RowKit

section
variable {X : Cx} {B : Base} {ρ : List D} {st : SS} {o : Oper} {α : AS} {a : Act} {bs : List Act} {w : World} {g : G} {Φ : Nat → Cont}

theorem evL_rep [Arn] (p : Pre X.P B ρ st o α a bs w g) : ∀ (xs : List Operand) (ts : List TypeId) (vs : List SV), evL X.P st xs ts = some vs → (∀ x ∈ xs, x ∈ o.op.operands) → All2 (SVRep ρ α g w) vs (xs.map a.eval)
  | [], [], vs, h, _ => by simp only [evL, oi] at h; subst h; exact .nil
  | [], _ :: _, vs, h, _ => by simp [evL] at h
  | _ :: _, [], vs, h, _ => by simp [evL] at h
  | x :: xs, t :: ts, vs, h, hm => by
    simp only [evL] at h; split at h
    · rename_i v vs' h1 h2; cases h; exact .cons (p.ev (hm x (by simp)) h1) (evL_rep p xs ts vs' h2 fun y hy => hm y (by simp [hy]))
    · cases h

theorem caps_svrep [Arn] {caps : List (Nat × Nat)} {cvs : List Value} (h : All2 (fun (q : Nat × Nat) u => (∃ row, α.box q.1 = some row) ∧ u = Value.pointer (some ⟨g.θ q.1, q.2, none⟩)) caps cvs) :
    All2 (SVRep ρ α g w) (caps.map fun q => .one (.adr q.1 q.2)) cvs := by
  induction h with
  | nil => exact .nil
  | cons h1 _ ih => exact .cons h1 ih

theorem call_run [Arn] {f : Operand} {fid : FuncId} {xs : Array Operand} {ts : Array TypeId} {cvs : Array Value} {fn : Func} {c : Code} (ho : o.op = .call { callee := .value f, args := xs, argTypes := ts })
    (hf : a.eval f = .func (.func fid) #[] cvs) (h1 : X.P.funcs[fid]? = some fn) (h2 : fn.body = some c) (h3 : (fn.name == "runtime.NumGoroutine") = false) :
    (execOp a.eval o).run X.P w = .ok (.enter fid (xs.map a.eval ++ cvs)) w := by
  unfold execOp; simp only [ho, resolve, Deferred.ofValue, hf, Sem.run_bind, Sem.run_pure, Result.andThen_ok, invoke, callFunc, run_program, h1, h3, h2, Option.isNone_some, if_false, Bool.false_eq_true, Array.empty_append]

theorem look_cons0 [Arn] {τ : Type} (j : Nat) (v : τ) (l : List (Nat × τ)) (i : Nat) : look ((j, v) :: l) i = if j = i then some v else look l i := by
  show (bif Nat.beq j i then some v else look l i) = _
  cases hb : Nat.beq j i with
  | true => rw [if_pos (Nat.eq_of_beq_eq_true hb)]; rfl
  | false => rw [if_neg (fun e => by subst e; simp at hb)]; rfl

theorem look_nil0 [Arn] {τ : Type} (i : Nat) : look ([] : List (Nat × τ)) i = none := rfl

theorem thaw_some [Arn] {outs : List (Bool × List (Ty × Option TypeId))} {t : Ty} {e : TypeId} (h : thaw outs = some (t, e)) : t.flat = true ∧ outs = [(false, [(.sl t, some e)])] := by
  unfold thaw at h; split at h
  · split at h
    · rename_i hf; simp only [oi, Prod.mk.injEq] at h; obtain ⟨rfl, rfl⟩ := h; exact ⟨hf, rfl⟩
    · cases h
  · cases h

theorem returned_one [Arn] {sig : Sig} {w w' : World} {p p' : PF} {rs : List D} {v : Value} {us cs : List Value} {t : Ty} {e : TypeId} (hr : Returned sig w p rs v w' p' us cs)
    (ho : sig.outs = [(false, [(.sl t, some e)])]) (hf : t.flat = true) :
    ∃ (n : Nat) (xs : List Value) (ys : List t.den), rs = [⟨.sl t, ys⟩] ∧ w'.ownsRow w.heap.size e t.width v n xs ∧ ys.length = n ∧ Flats p' w' t xs ys ∧ ∃ b n c, v = .slice b n c := by
  have hL : outL sig = [(.sl t, some e)] := by simp [outL, ho]
  have hparts := hr.parts
  rw [ho] at hparts; have htys := hr.tys
  rw [hL] at htys; have hrep := hr.rep
  cases us with
  | nil => simp [partVals] at hparts
  | cons u us =>
    simp only [List.map_cons, List.map_nil, partVals] at hparts; obtain ⟨c1, c2, rfl, h1, h2, h3⟩ := hparts; cases us with
    | cons => simp [partVals] at h3
    | nil =>
      simp only [partVals] at h3; subst h3; rcases h2 with ⟨h2, _⟩ | ⟨_, rfl⟩
      · cases h2
      have hv : v = u := hr.val
      subst hv; cases hrep with
      | cons h4 h5 =>
        cases h5; rename_i d; obtain ⟨dt, dx⟩ := d; simp only [List.map_cons, List.map_nil, List.cons.injEq, and_true] at htys; subst htys; obtain ⟨n, xs, h6, h7⟩ := hr.own.own 0 v e t.width (by rw [hL]; rfl)
        obtain ⟨hln, hle⟩ := own_elems (g := ⟨p', fun _ => 0, fun _ => undef, fun _ => 0, fun _ => 0, fun _ => none⟩) h6 h4
        refine ⟨n, xs, dx, rfl, h6, hln, Flats.of (by rw [h6.1, hln]) fun i y hy => ?_, ?_⟩
        · exact hle i y hy
        · rcases h6.2 with ⟨h, _⟩ | ⟨_, _, _, h, _⟩ <;> exact ⟨_, _, _, h⟩

theorem call_does [Arn] (p : Pre X.P B ρ st o α a bs w g) (hΦ : ΦOk X Φ) {f : Operand} {fid : FuncId} {caps : List (Nat × Nat)} {xs : Array Operand} {ts : Array TypeId} {vs : List SV} {e : Option (Pr × List A × List Ty)} {δ : Δ}
    (ho : o.op = .call { callee := .value f, args := xs, argTypes := ts }) (hf : SCRep ρ α g w (.fn fid caps) (a.eval f)) (hx : evL X.P st xs.toList ts.toList = some vs)
    (hs : doCall X st o fid (vs ++ caps.map fun q => .one (.adr q.1 q.2)) = some (.go e δ)) (hfr : ∀ k, st.ntok ≤ k → k < st.ntok + δ.nt → ¬ α.known k)
    (har : ∀ sig, X.Γ fid = some sig → sig.ars ≠ [] → ∀ k x, st.arAt k = some x → α.ar k = some x) (hout : ∀ k, α.out k = st.outAt k) (he : ∀ q ys us, e = some (q, ys, us) → EnvOk Φ ρ st.nv q ys) : Does X.P o a w (Post B ρ α δ st.nb st.ntok bs) := by
  obtain ⟨cvs, hv, hcap⟩ := hf; have hus := (evL_rep p _ _ _ hx fun y hy => by rw [ho]; simp [Op.operands, Call.operands, Array.mem_toList_iff.1 hy]).app (caps_svrep (ρ := ρ) (w := w) hcap)
  simp only [doCall] at hs; cases hsig : X.Γ fid with
  | none => rw [hsig] at hs; simp only at hs; split at hs <;> simp at hs
  | some sig =>
    rw [hsig] at hs; simp only at hs
    split at hs
    · rename_i hfit; obtain ⟨cs, cl, k1, k2, k3, ax, k4⟩ := fits_rep _ _ _ hfit hus; split at hs
      · rename_i ys tys sv hargs hres; split at hs
        · rename_i q0 ql hars; split at hs
          · rename_i as has; simp only [oi, Eff.go.injEq] at hs; obtain ⟨rfl, rfl⟩ := hs; obtain ⟨⟨fn, c, q1, q2, q3⟩, hcall⟩ := (hΦ.fn fid sig hsig).1.2 (by rw [hars]; simp)
            rw [k1] at hargs; simp only [Option.bind_some, k4, oi, Prod.mk.injEq] at hargs; obtain ⟨rfl, rfl⟩ := hargs; obtain ⟨ds, h5, h6, h7⟩ := args_rep _ _ _ _ k4 k2; obtain ⟨das, h5a, h7a, h8a⟩ := arArgs_rep p.rel (har sig hsig (by rw [hars]; simp)) hout sig.ars as has sig.ars (fun _ h => h)
            obtain ⟨ds', outs, h8, h9, h10⟩ := he _ _ _ rfl; rw [evs_append _ _ _ _ h5 h5a] at h8; cases h8; have hc := hcall w g.p (labs sig.ars g.ow) _ cl ds das outs p.rel.pwf (fun b r hb => ⟨p.rel.hl.owb b r (labs_some.1 hb).1, (labs_some.1 hb).2⟩) k3 h7 h6 h7a h9
            have harr : (xs.map a.eval ++ cvs) = (xs.toList.map a.eval ++ cvs.toList).toArray := by apply Array.ext'; simp
            intro next Q hn; unfold Oper.wp; rw [call_run ho hv q1 q2 q3, harr]; refine Calls.mono hc ?_
            rintro en w' ⟨v, rfl, p', om', us, cs', hret, had⟩
            refine hn _ _ ?_
            have hfr' : ∀ k, st.ntok ≤ k → k < st.ntok + nOwn (outL sig) → ¬ α.known k := hfr
            obtain ⟨g', h11, h12, h13⟩ := p.rel.calledA hret had (fun q hq => (h8a q hq).1) (fun q hq => (h8a q hq).2) (i := st.nv + (outL sig).length) (fun m d hm => by rw [Nat.add_assoc]; exact h10 _ d hm) hfr'
              (nb := st.nb) (δ := { dst := none, nt := nOwn (outL sig), dr := arNew (st.nv + (outL sig).length) sig.ars }) ⟨rfl, rfl, rfl, rfl, rfl, rfl, rfl⟩
            obtain ⟨rs1, as', hrs, hrep, htys, _⟩ := hret.rep; have hrp := resParts_rep (ρ := ρ) (α := α.upd { dst := none, nt := nOwn (outL sig), dr := arNew (st.nv + (outL sig).length) sig.ars } st.nb st.ntok) (g := g') (w := w') sig.outs st.nv st.ntok rs1 us cs' hret.parts htys (by rw [h12]; exact hrep)
              (fun j d hj => h10 j d (by rw [hrs, List.getElem?_append_left (List.getElem?_eq_some_iff.1 hj).1]; exact hj)) h13
            have hsv := resAll_rep hres hrp
            rw [← hret.val] at hsv; exact ⟨g', (h11.put (dst := o.dst) (fun d hd => p.dst d hd) hsv).ext rfl (fun i => by simp [AS.upd, AS.put]) (fun β => by simp [AS.upd, AS.put]) (fun k => Iff.rfl) (fun k hk => by simpa [AS.upd, AS.put, outL] using hk) rfl⟩
          · cases hs
        rename_i hars; split at hs
        · rename_i t te hmt hth; simp only [oi, Eff.go.injEq] at hs; obtain ⟨rfl, rfl⟩ := hs; obtain ⟨hflat, houts⟩ := thaw_some hth; obtain ⟨⟨fn, c, q1, q2, q3⟩, hcall⟩ := (hΦ.fn fid sig hsig).1.1 hars
          rw [k1] at hargs; simp only [Option.bind_some, k4, oi, Prod.mk.injEq] at hargs; obtain ⟨rfl, rfl⟩ := hargs; obtain ⟨ds, h5, h6, h7⟩ := args_rep _ _ _ _ k4 k2; obtain ⟨ds', outs, h8, h9, h10⟩ := he _ _ _ rfl; rw [h5] at h8; cases h8; have hc := hcall w g.p _ cl ds outs p.rel.pwf k3 h7 h6 h9
          have harr : (xs.map a.eval ++ cvs) = (xs.toList.map a.eval ++ cvs.toList).toArray := by apply Array.ext'; simp
          intro next Q hn; unfold Oper.wp; rw [call_run ho hv q1 q2 q3, harr]; refine Calls.mono hc ?_
          rintro en w' ⟨v, rfl, p', us, cs', hret, had⟩
          refine hn _ _ ?_
          have hnt : nOwn (sig.outs.map (·.2)).flatten = 1 := by rw [houts]; rfl
          have hnv : (sig.outs.map (·.2)).flatten.length = 1 := by rw [houts]; rfl
          have hfr' : ¬ α.known st.ntok := hfr _ (Nat.le_refl _) (by simp only [hnt]; omega)
          obtain ⟨n', xs', ysd, r1, r2, r3, r4, r5⟩ := returned_one hret houts hflat; have hnn : nth ρ st.nv = some ⟨.sl t, ysd⟩ := h10 0 _ (by rw [r1]; rfl)
          have hB : B.B0 ≤ w.heap.size := Nat.le_trans p.rel.hB p.rel.bel.size
          obtain ⟨g', h11, h12, h13⟩ := p.rel.newDyn (kill := none) (i := st.nv) hfr' ⟨hret.bel.os, hret.bel.tape, hret.bel.output, hret.bel.size, fun k hk _ => hret.bel.block k hk⟩
            (.inl ⟨rfl, fun b hb => (r2.lt b hb).1⟩) (ownsRow_base r2 hB) hnn r3 (r4.any hflat)
          obtain ⟨b0, n0, c0, r6⟩ := r5; have hsv : SVRep ρ (dynAS α none st.ntok (st.nv, t, te)) g' w' (.one (.dsl st.ntok)) v := ⟨.inr rfl, h13.symm, b0, n0, c0, r6⟩
          refine ⟨g', (h11.put (dst := o.dst) (fun d hd => p.dst d hd) hsv).ext rfl (fun i => rfl) (fun β => rfl) (fun k => ?_) (fun k hk => ?_) rfl (fun k x hx => ?_)⟩
          · show (α.known k ∨ (st.ntok ≤ k ∧ k < st.ntok + nOwn (sig.outs.map (·.2)).flatten)) ↔ (α.known k ∨ k = st.ntok)
            rw [hnt]; have : (st.ntok ≤ k ∧ k < st.ntok + 1) ↔ k = st.ntok := by omega
            rw [this]
          · have hk' : (α.live k ∧ (none : Option Nat) ≠ some k) ∨ (st.ntok ≤ k ∧ k < st.ntok + nOwn (sig.outs.map (·.2)).flatten) := hk
            rw [hnt] at hk'; refine hk'.imp id (fun h => ?_)
            omega
          · simp only [AS.upd, look_cons0] at hx; simp only [AS.put, dynAS]; by_cases e : k = st.ntok
            · subst e; simpa using hx
            · rw [if_neg (Ne.symm e)] at hx; rw [if_neg e]; simpa [look_nil0] using hx
        simp only [oi, Eff.go.injEq] at hs; obtain ⟨rfl, rfl⟩ := hs; obtain ⟨⟨fn, c, q1, q2, q3⟩, hcall⟩ := (hΦ.fn fid sig hsig).1.1 hars
        rw [k1] at hargs; simp only [Option.bind_some, k4, oi, Prod.mk.injEq] at hargs; obtain ⟨rfl, rfl⟩ := hargs; obtain ⟨ds, h5, h6, h7⟩ := args_rep _ _ _ _ k4 k2; obtain ⟨ds', outs, h8, h9, h10⟩ := he _ _ _ rfl; rw [h5] at h8; cases h8; have hc := hcall w g.p _ cl ds outs p.rel.pwf k3 h7 h6 h9
        have harr : (xs.map a.eval ++ cvs) = (xs.toList.map a.eval ++ cvs.toList).toArray := by apply Array.ext'; simp
        intro next Q hn; unfold Oper.wp; rw [call_run ho hv q1 q2 q3, harr]; refine Calls.mono hc ?_
        rintro en w' ⟨v, rfl, p', us, cs', hret, had⟩
        refine hn _ _ ?_
        have hfr' : ∀ k, st.ntok ≤ k → k < st.ntok + nOwn (outL sig) → ¬ α.known k := hfr
        obtain ⟨g', h11, h12, h13⟩ := p.rel.called hret had hfr' (nb := st.nb) (δ := { dst := none, nt := nOwn (outL sig) }) ⟨rfl, rfl, rfl, rfl, rfl, rfl, rfl⟩
        have hrp := resParts_rep (ρ := ρ) (α := α.upd { dst := none, nt := nOwn (outL sig) } st.nb st.ntok) (g := g') (w := w') sig.outs st.nv st.ntok outs us cs' hret.parts hret.tys (by rw [h12]; exact hret.rep) h10 h13
        have hsv := resAll_rep hres hrp
        rw [← hret.val] at hsv; exact ⟨g', (h11.put (dst := o.dst) (fun d hd => p.dst d hd) hsv).ext rfl (fun i => by simp [AS.upd, AS.put]) (fun β => by simp [AS.upd, AS.put]) (fun k => Iff.rfl) (fun k hk => by simpa [AS.upd, AS.put, outL] using hk) rfl⟩
      · cases hs
    · cases hs
end
end Go.Proofs.Ytmglkddddpipgaa.Sx

namespace Go.Proofs.Ytmglkddddpipgaa.Sx
open Go.RowKit

abbrev PtrL (α : AS) (g : G) (l : List (Nat × Nat)) (vs : List Value) : Prop :=
  All2 (fun (q : Nat × Nat) v => (∃ row, α.box q.1 = some row) ∧ v = Value.pointer (some ⟨g.θ q.1, q.2, none⟩)) l vs

section
variable {P : Program} {B : Base} {ρ : List D} {st : SS} {o : Oper} {α : AS} {a : Act} {bs : List Act} {w : World} {g : G} {Φ : Nat → Cont}

theorem zero1_info [Arn] {t : TypeId} (h : zero1 P t = true) : ∃ i, P.info? t = some i ∧ i.zero = some (.pointer none) ∧ i.size = 1 ∧ i.bytes ≤ 256 ∧ sizeT P t = 1 := by
  unfold zero1 at h; split at h
  · rename_i i hi; simp only [Bool.and_eq_true, Nat.beq_eq, Nat.ble_eq] at h; obtain ⟨⟨h1, h2⟩, h3⟩ := h; split at h1
    · rename_i hz; exact ⟨i, hi, hz, h2, h3, by simp [sizeT, hi, h2]⟩
    · cases h1
  · cases h

theorem adrs_rep [Arn] : ∀ (cs : List SC) (l : List (Nat × Nat)) (vs : List Value), adrsOf cs = some l → All2 (SCRep ρ α g w) cs vs → cs.length = l.length ∧ PtrL α g l vs
  | [], l, vs, h, hr => by
    simp only [adrsOf, oi] at h; subst h; cases hr; exact ⟨rfl, .nil⟩
  | c :: cs, l, vs, h, hr => by
    cases c <;> simp only [adrsOf, reduceCtorEq] at h
    split at h
    · rename_i l' h'; simp only [oi] at h; subst h; cases hr with
      | cons h1 h2 =>
        obtain ⟨k1, k2⟩ := adrs_rep cs l' _ h' h2; exact ⟨by simp [k1], .cons h1 k2⟩
    · cases h

theorem lst_does [Arn] (p : Pre P B ρ st o α a bs w g) {kill : Option Nat} {v v' : Value} {w' : World} {el : TypeId} {n m : Nat} {xc yc : List Value} {l : List (Nat × Nat)}
    (hrun : (execOp a.eval o).run P w = .ok (.value v') w') (hf : ¬ α.known st.ntok)
    (hv : v.ownBlock = none ∨ ∃ j, kill = some j ∧ α.live j ∧ g.T j = v ∧ g.tw j = 1)
    (ho : v.ownBlock ≠ none → w.ownsRow B.B0 el 1 v n xc) (hap : Appended w B.B0 el 1 v n m (xc ++ yc) v' w')
    (hl : l.length = n + m) (hel : PtrL α g l (xc ++ yc)) :
    Does P o a w (Post B ρ α { dst := o.dst, sv := .one (.lst st.ntok l el), kill := kill, nt := 1 } st.nb st.ntok bs) := by
  obtain ⟨g', h1, h2, h3, h4, h5, h6⟩ := p.rel.newTok (k := st.ntok) (n' := n + m) hf hap.grown hv ho hap.own (fun _ => Nat.le_add_right _ _) hap.same hap.where_
  refine does_value hrun ⟨g', upd_tok α o.dst _ kill _ _ 0 (h1.put p.dst ?_)⟩
  refine ⟨.inr rfl, h3.symm, h4, h5, ?_⟩
  rcases hap.nil with rfl | ⟨b, cap, rfl, hc1, hc2⟩
  · refine .inl ⟨rfl, ?_⟩
    rcases hap.own.2 with ⟨_, h⟩ | ⟨_, _, _, h, _⟩
    · exact List.eq_nil_of_length_eq_zero (by omega)
    · cases h
  · refine .inr ⟨b, cap, by rw [hl], by omega, hc2, fun j q hj => ?_⟩
    have hlt : j < (n + m) * 1 := by rw [Nat.mul_one, ← hl]; exact (List.getElem?_eq_some_iff.1 hj).1
    obtain ⟨u, hu, ⟨row, hr⟩, rfl⟩ := hel.get j q hj; obtain ⟨k1, k2⟩ := h2.box q.1 row hr; exact ⟨h6 b rfl j hlt, k1, by rw [hap.own.cellAt j hlt, hu, k2]⟩

theorem lst_vals [Arn] {k : Nat} {ps : List (Nat × Nat)} {e : TypeId} {v : Value} (h : SCRep ρ α g w (.lst k ps e) v) :
    ∃ vs, PtrL α g ps vs ∧ ((v = .slice none 0 0 ∧ ps = []) ∨ ∃ b cap, v = .slice (some ⟨b, 0, none⟩) ps.length cap ∧ ps.length ≤ cap ∧ cap ≤ maxLen ∧ ∀ j u, vs[j]? = some u → w.cell? ⟨b, j, none⟩ = some u) := by
  obtain ⟨_, _, _, _, h⟩ := h; refine ⟨ps.map fun q => Value.pointer (some ⟨g.θ q.1, q.2, none⟩), ?_, ?_⟩
  · apply all2_of_get
    · simp
    · intro i x y hx hy; rw [List.getElem?_map, hx] at hy; simp only [Option.map_some, oi] at hy; subst hy; refine ⟨?_, rfl⟩
      rcases h with ⟨_, rfl⟩ | ⟨b, cap, _, _, _, h4⟩
      · simp at hx
      · exact (h4 i x hx).2.1
  · rcases h with ⟨h1, h2⟩ | ⟨b, cap, h1, h2, h3, h4⟩
    · exact .inl ⟨h1, h2⟩
    · refine .inr ⟨b, cap, h1, h2, h3, fun j u hj => ?_⟩
      rw [List.getElem?_map] at hj; cases hq : ps[j]? with
      | none => rw [hq] at hj; cases hj
      | some q =>
        rw [hq] at hj; simp only [Option.map_some, oi] at hj; subst hj; exact (h4 j q hq).2.2

theorem ptr_one [Arn] {l : List (Nat × Nat)} {vs : List Value} (h : PtrL α g l vs) : ∀ u ∈ vs, u.oneCell' = true := by
  induction h with
  | nil => intro u hu; cases hu
  | cons h1 _ ih =>
    intro u hu; rcases List.mem_cons.1 hu with rfl | hu
    · obtain ⟨_, rfl⟩ := h1; rfl
    · exact ih u hu

theorem appendP_does [Arn] (p : Pre P B ρ st o α a bs w g) {t0 t1 e e1 : TypeId} {x y : Operand} {xs : Array Operand} {ts : Array TypeId} {cx : SC} {ps qs : List (Nat × Nat)} {k2 : Nat} {e2 : TypeId} {kill : Option Nat}
    (ho : o.op = .call { callee := .builtin .append, args := xs, argTypes := ts }) (hxs : xs.toList = [x, y]) (hts : ts.toList = [t0, t1])
    (hu : P.underlying t0 = some (.slice e)) (hu1 : P.underlying t1 = some (.slice e1)) (hz : zero1 P e = true) (hsm : (ps ++ qs).length ≤ 1000)
    (hx : SCRep ρ α g w cx (a.eval x)) (htok : lstOf st e cx = some (ps, kill)) (hlive : ∀ k, kill = some k → α.live k)
    (hy : SCRep ρ α g w (.lst k2 qs e2) (a.eval y)) (hf : ¬ α.known st.ntok) :
    Does P o a w (Post B ρ α { dst := o.dst, sv := .one (.lst st.ntok (ps ++ qs) e), kill := kill, nt := 1 } st.nb st.ntok bs) := by
  obtain ⟨i, hi, hzv, his, hib, _⟩ := zero1_info hz; have hx' : xs = #[x, y] := by apply Array.ext'; simpa using hxs
  have ht' : ts = #[t0, t1] := by apply Array.ext'; simpa using hts
  subst hx'; subst ht'; have hbase : B.B0 ≤ w.heap.size := Nat.le_trans p.rel.hB p.rel.bel.size
  obtain ⟨v, hvx⟩ : ∃ v, a.eval x = v := ⟨_, rfl⟩
  have hX : ∃ xc : List Value, PtrL α g ps xc ∧ w.ownsRow B.B0 e 1 v ps.length xc ∧
      (v.ownBlock = none ∨ ∃ j, kill = some j ∧ α.live j ∧ g.T j = v ∧ g.tw j = 1) := by
    rw [hvx] at hx; cases cx with
    | lst k ps' e' =>
      simp only [lstOf] at htok; split at htok
      · rename_i hc; simp only [Bool.and_eq_true, beq_iff_eq] at hc; obtain ⟨_, rfl⟩ := hc; simp only [oi, Prod.mk.injEq] at htok; obtain ⟨rfl, rfl⟩ := htok; have hlk := hlive k rfl
        obtain ⟨vs, hvs, hval⟩ := lst_vals hx; obtain ⟨_, hT, hte, htw, _⟩ := hx; obtain ⟨_, n, xc, h7, _⟩ := p.rel.live k hlk; rw [hte, htw, ← hT] at h7; have hn : n = ps'.length := by
          rcases hval with ⟨rfl, rfl⟩ | ⟨b, cap, rfl, _⟩
          · rcases h7.2 with ⟨_, h⟩ | ⟨_, _, _, h, _⟩
            · exact h
            · cases h
          · rcases h7.2 with ⟨h, _⟩ | ⟨_, _, _, h, _⟩
            · cases h
            · simp only [Value.slice.injEq] at h; exact h.2.1.symm
        subst hn; refine ⟨xc, ?_, h7, .inr ⟨k, rfl, hlk, hT.symm, htw⟩⟩
        have hlen : xc.length = ps'.length := by rw [h7.1, Nat.mul_one]
        have : xc = vs := by
          apply List.ext_getElem?
          intro j; by_cases hj : j < ps'.length
          · rcases hval with ⟨rfl, rfl⟩ | ⟨b, cap, rfl, _, _, hc⟩
            · simp at hj
            · have hj2 : j < vs.length := by rw [← hvs.len]; exact hj
              have e1 := hc j _ (List.getElem?_eq_getElem hj2)
              rw [h7.cellAt j (by omega)] at e1; rw [e1, List.getElem?_eq_getElem hj2]
          · rw [List.getElem?_eq_none (by omega), List.getElem?_eq_none (by rw [← hvs.len]; omega)]
        rw [this]; exact hvs
      · cases htok
    | nlp =>
      simp only [lstOf, oi, Prod.mk.injEq] at htok; obtain ⟨rfl, rfl⟩ := htok; have hvn : v = .slice none 0 0 := hx
      subst hvn; exact ⟨[], .nil, World.ownsRow_nil _ _ _ _, .inl rfl⟩
    | _ => simp [lstOf] at htok
  obtain ⟨xc, hxc, hown, hvo⟩ := hX; obtain ⟨yc, hyc, hyv⟩ := lst_vals hy; have hlx := hxc.len
  have hly := hyc.len
  rw [List.length_append] at hsm; have h63 : ps.length + qs.length ≤ maxLen := by unfold maxLen; omega
  have hbytes : (ps.length + qs.length) * i.bytes ≤ 140737488355328 := by
    have : (ps.length + qs.length) * i.bytes ≤ 1000 * 256 := Nat.mul_le_mul (by omega) hib
    omega
  have hlen : (Builtin.lenOf (a.eval y)).run P w = .ok qs.length w := by
    rcases hyv with ⟨h, rfl⟩ | ⟨b, cap, h, _⟩ <;> rw [h] <;> simp [Builtin.lenOf]
  have hfc : ∀ w', w'.heap = w.heap → (Builtin.firstCells i.size qs.length (a.eval y)).run P w' = .ok yc.toArray w' := by
    intro w' hw'; rcases hyv with ⟨h, rfl⟩ | ⟨b, cap, h, _, _, hc⟩
    · have : yc = [] := by cases hyc; rfl
      subst this; rw [h]; exact run_firstCells_none w' _ _ _ _
    · rw [h]; exact run_firstCells_some (P := P) w' i.size qs.length ⟨b, 0, none⟩ qs.length cap yc (by rw [his, Nat.mul_one, ← hly]) (fun j u hj => by
        rw [Addr.add_mid, Nat.zero_add, show w'.cell? ⟨b, j, none⟩ = w.cell? ⟨b, j, none⟩ by simp only [World.cell?, hw']]
        exact hc j u hj)
  rw [← his] at hown; obtain ⟨v', w', hrun, hap⟩ := append_run B.B0 t0 t1 o.type e i _ (.slice e1) hu hu1 (.inr ⟨e1, rfl⟩) hi hzv (by rw [his]; rfl) v ps.length xc hown (a.eval y) qs.length yc hlen hfc (by rw [his, Nat.mul_one, ← hly]) (ptr_one hyc) h63 hbytes hbase
  rw [his] at hap hown; refine lst_does p (kill := kill) (v := v) (v' := v') (n := ps.length) (m := qs.length) (xc := xc) (yc := yc) (call_builtin_run ho fun c => ?_) hf hvo (fun _ => hown) hap (by simp) (hxc.app hyc)
  simp only [builtin, List.map_toArray, List.map_cons, List.map_nil, hvx, Sem.run_bind, hrun, Result.andThen_ok, Sem.run_pure]

theorem buildP_does [Arn] (p : Pre P B ρ st o α a bs w g) {t e : TypeId} {len : Nat} {parts : Array (Nat × Operand)} {cs : List SC} {l : List (Nat × Nat)} (ho : o.op = .buildSlice t len parts)
    (hu : P.underlying t = some (.slice e)) (hz : zero1 P e = true) (hpos : 0 < len) (hsm : len ≤ 1000)
    (hf : fillP P st (fun i => some (i, e)) (Sx.rep [SC.nilp] len) parts.toList = some cs) (hl : adrsOf cs = some l) (hfr : ¬ α.known st.ntok) :
    Does P o a w (Post B ρ α { dst := o.dst, sv := .one (.lst st.ntok l e), nt := 1 } st.nb st.ntok bs) := by
  obtain ⟨i, hi, hzv, his, hib, hsz⟩ := zero1_info hz; have hzr0 := zeros_rep (ρ := ρ) (α := α) (g := g) (w := w) (z := [SC.nilp]) (zs := (Value.pointer none).cells) (by simp) (.cons rfl .nil) len
  have hops : ∀ q ∈ parts.toList, q.2 ∈ o.op.operands := by
    intro q hq; rw [ho]; simp only [Op.operands, List.mem_toArray, List.mem_map]; exact ⟨q, hq, rfl⟩
  obtain ⟨cells', h1, h2, h3⟩ := fill_rep p (place := fun i => some (i, e)) (pl := fun j => some (j * i.size, i.size)) (fun j off t' hj => by
    simp only [oi, Prod.mk.injEq] at hj; obtain ⟨rfl, rfl⟩ := hj; rw [his, hsz, Nat.mul_one]) parts.toList _ cs _ hf hzr0 hops
  obtain ⟨k1, k2⟩ := adrs_rep cs l _ hl h2; have hlen : cells'.size = len := by rw [h3]; simp [Value.cells]
  have hll : l.length = len := by rw [← k1, h2.len, Array.length_toList, hlen]
  have hb : B.B0 ≤ w.heap.size := Nat.le_trans p.rel.hB p.rel.bel.size
  have hlm : len ≤ maxLen := by unfold maxLen; omega
  refine lst_does p (kill := none) (v := .slice none 0 0) (v' := .slice (some ⟨w.heap.size, 0, none⟩) len len) (w' := w.alloc (.cells cells' e)) (n := 0) (m := len) (xc := []) (yc := cells'.toList) ?_ hfr (.inl rfl)
    (fun h => absurd rfl h) ⟨World.grownBy_alloc w _ _, ?_, fun b hb => by simp [Value.ownBlock] at hb, fun b hb => ?_, .inr ⟨w.heap.size, len, by rw [Nat.zero_add], by omega, hlm⟩⟩ (by omega) (by simpa using k2)
  · unfold execOp; by_cases h0 : len * i.size = 0
    · exfalso; rw [his, Nat.mul_one] at h0; omega
    · simp only [ho, Sem.run_bind]; rw [run_buildSlice w t e len _ cells' i _ hu hi hzv (by rw [his]; omega) h0 (by simpa [Value.cells, his] using h1)]
      rfl
  · refine ⟨by simp [hlen], .inr ⟨w.heap.size, len, cells', by rw [Nat.zero_add], hb, heap_alloc_new w _, by omega, hlm, by omega, ?_⟩⟩
    rw [Nat.zero_add, Nat.mul_one, List.nil_append, ← hlen, ← Array.length_toList, List.take_length]
  · simp only [Value.ownBlock, oi] at hb; exact .inr (by omega)

theorem lstLen_does [Arn] (p : Pre P B ρ st o α a bs w g) {x : Operand} {xs : Array Operand} {t : TypeId} {ts : Array TypeId} {c : SC} {n : Nat} {e' : TypeId} (ho : o.op = .call { callee := .builtin .len, args := xs, argTypes := ts })
    (hxs : xs.toList = [x]) (hts : ts.toList = [t]) (hx : SCRep ρ α g w c (a.eval x)) (hu : P.underlying t = some (.slice e')) (hn : n ≤ 1000)
    (hc : (c = .nlp ∧ n = 0) ∨ ∃ k ps e, c = .lst k ps e ∧ n = ps.length) :
    Does P o a w (Post B ρ α { dst := o.dst, sv := .one (.a (.l (.int .i64 (Int.ofNat n))) (.int .i64)) } st.nb st.ntok bs) := by
  have hx' : xs = #[x] := by apply Array.ext'; simpa using hxs
  have ht' : ts = #[t] := by apply Array.ext'; simpa using hts
  subst hx'; subst ht'; have hv : ∃ ad cap, a.eval x = .slice ad n cap := by
    rcases hc with ⟨rfl, rfl⟩ | ⟨k, ps, e, rfl, rfl⟩
    · exact ⟨none, 0, hx⟩
    · obtain ⟨_, _, _, _, h⟩ := hx; rcases h with ⟨h, rfl⟩ | ⟨b, cap, h, _⟩
      · exact ⟨_, _, h⟩
      · exact ⟨_, _, h⟩
  obtain ⟨ad, cap, hv⟩ := hv; refine p.value (nv := 0) (v := .int .i64 n) (call_builtin_run ho fun c => ?_) ⟨⟨.int .i64, (n : Int)⟩, rfl, rfl, rfl, ?_⟩
  · simp [builtin, Builtin.len_, Sem.run_bind, run_underlying hu, hv, goInt]
  · exact len_wf (by unfold maxLen; omega)

theorem lstIndex_does [Arn] (p : Pre P B ρ st o α a bs w g) {t e' : TypeId} {x i : Operand} {k : Nat} {ps : List (Nat × Nat)} {e : TypeId} {n : Int} {kk : IntKind} {q : Nat × Nat} (ho : o.op = .indexAddr t x i)
    (hx : SCRep ρ α g w (.lst k ps e) (a.eval x)) (hvi : a.eval i = .int kk n) (hu : P.underlying t = some (.slice e')) (hs : sizeT P e' = 1) (hn : 0 ≤ n) (hq : ps[n.toNat]? = some q) :
    Does P o a w (Post B ρ α { dst := o.dst, sv := .one (.pel q.1 q.2) } st.nb st.ntok bs) := by
  obtain ⟨_, _, _, _, h⟩ := hx; have hlt := (List.getElem?_eq_some_iff.1 hq).1
  rcases h with ⟨_, rfl⟩ | ⟨b, cap, hv, _, _, hc⟩
  · simp at hlt
  · obtain ⟨h1, h2, h3⟩ := hc _ _ hq; refine p.value (v := .pointer (some ⟨b, n.toNat, none⟩)) ?_ ⟨h2, b, n.toNat, rfl, h1, h3⟩
    unfold execOp; have hsz : (sizeOf e').run P w = .ok (sizeT P e') w := sizeOf_pos (by omega)
    simp only [ho, hv, hvi, Sem.run_bind, Instr.indexAt, asIntOf, Sem.run_pure, Result.andThen_ok, run_underlying hu w]; rw [if_pos ⟨hn, by omega⟩]; simp only [Sem.run_bind, hsz, Result.andThen_ok, Sem.run_pure, Addr.add_mid, hs, Nat.mul_one, Nat.zero_add]

theorem loadPel_does [Arn] (p : Pre P B ρ st o α a bs w g) {t : TypeId} {x : Operand} {β off : Nat} (ho : o.op = .load t x) (hx : SCRep ρ α g w (.pel β off) (a.eval x)) (hu : (P.underlying t).isSome = true)
    (hs : sizeT P t = 1) (ha : isAgg' P t = false) : Does P o a w (Post B ρ α { dst := o.dst, sv := .one (.adr β off) } st.nb st.ntok bs) := by
  obtain ⟨hb, b, o', hv, _, hc⟩ := hx; refine p.value (v := .pointer (some ⟨g.θ β, off, none⟩)) ?_ ⟨hb, rfl⟩
  unfold execOp; simp only [ho, hv, Sem.run_bind]; have := cellsAt_load (P := P) (w := w) (b := b) (off := o') (vs := [.pointer (some ⟨g.θ β, off, none⟩)]) (t := t) (fun j v hj => by
    cases j with
    | zero => simp only [List.getElem?_cons_zero, oi] at hj; subst hj; simpa using hc
    | succ j => simp at hj) hu (by simp [hs]) (fun _ => hs)
  rw [this]; simp [valOf, ha, Sem.run_pure]
end
end Go.Proofs.Ytmglkddddpipgaa.Sx

namespace Go.Proofs.Ytmglkddddpipgaa.Sx
open Go.RowKit

theorem FRep.flat [Arn] {t : Ty} : ∀ {vs : List Value} {x : t.den}, FRep t vs x → t.flat = true := by
  induction t with
  | pair a b ha hb => intro vs x h; obtain ⟨va, vb, _, h1, h2⟩ := h; simp [Ty.flat, ha h1, hb h2]
  | sl e => intro vs x h; exact h.elim
  | nd e => intro vs x h; exact h.elim
  | pt e => intro vs x h; exact h.elim
  | ref k => intro vs x h; exact h.elim
  | _ => intros; rfl

theorem split_tys [Arn] : ∀ (t : Ty) (x : t.den), (split t x).map (·.t) = t.cells
  | .unit, _ => rfl | .int _, _ => rfl | .bool, _ => rfl | .str, _ => rfl | .sl _, _ => rfl | .nd _, _ => rfl | .pt _, _ => rfl | .ref _, _ => rfl
  | .pair a b, x => by simp [split, Ty.cells, split_tys a, split_tys b]

theorem split_repD [Arn] {p : PF} {w : World} : ∀ (t : Ty) (vs : List Value) (x : t.den), Rep p w t vs x → All2 (fun d v => RepD p w v d) (split t x) vs
  | .unit, vs, x, h => by have h : vs = [] := h; subst h; exact .nil
  | .int k, vs, x, h => by obtain ⟨rfl, h1⟩ := h; exact .cons ⟨rfl, h1⟩ .nil
  | .bool, vs, x, h => by have h : vs = [.bool x] := h; subst h; exact .cons rfl .nil
  | .str, vs, x, h => by obtain ⟨ba, rfl, h1⟩ := h; exact .cons ⟨ba, rfl, h1⟩ .nil
  | .sl e, vs, x, h => by
    have hl := Rep.len _ _ _ h
    match vs, hl with
    | [v], _ => exact .cons h .nil
  | .nd e, vs, x, h => by
    have hl := Rep.len _ _ _ h
    match vs, hl with
    | [v], _ => exact .cons h .nil
  | .ref k, vs, x, h => by
    have hl := Rep.len _ _ _ h
    match vs, hl with
    | [v], _ => exact .cons h .nil
  | .pt e, vs, x, h => by
    have hl := Rep.len _ _ _ h
    match vs, hl with
    | [v], _ => exact .cons h .nil
  | .pair a b, vs, x, h => by
    obtain ⟨va, vb, rfl, h1, h2⟩ := h; exact (split_repD a va _ h1).app (split_repD b vb _ h2)

theorem All2.parts [Arn] {α β : Type} {R : α → β → Prop} : ∀ {l m : List α} {r : List β}, All2 R (l ++ m) r → ∃ r1 r2, r = r1 ++ r2 ∧ All2 R l r1 ∧ All2 R m r2
  | [], m, r, h => ⟨[], r, rfl, .nil, h⟩
  | a :: l, m, _, .cons h1 h2 => by
    obtain ⟨r1, r2, rfl, h3, h4⟩ := All2.parts h2; exact ⟨_ :: r1, r2, rfl, .cons h1 h3, h4⟩

theorem zeroOk_rep [Arn] {ρ : List D} {α : AS} {g : G} {w : World} : ∀ (t : Ty) (z : List SC) (vs : List Value), zeroOk z t.cells = true → All2 (SCRep ρ α g w) z vs → Rep g.p w t vs (dflt t) := by
  have app : ∀ (ts us : List Ty) (z : List SC), zeroOk z (ts ++ us) = true → ∃ z1 z2, zeroOk z1 ts = true ∧ zeroOk z2 us = true ∧ z = z1 ++ z2 := by
    intro ts; induction ts with
    | nil => intro us z h; exact ⟨[], z, rfl, h, rfl⟩
    | cons t ts ih =>
      intro us z h; cases z with
      | nil => simp [zeroOk] at h
      | cons c z =>
        rw [List.cons_append] at h; unfold zeroOk at h; split at h
        · rename_i h1; cases h1
        · rename_i l u z' t' ts' h1 h2; simp only [List.cons.injEq] at h1 h2; obtain ⟨rfl, rfl⟩ := h1; obtain ⟨rfl, rfl⟩ := h2; simp only [Bool.and_eq_true] at h; obtain ⟨z1, z2, h3, h4, rfl⟩ := ih us _ h.2; exact ⟨_ :: z1, z2, by simp only [zeroOk, Bool.and_eq_true]; exact ⟨h.1, h3⟩, h4, rfl⟩
        · rename_i u e z' u' ts' h1 h2; simp only [List.cons.injEq] at h1 h2; obtain ⟨rfl, rfl⟩ := h1; obtain ⟨rfl, rfl⟩ := h2; simp only [Bool.and_eq_true] at h; obtain ⟨z1, z2, h3, h4, rfl⟩ := ih us _ h.2; exact ⟨_ :: z1, z2, by simp only [zeroOk, Bool.and_eq_true]; exact ⟨h.1, h3⟩, h4, rfl⟩
        · cases h
  have one : ∀ (t : Ty) (l : L) (v : Value), zeroLit t = some l → SCRep ρ α g w (.a (.l l) t) v → RepD g.p w v ⟨t, dflt t⟩ := by
    intro t l v h hr; obtain ⟨d, h1, h2, h3⟩ := hr; simp only [A.ev, oi] at h1; subst h1; cases t <;> simp only [zeroLit, oi, reduceCtorEq] at h <;> subst h <;> exact h3
  have atom : ∀ (t : Ty), t.cells = [t] → ∀ (z : List SC) (vs : List Value), zeroOk z t.cells = true → All2 (SCRep ρ α g w) z vs → Rep g.p w t vs (dflt t) := by
    intro t hc z vs h hr; rw [hc] at h; unfold zeroOk at h; split at h
    · rename_i h1; cases h1
    · rename_i l u z' t' ts' h1; simp only [List.cons.injEq] at h1; obtain ⟨rfl, rfl⟩ := h1; simp only [Bool.and_eq_true, decide_eq_true_eq] at h; obtain ⟨⟨rfl, h2⟩, h3⟩ := h; cases z' with
      | cons => simp [zeroOk] at h3
      | nil =>
        cases hr with
        | cons k1 k2 => cases k2; exact one _ l _ h2 k1
    · rename_i u e z' u' ts' h1; simp only [List.cons.injEq] at h1; obtain ⟨rfl, rfl⟩ := h1; simp only [Bool.and_eq_true, decide_eq_true_eq] at h; obtain ⟨rfl, h3⟩ := h; cases z' with
      | cons => simp [zeroOk] at h3
      | nil =>
        cases hr with
        | cons k1 k2 =>
          cases k2; have k1' : _ = Value.slice none 0 0 := k1
          subst k1'; exact .inl ⟨rfl, rfl⟩
    · cases h
  intro t; induction t with
  | unit =>
    intro z vs h hr; cases z with
    | nil => cases hr; rfl
    | cons c z => simp [Ty.cells, zeroOk] at h
  | int k => exact atom _ rfl
  | bool => exact atom _ rfl
  | str => exact atom _ rfl
  | sl e => exact atom _ rfl
  | nd e => exact atom _ rfl
  | pt e => exact atom _ rfl
  | ref k => exact atom _ rfl
  | pair a b ha hb =>
    intro z vs h hr; obtain ⟨z1, z2, h1, h2, rfl⟩ := app _ _ _ h; obtain ⟨v1, v2, rfl, h3, h4⟩ := hr.parts; exact ⟨v1, v2, rfl, ha _ _ h1 h3, hb _ _ h2 h4⟩

section
variable {P : Program} {B : Base} {ρ : List D} {st : SS} {o : Oper} {α : AS} {a : Act} {bs : List Act} {w : World} {g : G} {Φ : Nat → Cont}

structure Wr (B : Base) (ρ : List D) (g : G) (w : World) (k i : Nat) (t : Ty) (e : TypeId) (n : Nat) (xs : List Value) (ys : List t.den) : Prop where
  own : w.ownsRow B.B0 e t.width (g.T k) n xs
  env : nth ρ i = some ⟨.sl t, ys⟩
  len : ys.length = n
  fl : Flats g.p w t xs ys
  te : g.te k = e
  tw : g.tw k = t.width

theorem RelG.wr [Arn] (h : RelG B ρ α a bs w g) {k i : Nat} {t : Ty} {e : TypeId} (hk : α.live k) (hd : α.dyn k = some (i, t, e)) : α.known k ∧ ∃ n xs ys, Wr B ρ g w k i t e n xs ys := by
  obtain ⟨hkn, n, xs, h2, h3, h4⟩ := h.live k hk; obtain ⟨⟨hte, htw, ys, hn, hl, hfl⟩, hnp⟩ := h4 _ hd; simp only at hte htw ys hn hl hfl
  exact ⟨hkn, n, xs, ys, by rw [← hte, ← htw]; exact h2, hn, hl, hfl, hte, htw⟩

theorem Wr.val [Arn] {k i : Nat} {t : Ty} {e : TypeId} {n : Nat} {xs : List Value} {ys : List t.den} (h : Wr B ρ g w k i t e n xs ys) :
    (g.T k = .slice none 0 0 ∧ n = 0) ∨ ∃ b cap cur, g.T k = .slice (some ⟨b, 0, none⟩) n cap ∧ B.B0 ≤ b ∧ w.heap[b]? = some (.cells cur e (0, 0)) ∧ n ≤ cap ∧ cap ≤ maxLen ∧ cur.size = cap * t.width ∧ cur.toList.take (n * t.width) = xs := by
  rcases h.own.2 with h1 | ⟨b, cap, cur, h1⟩
  · exact .inl h1
  · exact .inr ⟨b, cap, cur, h1⟩

theorem lenD_does [Arn] (p : Pre P B ρ st o α a bs w g) {x : Operand} {xs : Array Operand} {t : TypeId} {ts : Array TypeId} {k i : Nat} {te : Ty} {e e' : TypeId} (ho : o.op = .call { callee := .builtin .len, args := xs, argTypes := ts })
    (hxs : xs.toList = [x]) (hts : ts.toList = [t]) (hx : SCRep ρ α g w (.dsl k) (a.eval x)) (hu : P.underlying t = some (.slice e')) (hk : α.live k) (hd : α.dyn k = some (i, te, e))
    (he : EnvOk Φ ρ st.nv .len [.v i]) :
    Does P o a w (Post B ρ α { dst := o.dst, sv := .one (.a (.v st.nv) (.int .i64)), nv := 1 } st.nb st.ntok bs) := by
  have hx' : xs = #[x] := by apply Array.ext'; simpa using hxs
  have ht' : ts = #[t] := by apply Array.ext'; simpa using hts
  subst hx'; subst ht'; obtain ⟨_, n, xc, ys, h⟩ := p.rel.wr hk hd; obtain ⟨_, hv, _⟩ := hx; obtain ⟨outs, h4, h5⟩ := he.get (evs1 h.env)
  simp only [evalPr, oi] at h4; subst h4; have hv2 : ∃ ad cap, a.eval x = .slice ad n cap ∧ n ≤ maxLen := by
    rw [hv]; rcases h.val with ⟨h1, rfl⟩ | ⟨b, cap, cur, h1, _, _, h2, h3, _⟩
    · exact ⟨_, _, h1, Nat.zero_le _⟩
    · exact ⟨_, _, h1, Nat.le_trans h2 h3⟩
  obtain ⟨ad, cap, hv, hm⟩ := hv2; refine p.prim (t := .int .i64) (x := (ys.length : Int)) (v := .int .i64 n) (call_builtin_run ho fun c => ?_) (h5 0 _ rfl) ⟨by rw [h.len], len_wf (by rw [h.len]; exact hm)⟩
  simp [builtin, Builtin.len_, Sem.run_bind, run_underlying hu, hv, goInt]

theorem indexD_does [Arn] (p : Pre P B ρ st o α a bs w g) {t e' : TypeId} {x i : Operand} {ai : A} {ki : IntKind} {di : D} {k j : Nat} {te : Ty} {e : TypeId} (ho : o.op = .indexAddr t x i)
    (hx : SCRep ρ α g w (.dsl k) (a.eval x)) (hk : α.live k) (hd : α.dyn k = some (j, te, e)) (k1 : ai.ev ρ = some di) (k2 : di.t = .int ki) (k3 : RepD g.p w (a.eval i) di)
    (hu : P.underlying t = some (.slice e')) (hw : te.width = sizeT P e') (hpos : 0 < te.width) (he : EnvOk Φ ρ st.nv .inb [.v j, ai]) :
    Does P o a w (Post B ρ α { dst := o.dst, sv := .one (.del k ai 0) } st.nb st.ntok bs) := by
  obtain ⟨hkn, n, xc, ys, h⟩ := p.rel.wr hk hd; obtain ⟨_, hv, _⟩ := hx; obtain ⟨m, rfl, hvi, bn⟩ := int_of k2 k3; obtain ⟨outs, h4, h5⟩ := he.get (evs2 h.env k1)
  simp only [evalPr, Option.ite_none_right_eq_some, oi] at h4; obtain ⟨⟨n0, n1⟩, _⟩ := h4; have n2 : m < (n : Int) := by rw [← h.len]; exact n1
  have n3 : (0 : Int) ≤ m := n0
  rcases h.val with ⟨h1, rfl⟩ | ⟨b, cap, cur, h1, _, _, h2, h3, _⟩
  · omega
  · refine p.value (v := .pointer (some ⟨b, m.toNat * te.width, none⟩)) ?_ ⟨hkn, b, n, cap, ki, m, h1, k1, n3, n2, by rw [h.tw]; rfl⟩
    unfold execOp; have hsz : (sizeOf e').run P w = .ok (sizeT P e') w := sizeOf_pos (by omega)
    simp only [ho, hv, h1, hvi, Sem.run_bind, Instr.indexAt, asIntOf, Sem.run_pure, Result.andThen_ok, run_underlying hu w]; rw [if_pos ⟨n0, n2⟩]; simp only [Sem.run_bind, hsz, Result.andThen_ok, Sem.run_pure, Addr.add_mid, hw, Nat.zero_add]

theorem Wr.el [Arn] {k i : Nat} {t : Ty} {e : TypeId} {n : Nat} {xs : List Value} {ys : List t.den} (h : Wr B ρ g w k i t e n xs ys) {ai : A} {off : Nat} {v : Value} (hx : SCRep ρ α g w (.del k ai off) v) :
    ∃ (b cap : Nat) (cur : Array Value) (ki : IntKind) (m : Int) (y : t.den), g.T k = .slice (some ⟨b, 0, none⟩) n cap ∧ w.heap[b]? = some (.cells cur e (0, 0)) ∧ n ≤ cap ∧ cap ≤ maxLen ∧ cur.size = cap * t.width ∧
      cur.toList.take (n * t.width) = xs ∧ B.B0 ≤ b ∧ ai.ev ρ = some ⟨.int ki, m⟩ ∧ 0 ≤ m ∧ m < n ∧ v = .pointer (some ⟨b, m.toNat * t.width + off, none⟩) ∧ ys[m.toNat]? = some y ∧
      Rep g.p w t ((xs.drop (m.toNat * t.width)).take t.width) y := by
  obtain ⟨_, b, n', cap, ki, m, h1, h2, h3, h4, h5⟩ := hx; rcases h.val with ⟨h6, _⟩ | ⟨b', cap', cur, h6, h7, h8, h9, h10, h11, h12⟩
  · rw [h1] at h6; cases h6
  · rw [h1] at h6; simp only [Value.slice.injEq, oi, Addr.mk.injEq, and_true] at h6; obtain ⟨rfl, rfl, rfl⟩ := h6; have hlt : m.toNat < ys.length := by rw [h.len]; omega
    refine ⟨b, cap, cur, ki, m, ys[m.toNat], h1, h8, h9, h10, h11, h12, h7, h2, h3, h4, by rw [h5, h.tw], List.getElem?_eq_getElem hlt, h.fl.get _ _ (List.getElem?_eq_getElem hlt)⟩

theorem loadD_does [Arn] (p : Pre P B ρ st o α a bs w g) {t : TypeId} {x : Operand} {ai : A} {k j : Nat} {te : Ty} {e : TypeId} {off : Nat} {sv : SV}
    (ho : o.op = .load t x) (hx : SCRep ρ α g w (.del k ai off) (a.eval x)) (hk : α.live k) (hd : α.dyn k = some (j, te, e)) (hu : (P.underlying t).isSome = true)
    (hl : off + sizeT P t ≤ te.cells.length) (hs : mkSV (isAgg' P t) (take2 (vars st.nv te.cells) off (sizeT P t)) = some sv) (he : EnvOk Φ ρ st.nv (.idx te) [.v j, ai]) {nv : Nat} :
    Does P o a w (Post B ρ α { dst := o.dst, sv := sv, nv := nv } st.nb st.ntok bs) := by
  obtain ⟨hkn, n, xc, ys, h⟩ := p.rel.wr hk hd; obtain ⟨b, cap, cur, ki, m, y, h1, h2, h3, h4, h5, h6, _, h7, h8, h9, hv, hy, hf⟩ := h.el hx; obtain ⟨outs, q8, q9⟩ := he.get (evs2 h.env h7)
  simp only [evalPr, if_true, oi] at q8; subst q8; have hyd : ys.getD m.toNat (dflt te) = y := by simp [List.getD, hy]
  rw [hyd] at q9; obtain ⟨cs, hcs⟩ : ∃ cs, cs = (xc.drop (m.toNat * te.width)).take te.width := ⟨_, rfl⟩
  rw [← hcs] at hf; have hr := split_rep (ρ := ρ) (α := α) (g := g) (w := w) te cs y st.nv hf q9
  have hc : cs.length = te.cells.length := by rw [Rep.len _ _ _ hf, cells_width]
  have hvl : (vars st.nv te.cells).length = te.cells.length := by rw [hr.len, hc]
  refine p.value (v := valOf P t (take2 cs off (sizeT P t))) ?_ (mk_rep hs (hr.take2 off _))
  unfold execOp; simp only [ho, hv, Sem.run_bind]; rw [cellsAt_load (vs := take2 cs off (sizeT P t)) ?_ hu (take2_len (by omega)) ?_]
  · rfl
  · intro q v hq; rw [take2_get] at hq; split at hq
    · rw [hcs, List.getElem?_take] at hq; split at hq
      · rw [List.getElem?_drop, ← h6, List.getElem?_take] at hq; split at hq
        · rw [cell_of_row w b _ cur e (0, 0) h2]; rw [Nat.add_assoc]; simpa using hq
        · cases hq
      · cases hq
    · cases hq
  · intro ha; rw [ha] at hs; have := mk_one hs
    rwa [take2_len (by rw [hvl]; exact hl)] at this

theorem upd_dyn [Arn] (α : AS) (dst : Option Tmp) (sv : SV) (k : Nat) (y : Nat × Ty × TypeId) (nb nt nv : Nat) {a : Act} {w : World} (h : RelG B ρ ((setDynAS α k y).put dst sv) a bs w g) :
    RelG B ρ (α.upd { dst := dst, sv := sv, nv := nv, dy := [(k, some y)] } nb nt) a bs w g := by
  refine h.ext rfl (fun _ => rfl) (fun _ => rfl) (fun k => ⟨fun h => h.elim id (fun h => absurd h.2 (by simp only [Nat.add_zero]; omega)), .inl⟩)
    (fun k h => h.elim And.left (fun h => absurd h.2 (by simp only [Nat.add_zero]; omega))) rfl (fun q x hx => ?_)
  simp only [AS.upd, look_cons0] at hx; simp only [AS.put, setDynAS]; by_cases e : q = k
  · subst e; simpa using hx
  · rw [if_neg (Ne.symm e)] at hx; rw [if_neg e]; simpa [look_nil0] using hx

theorem storeD_does [Arn] (p : Pre P B ρ st o α a bs w g) {t : TypeId} {x y : Operand} {ai : A} {k j : Nat} {te : Ty} {e : TypeId} {off : Nat} {v : List SC} {xs : List A} {ts : List Ty}
    (ho : o.op = .store t x y) (hx : SCRep ρ α g w (.del k ai off) (a.eval x)) (hk : α.live k) (hd : α.dyn k = some (j, te, e)) (hy : All2 (SCRep ρ α g w) v (a.eval y).cells.toList)
    (ha : args v = some (xs, ts)) (hl1 : ts.length = sizeT P t) (hts : ts = take2 te.cells off ts.length) (hpos : 0 < sizeT P t) (hoff : off + ts.length ≤ te.width)
    (he : EnvOk Φ ρ st.nv (.upd te off) (.v j :: ai :: xs)) :
    Does P o a w (Post B ρ α { dst := o.dst, sv := .dead, nv := 1, dy := [(k, some (st.nv, te, e))] } st.nb st.ntok bs) := by
  obtain ⟨hkn, n, xc, ys, h⟩ := p.rel.wr hk hd; obtain ⟨b, cap, cur, ki, m, y0, h1, h2, h3, h4, h5, h6, hB, h7, h8, h9, hv, hy0, hf⟩ := h.el hx; obtain ⟨ds, a1, a2, a3⟩ := args_rep _ _ _ _ ha hy; obtain ⟨outs, q8, q9⟩ := he.get (ds := ⟨.sl te, ys⟩ :: ⟨.int ki, m⟩ :: ds) (by
    have e1 : (A.v j).ev ρ = some ⟨.sl te, ys⟩ := h.env
    simp only [evs, e1, h7, a1])
  simp only [evalPr, Option.ite_none_right_eq_some] at q8; obtain ⟨_, q8⟩ := q8; have hyd : ys.getD m.toNat (dflt te) = y0 := by simp [List.getD, hy0]
  rw [hyd] at q8; split at q8
  rotate_left
  · cases q8
  rename_i y1 hy1; simp only [oi] at q8; subst q8; obtain ⟨cs, hcs⟩ : ∃ cs, cs = (xc.drop (m.toNat * te.width)).take te.width := ⟨_, rfl⟩
  rw [← hcs] at hf; have hcl := Rep.len _ _ _ hf
  have hwid := cells_width te
  have hlen := hy.len
  have hdl : ds.length = ts.length := by rw [← a2, List.length_map]
  have hvl : (a.eval y).cells.toList.length = ts.length := by rw [← a3.len, hdl]
  have hnew : Rep g.p w te (setAt cs off (a.eval y).cells.toList) y1 := by
    have hall := (split_repD (p := g.p) (w := w) te cs y0 hf).setAt off a3
    have hty : (setAt (split te y0) off ds).map (·.t) = te.cells := by
      rw [setAt, List.map_append, List.map_append, List.map_take, List.map_drop, split_tys, a2]; have e1 : ts = (te.cells.drop off).take ts.length := hts
      rw [show off + ds.length = off + ts.length by rw [hdl]]
      apply List.ext_getElem?
      intro q; rcases Nat.lt_or_ge q off with hq | hq
      · rw [List.getElem?_append_left (by simp; omega), List.getElem?_take, if_pos hq]
      · rw [List.getElem?_append_right (by simp; omega)]
        have e2 : (te.cells.take off).length = off := by simp; omega
        rw [e2]; rcases Nat.lt_or_ge (q - off) ts.length with hq2 | hq2
        · rw [List.getElem?_append_left hq2, e1, List.getElem?_take, if_pos (by omega), List.getElem?_drop]; congr 1; omega
        · rw [List.getElem?_append_right hq2, List.getElem?_drop]; congr 1; omega
    obtain ⟨x2, j1, j2⟩ := join_rep (g := g) (w := w) te _ [] _ hty hall
    rw [List.append_nil] at j1; have : toE te (setAt (split te y0) off ds) = some x2 := by simp only [toE, j1]
    rw [hy1] at this; cases this; exact j2
  have hmw : (m.toNat + 1) * te.width ≤ n * te.width := Nat.mul_le_mul_right _ (by omega)
  have hncap : n * te.width ≤ cap * te.width := Nat.mul_le_mul_right _ h3
  rw [Nat.add_mul] at hmw; have hone : ∀ u ∈ (a.eval y).cells.toList, u.oneCell' = true := by
    have key : ∀ (l : List SC) (m : List Value), All2 (SCRep ρ α g w) l m → ∀ u ∈ m, u.oneCell' = true := by
      intro l m h; induction h with
      | nil => simp
      | cons h1 _ ih => intro u hu; rcases List.mem_cons.1 hu with rfl | hu; exact h1.oneCell; exact ih u hu
    exact key _ _ hy
  have hcsz : m.toNat * te.width + off + (a.eval y).cells.toList.length ≤ cur.size := by rw [hvl, h5]; omega
  have hst := run_storeCells_at (P := P) b (m.toNat * te.width + off) e (a.eval y).cells.toList 0 cur w h2 (by omega) hone
  simp only [Nat.add_zero] at hst; obtain ⟨cur', hcur'⟩ : ∃ cur' : Array Value, cur' = (cur.toList.take (m.toNat * te.width + off) ++ (a.eval y).cells.toList ++ cur.toList.drop (m.toNat * te.width + off + (a.eval y).cells.toList.length)).toArray := ⟨_, rfl⟩
  rw [← hcur'] at hst; have hget : ∀ q, cur'.toList[q]? = if m.toNat * te.width + off ≤ q ∧ q < m.toNat * te.width + off + ts.length then (a.eval y).cells.toList[q - (m.toNat * te.width + off)]? else cur.toList[q]? := by
    intro q; have e0 : (cur.toList.take (m.toNat * te.width + off)).length = m.toNat * te.width + off := by simp; omega
    rw [hcur', List.append_assoc]; rcases Nat.lt_or_ge q (m.toNat * te.width + off) with hq | hq
    · rw [if_neg (by omega), List.getElem?_append_left (by omega), List.getElem?_take, if_pos hq]
    · rw [List.getElem?_append_right (by omega), e0]; rcases Nat.lt_or_ge (q - (m.toNat * te.width + off)) ts.length with hq2 | hq2
      · rw [if_pos (by omega), List.getElem?_append_left (by omega)]
      · rw [if_neg (by omega), List.getElem?_append_right (by omega), List.getElem?_drop]; congr 1
        rw [hvl]; omega
  have hsz' : cur'.size = cur.size := by
    have : cur'.toList.length = cur.toList.length := by
      rw [hcur']; simp only [List.length_append, List.length_take, List.length_drop, Array.length_toList]; simp only [Array.length_toList] at hcsz; omega
    simpa using this
  have hxs' : cur'.toList.take (n * te.width) = setAt xc (m.toNat * te.width) (setAt cs off (a.eval y).cells.toList) := by
    have hxcl : xc.length = n * te.width := h.own.1
    have hil : (setAt cs off (a.eval y).cells.toList).length = te.width := by simp [setAt, hvl, hcl]; omega
    apply List.ext_getElem?
    intro q; rw [List.getElem?_take, setAt]; have ex : ∀ q, xc[q]? = if q < n * te.width then cur.toList[q]? else none := fun q => by rw [← h6, List.getElem?_take]
    have e0 : (xc.take (m.toNat * te.width)).length = m.toNat * te.width := by simp; omega
    rcases Nat.lt_or_ge q (m.toNat * te.width) with hq | hq
    · rw [if_pos (show q < n * te.width by omega), hget, if_neg (by omega), List.getElem?_append_left (by omega), List.getElem?_take, if_pos hq, ex, if_pos (by omega)]
    · rw [List.getElem?_append_right (by omega), e0]; rcases Nat.lt_or_ge (q - m.toNat * te.width) te.width with hq2 | hq2
      · rw [List.getElem?_append_left (by omega), if_pos (by omega), hget, setAt]; have e1 : (cs.take off).length = off := by simp; omega
        have ec : ∀ r, r < te.width → cs[r]? = cur.toList[m.toNat * te.width + r]? := fun r hr => by
          rw [hcs, List.getElem?_take, if_pos hr, List.getElem?_drop, ex, if_pos (by omega)]
        rcases Nat.lt_or_ge (q - m.toNat * te.width) off with hq3 | hq3
        · rw [if_neg (by omega), List.getElem?_append_left (by omega), List.getElem?_take, if_pos hq3, ec _ hq2]; congr 1; omega
        · rw [List.getElem?_append_right (by omega), e1]; rcases Nat.lt_or_ge (q - m.toNat * te.width - off) ts.length with hq4 | hq4
          · rw [if_pos (by omega), List.getElem?_append_left (by omega)]; congr 1; omega
          · rw [if_neg (by omega), List.getElem?_append_right (by omega), List.getElem?_drop, hvl]; have : off + ts.length + (q - m.toNat * te.width - off - ts.length) = q - m.toNat * te.width := by omega
            rw [this, ec _ hq2]; congr 1; omega
      · rw [List.getElem?_append_right (by omega), List.getElem?_drop, hil, ex]; have : m.toNat * te.width + te.width + (q - m.toNat * te.width - te.width) = q := by omega
        rw [this, hget]; split
        · rw [if_neg (by omega)]
        · rfl
  have hmy : m.toNat < ys.length := by rw [h.len]; omega
  have hrel := p.rel.setDyn (w' := w.setRow b cur') (i := st.nv) hk hd
    ⟨rfl, rfl, rfl, by simp [World.setRow], fun q _ hq => setRow_other w b q _ (fun e2 => hq (by rw [h1, e2]; rfl))⟩
    (n := n) (xs' := setAt xc (m.toNat * te.width) (setAt cs off (a.eval y).cells.toList)) (ys := ys.set m.toNat y1)
    ⟨by rw [← hxs', List.length_take, Nat.min_eq_left (by rw [Array.length_toList, hsz', h5]; exact hncap)], .inr ⟨b, cap, cur', h1, hB, setRow_heap w b cur _ e _ h2, h3, h4, by rw [hsz', h5], hxs'⟩⟩
    (q9 0 _ rfl) (by rw [List.length_set, h.len]) (h.fl.set hmy hnew)
  refine does_skip (w' := w.setRow b cur') ?_ ⟨g, upd_dyn α o.dst .dead k _ _ _ 1 (hrel.put p.dst rfl)⟩
  unfold execOp; simp only [ho, hv, Sem.run_bind, Instr.storeAt, Instr.sureAddr, Sem.run_pure, Result.andThen_ok, storeVar, sizeOf_pos hpos]; rw [if_neg (by simp only [ne_eq, Decidable.not_not]; rw [← hl1, ← hvl]; simp), hst]
  rfl
end
end Go.Proofs.Ytmglkddddpipgaa.Sx

namespace Go.Proofs.Ytmglkddddpipgaa.Sx
open Go.RowKit

section
variable {P : Program} {B : Base} {ρ : List D} {st : SS} {o : Oper} {α : AS} {a : Act} {bs : List Act} {w : World} {g : G} {Φ : Nat → Cont}

theorem upd_dynNew [Arn] (α : AS) (dst : Option Tmp) (sv : SV) (k : Nat) (y : Nat × Ty × TypeId) (nb nt nv : Nat) {a : Act} {w : World} (h : RelG B ρ ((dynAS α (some k) nt y).put dst sv) a bs w g) :
    RelG B ρ (α.upd { dst := dst, sv := sv, kill := some k, nt := 1, nv := nv, dy := [(nt, some y), (k, none)] } nb nt) a bs w g := by
  have hnt : ∀ q, (nt ≤ q ∧ q < nt + 1) ↔ q = nt := fun q => by omega
  refine h.ext rfl (fun _ => rfl) (fun _ => rfl) (fun q => ?_) (fun q hq => ?_) rfl (fun q x hx => ?_)
  · simp only [AS.upd, AS.put, dynAS, hnt]
  · simp only [AS.upd, AS.put, dynAS, hnt] at hq ⊢; exact hq
  · simp only [AS.upd, look_cons0] at hx; simp only [AS.put, dynAS]; by_cases e : q = nt
    · subst e; simpa using hx
    · rw [if_neg (Ne.symm e)] at hx; rw [if_neg e]; by_cases e2 : q = k
      · subst e2; simp at hx
      · rw [if_neg (Ne.symm e2)] at hx; rw [if_neg (by simpa using Ne.symm e2)]; simpa [look_nil0] using hx

theorem takeD_does [Arn] (p : Pre P B ρ st o α a bs w g) {t e' : TypeId} {x h : Operand} {k j : Nat} {te : Ty} {e : TypeId} {ah : A} {kh : IntKind} {dh : D} (ho : o.op = .slice t x none (some h) none)
    (hx : SCRep ρ α g w (.dsl k) (a.eval x)) (hk : α.live k) (hd : α.dyn k = some (j, te, e)) (k1 : ah.ev ρ = some dh) (k2 : dh.t = .int kh) (k3 : RepD g.p w (a.eval h) dh)
    (hu : P.underlying t = some (.slice e')) (hw : te.width = sizeT P e') (hpos : 0 < te.width) (hf : ¬ α.known st.ntok) (he : EnvOk Φ ρ st.nv .sub [.v j, .l (.int .i64 0), ah]) :
    Does P o a w (Post B ρ α { dst := o.dst, sv := .one (.dsl st.ntok), kill := some k, nt := 1, nv := 1, dy := [(st.ntok, some (st.nv, te, e)), (k, none)] } st.nb st.ntok bs) := by
  obtain ⟨hkn, n, xc, ys, hr⟩ := p.rel.wr hk hd; obtain ⟨_, hv, _⟩ := hx; obtain ⟨m, rfl, hvh, bn⟩ := int_of k2 k3; obtain ⟨outs, h4, h5⟩ := he.get (evs3 hr.env (b := .l (.int .i64 0)) (e := ⟨.int .i64, 0⟩) rfl k1)
  simp only [evalPr, Option.ite_none_right_eq_some, oi] at h4; obtain ⟨⟨_, n1, n2⟩, rfl⟩ := h4; replace n1 : (0 : Int) ≤ m := n1
  replace n2 : m ≤ (ys.length : Int) := n2
  rw [hr.len] at n2; have hn0 : nth ρ st.nv = some ⟨.sl te, ys.take m.toNat⟩ := by
    have := h5 0 _ rfl
    rw [show Int.toNat 0 = 0 from rfl, List.drop_zero] at this; exact this
  have hml : (ys.take m.toNat).length = m.toNat := by rw [List.length_take, hr.len]; omega
  have hsz : (sizeOf e').run P w = .ok (sizeT P e') w := sizeOf_pos (by omega)
  have hx0 : (some h).map a.eval = some (.int kh (m.toNat : Nat)) := by simp [hvh, Int.toNat_of_nonneg n1]
  rcases hr.val with ⟨h1, rfl⟩ | ⟨b, cap, cur, h1, hB, h2, h3, hcm, hcs, htk⟩
  · have hm0 : m.toNat = 0 := by omega
    have hm1 : m = 0 := by omega
    obtain ⟨g', h11, h12, h13⟩ := p.rel.newDyn (w' := w) (kill := some k) (i := st.nv) (v' := .slice none 0 0) (e := e) (t := te) (xs' := []) (ys := ys.take m.toNat) (n' := 0) hf ⟨rfl, rfl, rfl, Nat.le_refl _, fun _ _ _ => rfl⟩
      (.inr ⟨k, rfl, hk, by rw [h1], _, hd⟩) (World.ownsRow_nil _ _ _ _) hn0 (by rw [hml, hm0]) (by rw [hm0]; rfl)
    refine does_value (w' := w) (v := .slice none 0 0) ?_ ⟨g', upd_dynNew α o.dst _ k _ _ _ 1 (h11.put p.dst ⟨.inr rfl, h13.symm, _, _, _, rfl⟩)⟩
    have hbd : (Instr.sliceBounds true 0 0 (Option.map a.eval none) ((some h).map a.eval) none).run P w = .ok (0, 0, 0) w := bounds_run (.inl ⟨rfl, rfl⟩) (.inr ⟨kh, by rw [hx0, hm0]⟩) (Nat.le_refl 0) (Nat.zero_le _)
    unfold execOp; simp only [ho, hv, h1, Sem.run_bind, Instr.sliceAt, run_underlying hu w, Result.andThen_ok, Instr.slice, Option.map_none, hbd, hsz, Sem.run_pure] at hbd ⊢; simp [hbd]
  · have hmn : m.toNat ≤ n := by omega
    have hown' : w.ownsRow B.B0 e te.width (.slice (some ⟨b, 0, none⟩) m.toNat cap) m.toNat (xc.take (m.toNat * te.width)) := by
      have q1 := hr.own.1
      have q2 := Nat.mul_le_mul_right te.width hmn
      exact ⟨by rw [List.length_take]; omega, .inr ⟨b, cap, cur, rfl, hB, h2, by omega, hcm, hcs, by rw [← htk, List.take_take, Nat.min_eq_left q2]⟩⟩
    obtain ⟨g', h11, h12, h13⟩ := p.rel.newDyn (w' := w) (kill := some k) (i := st.nv) (v' := .slice (some ⟨b, 0, none⟩) m.toNat cap) (e := e) (t := te) (xs' := xc.take (m.toNat * te.width)) (ys := ys.take m.toNat) (n' := m.toNat) hf ⟨rfl, rfl, rfl, Nat.le_refl _, fun _ _ _ => rfl⟩
      (.inr ⟨k, rfl, hk, by rw [h1]; rfl, _, hd⟩) hown' hn0 hml (hr.fl.take _ (by rw [hr.len]; exact hmn))
    refine does_value (w' := w) (v := .slice (some ⟨b, 0, none⟩) m.toNat cap) ?_ ⟨g', upd_dynNew α o.dst _ k _ _ _ 1 (h11.put p.dst ⟨.inr rfl, h13.symm, _, _, _, rfl⟩)⟩
    have hbd : (Instr.sliceBounds true n cap (Option.map a.eval none) ((some h).map a.eval) none).run P w = .ok (0, m.toNat, cap) w := bounds_run (.inl ⟨rfl, rfl⟩) (.inr ⟨kh, hx0⟩) (Nat.zero_le _) (by omega)
    unfold execOp; simp only [ho, hv, h1, Sem.run_bind, Instr.sliceAt, run_underlying hu w, Result.andThen_ok, Instr.slice, Option.map_none, hbd, hsz, Sem.run_pure] at hbd ⊢; simp [hbd, Addr.add_mid]

theorem viewD_does [Arn] (p : Pre P B ρ st o α a bs w g) {t e' : TypeId} {x l : Operand} {k j : Nat} {te : Ty} {e : TypeId} {al : A} {kl : IntKind} {dl : D} (ho : o.op = .slice t x (some l) none none)
    (hx : SCRep ρ α g w (.dsl k) (a.eval x)) (hk : α.live k) (hd : α.dyn k = some (j, te, e)) (k1 : al.ev ρ = some dl) (k2 : dl.t = .int kl) (k3 : RepD g.p w (a.eval l) dl)
    (hu : P.underlying t = some (.slice e')) (hw : te.width = sizeT P e') (hpos : 0 < te.width) (he : EnvOk Φ ρ st.nv .sub [.v j, al]) :
    Does P o a w (Post B ρ α { dst := o.dst, sv := .one (.dvw k al), nv := 1 } st.nb st.ntok bs) := by
  obtain ⟨hkn, n, xc, ys, hr⟩ := p.rel.wr hk hd; obtain ⟨_, hv, _⟩ := hx; obtain ⟨m, rfl, hvl, bn⟩ := int_of k2 k3; obtain ⟨outs, h4, h5⟩ := he.get (evs2 hr.env k1)
  simp only [evalPr, Option.ite_none_right_eq_some, oi] at h4; obtain ⟨⟨n1, n2⟩, rfl⟩ := h4; replace n1 : (0 : Int) ≤ m := n1
  replace n2 : m ≤ (ys.length : Int) := n2
  rw [hr.len] at n2; have hsz : (sizeOf e').run P w = .ok (sizeT P e') w := sizeOf_pos (by omega)
  have hx0 : (some l).map a.eval = some (.int kl (m.toNat : Nat)) := by simp [hvl, Int.toNat_of_nonneg n1]
  rcases hr.val with ⟨h1, rfl⟩ | ⟨b, cap, cur, h1, hB, h2, h3, hcm, hcs, htk⟩
  · have hm0 : m.toNat = 0 := by omega
    have hm1 : m = 0 := by omega
    refine p.value (v := .slice none 0 0) ?_ ⟨hkn, kl, m, k1, n1, .inl ⟨h1, hm1, rfl⟩⟩
    have hbd : (Instr.sliceBounds true 0 0 ((some l).map a.eval) (Option.map a.eval none) none).run P w = .ok (0, 0, 0) w := bounds_run (.inr ⟨kl, by rw [hx0, hm0]⟩) (.inl ⟨rfl, rfl⟩) (Nat.le_refl 0) (Nat.zero_le _)
    unfold execOp; simp only [ho, hv, h1, Sem.run_bind, Instr.sliceAt, run_underlying hu w, Result.andThen_ok, Instr.slice, Option.map_none, hbd, hsz, Sem.run_pure] at hbd ⊢; simp [hbd]
  · have hmn : m.toNat ≤ n := by omega
    refine p.value (v := .slice (some ⟨b, if cap = m.toNat then 0 else m.toNat * te.width, none⟩) (n - m.toNat) (cap - m.toNat)) ?_
      ⟨hkn, kl, m, k1, n1, .inr ⟨b, n, cap, h1, h3, by omega, _, rfl, fun hlt => ?_⟩⟩
    · have hbd : (Instr.sliceBounds true n cap ((some l).map a.eval) (Option.map a.eval none) none).run P w = .ok (m.toNat, n, cap) w := bounds_run (.inr ⟨kl, hx0⟩) (.inl ⟨rfl, rfl⟩) hmn h3
      unfold execOp; simp only [ho, hv, h1, Sem.run_bind, Instr.sliceAt, run_underlying hu w, Result.andThen_ok, Instr.slice, Option.map_none, hbd, hsz, Sem.run_pure] at hbd ⊢; try simp only [hbd, Sem.run_bind, Result.andThen_ok, hsz, Sem.run_pure]
      by_cases e1 : cap = m.toNat
      · simp [e1]
      · simp [e1, Addr.add_mid, hw]
    · rw [if_neg (by omega), hr.tw]

theorem zeros_rows [Arn] {p : PF} {w : World} {t : Ty} {z : Array Value} (hz : Rep p w t z.toList (dflt t)) (hpos : 0 < t.width)   : ∀ n, Flats p w t (Builtin.zeroCells z n).toList (List.replicate n (dflt t)) := by
  intro n; have hl : z.size = t.width := by simpa using Rep.len _ _ _ hz
  refine Flats.of (by simp [Builtin.zeroCells, hl]) fun i y hy => ?_
  have hi : i < n := by have := (List.getElem?_eq_some_iff.1 hy).1; simpa using this
  rw [List.getElem?_replicate, if_pos hi] at hy; cases hy; have hle : (i + 1) * t.width ≤ n * t.width := Nat.mul_le_mul_right _ hi
  rw [Nat.add_mul] at hle; have : ((Builtin.zeroCells z n).toList.drop (i * t.width)).take t.width = z.toList := by
    apply List.ext_getElem?
    intro q; rw [List.getElem?_take]; by_cases hq : q < t.width
    · rw [if_pos hq, List.getElem?_drop]; simp only [Builtin.zeroCells, Array.toList_map, Array.toList_range, List.getElem?_map, hl]; rw [List.getElem?_range (by omega)]; have : (i * t.width + q) % t.width = q := by
        rw [Nat.add_comm, Nat.add_mul_mod_self_right, Nat.mod_eq_of_lt hq]
      simp only [Option.map_some, this]; rw [getElem!_pos z q (by omega)]; simp [hl, hq]
    · rw [if_neg hq, List.getElem?_eq_none (by simp; omega)]
  rw [this]; exact hz

theorem Flats.app [Arn] {p : PF} {w : World} {t : Ty} : ∀ {xs xs' : List Value} {ys ys' : List t.den}, Flats p w t xs ys → Flats p w t xs' ys' → Flats p w t (xs ++ xs') (ys ++ ys')
  | xs, xs', [], ys', h, h' => by have : xs = [] := h; subst this; exact h'
  | xs, xs', y :: ys, ys', h, h' => by
    obtain ⟨c, r, rfl, h1, h2⟩ := h; exact ⟨c, r ++ xs', by rw [List.append_assoc], h1, Flats.app h2 h'⟩

theorem clear_does [Arn] (p : Pre P B ρ st o α a bs w g) {x : Operand} {xs : Array Operand} {t : TypeId} {ts : Array TypeId} {k j : Nat} {al : A} {te : Ty} {e e' : TypeId} (ho : o.op = .call { callee := .builtin .clear, args := xs, argTypes := ts })
    (hxs : xs.toList = [x]) (hts : ts.toList = [t]) (hx : SCRep ρ α g w (.dvw k al) (a.eval x)) (hu : P.underlying t = some (.slice e')) (hee : e = e') (hk : α.live k) (hd : α.dyn k = some (j, te, e))
    (hz : zeroIs P te e = true) (hw : te.width = sizeT P e) (hpos : 0 < te.width) (he : EnvOk Φ ρ st.nv (.clr te) [.v j, al]) :
    Does P o a w (Post B ρ α { dst := o.dst, sv := .tup [], nv := 1, dy := [(k, some (st.nv, te, e))] } st.nb st.ntok bs) := by
  subst hee; have hx' : xs = #[x] := by apply Array.ext'; simpa using hxs
  have ht' : ts = #[t] := by apply Array.ext'; simpa using hts
  subst hx'; subst ht'; obtain ⟨hkn, n, xc, ys, hr⟩ := p.rel.wr hk hd; obtain ⟨_, ki, m, k1, n1, hcase⟩ := hx; obtain ⟨outs, h4, h5⟩ := he.get (evs2 hr.env k1)
  simp only [evalPr, Option.ite_none_right_eq_some, oi] at h4; obtain ⟨⟨_, _, n2⟩, rfl⟩ := h4; replace n2 : m ≤ (ys.length : Int) := n2
  have hn0 := h5 0 _ rfl
  have hlen : (ys.take m.toNat ++ List.replicate (ys.length - m.toNat) (dflt te)).length = n := by rw [List.length_append, List.length_take, List.length_replicate, ← hr.len]; omega
  unfold zeroIs at hz; split at hz
  rotate_left
  · cases hz
  rename_i z hz1; obtain ⟨i, zv, hi, hzv, hzs, hsz, hzl⟩ := zero_size hz1; obtain ⟨i', zv', hi', hzv', hzr⟩ := zero_rep hz1; rw [hi] at hi'; cases hi'; rw [hzv] at hzv'; cases hzv'; have hzf : Rep g.p w te zv.cells.toList (dflt te) := zeroOk_rep (ρ := ρ) (α := α) (g := g) (w := w) te z _ hz hzr
  have none_ : n = m.toNat → (execOp a.eval o).run P w = .ok (.value (.tuple #[])) w → Does P o a w (Post B ρ α { dst := o.dst, sv := .tup [], nv := 1, dy := [(k, some (st.nv, te, e))] } st.nb st.ntok bs) := by
    intro hnm hrun; have hsame : ys.take m.toNat ++ List.replicate (ys.length - m.toNat) (dflt te) = ys := by
      rw [hr.len, hnm, Nat.sub_self, List.replicate_zero, List.append_nil, ← hnm, ← hr.len, List.take_length]
    rw [hsame] at hn0; have hrel := p.rel.setDyn (w' := w) (i := st.nv) hk hd ⟨rfl, rfl, rfl, Nat.le_refl _, fun _ _ _ => rfl⟩ hr.own hn0 hr.len hr.fl
    exact does_value hrun ⟨g, upd_dyn α o.dst (.tup []) k _ _ _ 1 (hrel.put p.dst ⟨#[], rfl, .nil⟩)⟩
  rcases hcase with ⟨h1, hm0, hv⟩ | ⟨b, n', cap, h1, h3, hmn, off, hv, hoff⟩
  · refine none_ ?_ (call_builtin_run ho fun c => ?_)
    · rcases hr.val with ⟨_, h⟩ | ⟨_, _, _, h, _⟩
      · omega
      · rw [h1] at h; cases h
    · simp [builtin, Builtin.clear_, Sem.run_bind, run_underlying hu, hv]
  · rcases hr.val with ⟨h, _⟩ | ⟨b', cap', cur, h, hB, h2, h3', hcm, hcs, htk⟩
    · rw [h1] at h; cases h
    rw [h1] at h; simp only [Value.slice.injEq, oi, Addr.mk.injEq, and_true] at h; obtain ⟨rfl, rfl, rfl⟩ := h; by_cases hnm : n' = m.toNat
    · refine none_ hnm (call_builtin_run ho fun c => ?_)
      rw [hnm, Nat.sub_self] at hv; simp [builtin, Builtin.clear_, Sem.run_bind, run_underlying hu, hv]
    · have hlt : m.toNat < n' := by omega
      have hoff' := hoff (by omega)
      rw [hr.tw] at hoff'; subst hoff'; have hzrows := zeros_rows (p := g.p) (w := w) hzf hpos (n' - m.toNat)
      have hzn : (Builtin.zeroCells zv.cells (n' - m.toNat)).toList.length = (n' - m.toNat) * te.width := by rw [hzrows.len, List.length_replicate]
      have hle1 : n' * te.width ≤ cap * te.width := Nat.mul_le_mul_right _ h3
      have hsum : m.toNat * te.width + (n' - m.toNat) * te.width = n' * te.width := by rw [← Nat.add_mul]; congr 1; omega
      have hone : ∀ u ∈ (Builtin.zeroCells zv.cells (n' - m.toNat)).toList, u.oneCell' = true := by
        intro u hu; simp only [Builtin.zeroCells, Array.toList_map, Array.toList_range, List.mem_map, List.mem_range] at hu; obtain ⟨q, hq, rfl⟩ := hu; have hzs0 : 0 < zv.cells.size := by rw [hzs, hsz, ← hw]; exact hpos
        rw [getElem!_pos zv.cells _ (Nat.mod_lt _ hzs0)]; exact Rep.one _ _ _ hzf _ (by simp)
      have hst := run_storeCells_at (P := P) b (m.toNat * te.width) e (Builtin.zeroCells zv.cells (n' - m.toNat)).toList 0 cur w h2 (by rw [hzn, hcs]; omega) hone
      simp only [Nat.add_zero] at hst; obtain ⟨cur', hcur'⟩ : ∃ cur' : Array Value, cur' = (cur.toList.take (m.toNat * te.width) ++ (Builtin.zeroCells zv.cells (n' - m.toNat)).toList ++ cur.toList.drop (m.toNat * te.width + (Builtin.zeroCells zv.cells (n' - m.toNat)).toList.length)).toArray := ⟨_, rfl⟩
      rw [← hcur'] at hst; have hl0 : (cur.toList.take (m.toNat * te.width)).length = m.toNat * te.width := by rw [List.length_take, Array.length_toList, hcs]; omega
      have hsz' : cur'.size = cur.size := by
        have : cur'.toList.length = cur.toList.length := by
          rw [hcur']; simp only [List.length_append, hl0, hzn, List.length_drop, Array.length_toList]; omega
        simpa using this
      have hxs' : cur'.toList.take (n' * te.width) = xc.take (m.toNat * te.width) ++ (Builtin.zeroCells zv.cells (n' - m.toNat)).toList := by
        rw [hcur', ← htk, List.take_take, Nat.min_eq_left (by omega)]; have : (cur.toList.take (m.toNat * te.width) ++ (Builtin.zeroCells zv.cells (n' - m.toNat)).toList).length = n' * te.width := by rw [List.length_append, hl0, hzn, hsum]
        exact List.take_left' this
      have hrel := p.rel.setDyn (w' := w.setRow b cur') (i := st.nv) hk hd
        ⟨rfl, rfl, rfl, by simp [World.setRow], fun q _ hq => setRow_other w b q _ (fun e2 => hq (by rw [h1, e2]; rfl))⟩
        (n := n') (xs' := xc.take (m.toNat * te.width) ++ (Builtin.zeroCells zv.cells (n' - m.toNat)).toList)
        ⟨by rw [← hxs', List.length_take, Nat.min_eq_left (by rw [Array.length_toList, hsz', hcs]; exact hle1)], .inr ⟨b, cap, cur', h1, hB, setRow_heap w b cur _ e _ h2, h3, hcm, by rw [hsz', hcs], hxs'⟩⟩
        hn0 hlen ((hr.fl.take _ (by rw [hr.len]; omega)).app (by rw [hr.len]; exact hzrows))
      refine does_value (w' := w.setRow b cur') (v := .tuple #[]) (call_builtin_run ho fun c => ?_) ⟨g, upd_dyn α o.dst (.tup []) k _ _ _ 1 (hrel.put p.dst ⟨#[], rfl, .nil⟩)⟩
      have hne : n' - m.toNat ≠ 0 := by omega
      obtain ⟨q, hq⟩ : ∃ q, n' - m.toNat = q + 1 := ⟨n' - m.toNat - 1, by omega⟩
      rw [hq] at hv hst; simp [builtin, Builtin.clear_, Sem.run_bind, run_underlying hu, hv, zeroValue, typeInfo, hi, hzv, hst]
end
end Go.Proofs.Ytmglkddddpipgaa.Sx

namespace Go.Proofs.Ytmglkddddpipgaa.Sx
open Go.RowKit

section
variable {P : Program} {B : Base} {ρ : List D} {st : SS} {o : Oper} {α : AS} {a : Act} {bs : List Act} {w : World} {g : G} {Φ : Nat → Cont}

theorem bounds3_run [Arn] {len cap l h : Nat} {lo hi mx : Option Value} (hl : (lo = none ∧ l = 0) ∨ ∃ k, lo = some (.int k l)) (hh : ∃ k, hi = some (.int k h)) (hm : ∃ k, mx = some (.int k h))
    (h1 : l ≤ h) (h2 : h ≤ cap) : (Instr.sliceBounds true len cap lo hi mx).run P w = .ok (l, h, h) w := by
  unfold Instr.sliceBounds Instr.sliceBound; obtain ⟨k', rfl⟩ := hh; obtain ⟨k2, rfl⟩ := hm; rcases hl with ⟨rfl, rfl⟩ | ⟨k, rfl⟩ <;> simp [Sem.run_bind, asIntOf, h1, h2]

theorem ful_does [Arn] (p : Pre P B ρ st o α a bs w g) {t e' : TypeId} {x : Operand} {lo : Option Operand} {hi mx : Operand} {e : Ty} {l h : Nat} (ho : o.op = .slice t x lo (some hi) (some mx))
    {xs : List e.den} (h3 : Rep g.p w (.sl e) [a.eval x] xs) (hu : P.underlying t = some (.slice e')) (hw : e.width = sizeT P e') (hpos : 0 < e.width)
    (hl : (lo.map a.eval = none ∧ l = 0) ∨ ∃ k, lo.map a.eval = some (.int k l)) (hh : ∃ k, a.eval hi = .int k h) (hm : ∃ k, a.eval mx = .int k h) (hlh : l ≤ h) (hle : h ≤ xs.length)
    (hn : nth ρ st.nv = some ⟨.sl e, (xs.take h).drop l⟩) : Does P o a w (Post B ρ α { dst := o.dst, sv := .one (.ful st.nv e), nv := 1 } st.nb st.ntok bs) := by
  have hsz : (sizeOf e').run P w = .ok (sizeT P e') w := sizeOf_pos (by omega)
  have hlen : ((xs.take h).drop l).length = h - l := by simp; omega
  have hh' : ∃ k, (some hi).map a.eval = some (.int k h) := hh.imp fun k hk => by simp [hk]
  have hm' : ∃ k, (some mx).map a.eval = some (.int k h) := hm.imp fun k hk => by simp [hk]
  rcases sl_cases h3 with ⟨hv, rfl⟩ | ⟨b, off, cap, hv, hc1, hc2, hcs⟩ | ⟨ad, hv, rfl⟩
  · have hh0 : h = 0 := by simpa using hle
    subst hh0; have hl0 : l = 0 := by omega
    subst hl0; have hbd : (Instr.sliceBounds true 0 0 (lo.map a.eval) ((some hi).map a.eval) ((some mx).map a.eval)).run P w = .ok (0, 0, 0) w := bounds3_run hl hh' hm' (Nat.le_refl 0) (Nat.zero_le _)
    refine p.value (v := .slice none 0 0) ?_ ⟨[], by simpa using hn, .inl ⟨rfl, rfl⟩, fun b n c h => by cases h; rfl⟩
    unfold execOp; simp only [ho, hv, Sem.run_bind, Instr.sliceAt, run_underlying hu w, Result.andThen_ok, Instr.slice, hbd, hsz, Sem.run_pure]; simp
  rotate_left
  · have hh0 : h = 0 := by simpa using hle
    subst hh0; have hl0 : l = 0 := by omega
    subst hl0; have hbd : (Instr.sliceBounds true 0 0 (lo.map a.eval) ((some hi).map a.eval) ((some mx).map a.eval)).run P w = .ok (0, 0, 0) w := bounds3_run hl hh' hm' (Nat.le_refl 0) (Nat.zero_le _)
    refine p.value (v := .slice (some ad) 0 0) ?_ ⟨[], by simpa using hn, .inr (.inr ⟨ad, rfl, rfl⟩), fun b n c h => by cases h; rfl⟩
    unfold execOp; simp only [ho, hv, Sem.run_bind, Instr.sliceAt, run_underlying hu w, Result.andThen_ok, Instr.slice, hbd, hsz, Sem.run_pure]; simp
  · have hbd : (Instr.sliceBounds true xs.length cap (lo.map a.eval) ((some hi).map a.eval) ((some mx).map a.eval)).run P w = .ok (l, h, h) w := bounds3_run hl hh' hm' hlh (Nat.le_trans hle hc1)
    refine p.value (v := .slice (some (if h = l then ⟨b, off, none⟩ else ⟨b, off + l * e.width, none⟩)) (h - l) (h - l)) ?_ ⟨(xs.take h).drop l, hn, ?_, fun b n c h => by cases h; rfl⟩
    · unfold execOp; simp only [ho, hv, Sem.run_bind, Instr.sliceAt, run_underlying hu w, Result.andThen_ok, Instr.slice, hbd, hsz, Sem.run_pure, hw]; congr 2
      split <;> simp [Addr.add_mid]
    · refine .inr (.inl ⟨b, if h = l then off else off + l * e.width, h - l, ?_, by omega, by omega, fun i y hy => ?_⟩)
      · rw [hlen]; split <;> rfl
      · rw [List.getElem?_drop, List.getElem?_take] at hy; split at hy
        · rename_i hlt; obtain ⟨cs, h6, h7⟩ := hcs _ _ hy; refine ⟨cs, ?_, h7⟩
          have : ¬ h = l := by omega
          rw [if_neg this]; rwa [Nat.add_mul, ← Nat.add_assoc] at h6
        · cases hy

theorem appn_run [Arn] (base : Nat) (t t1 ty e e1 : TypeId) (i : TypeInfo) (z : Value) (ht : P.underlying t = some (.slice e)) (ht1 : P.underlying t1 = some (.slice e1))
    (hi : P.info? e = some i) (hz : i.zero = some z) (hzs : z.cells.size = i.size)
    (ad : Addr) (n : Nat) (xs : List Value) (hxl : xs.length = n * i.size) (hold : (Builtin.firstCells i.size n (.slice (some ad) n n)).run P w.drew = .ok xs.toArray w.drew)
    (x : Value) (m : Nat) (hm0 : 0 < m) (news : List Value) (hx0 : (Builtin.lenOf x).run P w = .ok m w) (hfd : (Builtin.firstCells i.size m x).run P w.drew = .ok news.toArray w.drew) (hl : news.length = m * i.size)
    (h63 : n + m ≤ maxLen) (hbytes : (n + m) * i.bytes ≤ 140737488355328) (hbase : base ≤ w.heap.size) :
    ∃ v' w', (Builtin.append_ #[t, t1] ty #[.slice (some ad) n n, x]).run P w = .ok v' w' ∧ Appended w base e i.size (.slice none 0 0) n m (xs ++ news) v' w' := by
  refine ⟨_, _, ?_, appended_new base e i z hzs (.slice none 0 0) n m n xs news hxl hl h63 hbase (by simp [Value.ownBlock])⟩
  have hsmall : n + m ≤ 9223372036854775807 := by simp only [maxLen] at h63; omega
  have hn : ¬ (n + m ≤ n) := by omega
  have hm1 : ¬ (m = 0) := by omega
  have h63' : ¬ (9223372036854775807 < ((n : Int) + (m : Int))) := by omega
  have h48' : ¬ (281474976710656 < Builtin.nextslicecap (n + m) n * i.bytes) := by
    have := growslice_fits (need := n + m) (old := n) (bytes := i.bytes) (by omega) hbytes; omega
  simp [Builtin.append_, run_underlying ht, run_underlying ht1, sizeOf, typeInfo, zeroValue, hi, hz, hx0, hn, hm1, h63', h48', Question.forced, hfd, hold, newRow, grownCap]
  try (congr 2; apply Array.ext'; simp)

theorem appn_does [Arn] (p : Pre P B ρ st o α a bs w g) {t0 t1 e e1 : TypeId} {x y : Operand} {xs : Array Operand} {ts : Array TypeId} {te : Ty} {i0 : Nat} {ay : A} {dy : D} {z : List SC}
    (ho : o.op = .call { callee := .builtin .append, args := xs, argTypes := ts }) (hxs : xs.toList = [x, y]) (hts : ts.toList = [t0, t1])
    (hu : P.underlying t0 = some (.slice e)) (hu1 : P.underlying t1 = some (.slice e1)) (hw : te.width = sizeT P e) (hpos : 0 < te.width) (hby : bytesT P e ≤ 256) (hz : zeroCells' P e = some z)
    (hx : SCRep ρ α g w (.ful i0 te) (a.eval x)) (k1 : ay.ev ρ = some dy) (hdt : dy.t = .sl te) (k3 : RepD g.p w (a.eval y) dy)
    (hf : ¬ α.known st.ntok) (he : EnvOk Φ ρ st.nv .appn [.v i0, ay]) :
    Does P o a w (Post B ρ α { dst := o.dst, sv := .one (.own st.nv st.ntok te e), nt := 1, nv := 1 } st.nb st.ntok bs) := by
  obtain ⟨i, zv, hi, hzv, hzs, hsz, hzl⟩ := zero_size hz; have hisz : i.size = te.width := by omega
  have hib : i.bytes ≤ 256 := by simpa [bytesT, hi] using hby
  have hx' : xs = #[x, y] := by apply Array.ext'; simpa using hxs
  have ht' : ts = #[t0, t1] := by apply Array.ext'; simpa using hts
  subst hx'; subst ht'; have hbase : B.B0 ≤ w.heap.size := Nat.le_trans p.rel.hB p.rel.bel.size
  obtain ⟨l, hl1, hl2, hfull⟩ := hx; obtain ⟨ys, rfl, hry⟩ := sl_of hdt k3; obtain ⟨outs, h4, h5⟩ := he.get (evs2 (a := .v i0) hl1 k1)
  simp only [evalPr, D.get, dif_pos, Option.ite_none_right_eq_some, oi] at h4; obtain ⟨⟨hbig, hne⟩, rfl⟩ := h4; have h6 := h5 0 _ rfl
  have hY : ∃ yc : List Value, yc.length = ys.length * i.size ∧ (∀ j u, ys[j]? = some u → Rep g.p w te ((yc.drop (j * te.width)).take te.width) u) ∧ (∀ u ∈ yc, u.oneCell' = true) ∧
      (Builtin.lenOf (a.eval y)).run P w = .ok ys.length w ∧ ∀ w', w'.heap = w.heap → (Builtin.firstCells i.size ys.length (a.eval y)).run P w' = .ok yc.toArray w' := by
    rcases sl_cases hry with ⟨hvy, rfl⟩ | ⟨b, off, cap, hvy, hc1, hc2, hcs⟩ | ⟨ad, hvy, rfl⟩
    · simp at hne
    rotate_left
    · simp at hne
    · obtain ⟨yc, h7, h8, h9, h10⟩ := list_cells (p := g.p) (w := w) (b := b) (off := off) hpos ys 0 (fun i x hx => by rw [Nat.zero_add]; exact hcs i x hx)
      rw [Nat.zero_mul, Nat.add_zero] at h8; refine ⟨yc, by rw [h7, hisz], h10, h9, by rw [hvy]; rfl, fun w' hw' => ?_⟩
      rw [hvy]; refine run_firstCells_some (P := P) w' i.size ys.length ⟨b, off, none⟩ ys.length cap yc (by rw [h7, hisz]) ?_
      intro j u hj; rw [Addr.add_mid]; have := (h8 j u hj).2
      have hc : w'.cell? ⟨b, off + j, none⟩ = w.cell? ⟨b, off + j, none⟩ := World.cell?_of_block (by rw [hw'])
      rw [hc]; exact this
  obtain ⟨yc, y1, y2, y3, y4, y5⟩ := hY; have hm0 : 0 < ys.length := by cases ys with | nil => simp at hne | cons => simp
  have h63 : l.length + ys.length ≤ maxLen := by unfold BIG at hbig; unfold maxLen; omega
  have hbytes : (l.length + ys.length) * i.bytes ≤ 140737488355328 := by
    have : (l.length + ys.length) * i.bytes ≤ 549755813888 * 256 := Nat.mul_le_mul (by unfold BIG at hbig; omega) hib
    omega
  have fin : ∀ (xc : List Value), xc.length = l.length * te.width → (∀ j u, l[j]? = some u → Rep g.p w te ((xc.drop (j * te.width)).take te.width) u) →
      (∃ v' w', (Builtin.append_ #[t0, t1] o.type #[a.eval x, a.eval y]).run P w = .ok v' w' ∧ Appended w B.B0 e i.size (.slice none 0 0) l.length ys.length (xc ++ yc) v' w') →
      Does P o a w (Post B ρ α { dst := o.dst, sv := .one (.own st.nv st.ntok te e), nt := 1, nv := 1 } st.nb st.ntok bs) := by
    intro xc hxl hle ⟨v', w', hrun, hap⟩
    rw [hisz] at hap; refine own_does p (kill := none) (v := .slice none 0 0) (v' := v') (n := l.length) (m := ys.length) (xc := xc) (yc := yc) (zs := l ++ ys) (call_builtin_run ho fun c => ?_) hf (.inl rfl) (fun h => absurd rfl h) hap (by simp) ?_ h6
    · simp only [builtin, List.map_toArray, List.map_cons, List.map_nil, Sem.run_bind, hrun, Result.andThen_ok, Sem.run_pure]
    · intro j u hu'; by_cases hj : j < l.length
      · rw [List.getElem?_append_left (by omega)] at hu'; have := hle j u hu'
        have hsub : ((xc ++ yc).drop (j * te.width)).take te.width = (xc.drop (j * te.width)).take te.width := by
          have hle2 : (j + 1) * te.width ≤ l.length * te.width := Nat.mul_le_mul_right _ (by omega)
          rw [Nat.add_mul] at hle2; rw [List.drop_append_of_le_length (by omega), List.take_append_of_le_length (by simp; omega)]
        rw [hsub]; exact this
      · rw [List.getElem?_append_right (by omega)] at hu'; have := y2 _ u hu'
        have hsub : ((xc ++ yc).drop (j * te.width)).take te.width = (yc.drop ((j - l.length) * te.width)).take te.width := by
          have hle2 : l.length * te.width ≤ j * te.width := Nat.mul_le_mul_right _ (by omega)
          rw [List.drop_append, List.drop_eq_nil_of_le (by omega), List.nil_append, hxl, ← Nat.sub_mul]
        rw [hsub]; exact this
  rcases sl_cases hl2 with ⟨hvx, rfl⟩ | ⟨b, off, cap, hvx, hc1, hc2, hcs⟩ | ⟨ad, hvx, rfl⟩
  · refine fin [] (by simp) (fun j u h => by simp at h) ?_
    rw [hvx]; have := append_run B.B0 t0 t1 o.type e i zv (.slice e1) hu hu1 (.inr ⟨_, rfl⟩) hi hzv hzs (.slice none 0 0) 0 [] (World.ownsRow_nil w _ _ _) (a.eval y) ys.length yc y4 y5 y1 y3 (by simpa using h63) (by simpa using hbytes) hbase
    simpa using this
  · have hcap : cap = l.length := hfull _ _ _ hvx
    subst hcap; obtain ⟨xc, h7, h8, h9, h10⟩ := list_cells (p := g.p) (w := w) (b := b) (off := off) hpos l 0 (fun i x hx => by rw [Nat.zero_add]; exact hcs i x hx)
    rw [Nat.zero_mul, Nat.add_zero] at h8; refine fin xc h7 h10 ?_
    rw [hvx]; refine appn_run B.B0 t0 t1 o.type e e1 i zv hu hu1 hi hzv hzs ⟨b, off, none⟩ l.length xc (by rw [h7, hisz]) ?_ (a.eval y) ys.length hm0 yc y4 (y5 w.drew rfl) y1 h63 hbytes hbase
    refine run_firstCells_some (P := P) w.drew i.size l.length ⟨b, off, none⟩ l.length l.length xc (by rw [h7, hisz]) fun j u hj => ?_
    rw [Addr.add_mid]; exact (h8 j u hj).2
  · refine fin [] (by simp) (fun j u h => by simp at h) ?_
    rw [hvx]; exact appn_run B.B0 t0 t1 o.type e e1 i zv hu hu1 hi hzv hzs ad 0 [] (by simp) (run_firstCells_some (P := P) w.drew i.size 0 ad 0 0 [] (by simp) (fun j u hj => by simp at hj)) (a.eval y) ys.length hm0 yc y4 (y5 w.drew rfl) y1 (by simpa using h63) (by simpa using hbytes) hbase
end
end Go.Proofs.Ytmglkddddpipgaa.Sx

namespace Go.Proofs.Ytmglkddddpipgaa.Sx
open Go.RowKit

section
variable {P : Program} {B : Base} {ρ : List D} {st : SS} {o : Oper} {α : AS} {a : Act} {bs : List Act} {w : World} {g : G} {Φ : Nat → Cont}

theorem mkz_does [Arn] (p : Pre P B ρ st o α a bs w g) {t e : TypeId} {l c : Operand} {al : A} {kl : IntKind} {te : Ty} (ho : o.op = .makeSlice t l c) (hu : P.underlying t = some (.slice e))
    (hl : evA P st none l = some (al, .int kl)) (hc : evA P st none c = some (al, .int kl)) (hz : zeroIs P te e = true) (hw : te.width = sizeT P e) (hpos : 0 < te.width) (hby : bytesT P e ≤ 256)
    (hf : ¬ α.known st.ntok) (he : EnvOk Φ ρ st.nv (.mkz te) [al]) :
    Does P o a w (Post B ρ α { dst := o.dst, sv := .one (.dsl st.ntok), nt := 1, nv := 1, dy := [(st.ntok, some (st.nv, te, e))] } st.nb st.ntok bs) := by
  obtain ⟨d, h1, h2, h3⟩ := p.evA (by rw [ho]; simp [Op.operands]) hl
  obtain ⟨d', h1', h2', h3'⟩ := p.evA (by rw [ho]; simp [Op.operands]) hc
  rw [h1] at h1'; cases h1'; obtain ⟨n, rfl, hv, n1, n2⟩ := int_of h2 h3; obtain ⟨n', hd', hv', _, _⟩ := int_of h2 h3'; simp only [D.mk.injEq, heq_eq_eq, true_and] at hd'; subst hd'; obtain ⟨outs, h4, h5⟩ := he.get (evs1 h1)
  simp only [evalPr, Option.ite_none_right_eq_some, oi] at h4; obtain ⟨⟨m1, m2⟩, rfl⟩ := h4; have hn0 := h5 0 _ rfl
  unfold zeroIs at hz; split at hz
  rotate_left
  · cases hz
  rename_i z hz1; obtain ⟨i, zv, hi, hzv, hzs, hsz, hzl⟩ := zero_size hz1; obtain ⟨i', zv', hi', hzv', hzr⟩ := zero_rep hz1; rw [hi] at hi'; cases hi'; rw [hzv] at hzv'; cases hzv'; have hzf : Rep g.p w te zv.cells.toList (dflt te) := zeroOk_rep (ρ := ρ) (α := α) (g := g) (w := w) te z _ hz hzr
  have hB : B.B0 ≤ w.heap.size := Nat.le_trans p.rel.hB p.rel.bel.size
  obtain ⟨m, rfl⟩ := Int.eq_ofNat_of_zero_le m1; have m2' : (m : Int) ≤ 1099511627776 := m2
  have hib : i.bytes ≤ 256 := by unfold bytesT at hby; rw [hi] at hby; exact hby
  have hbm : i.bytes * m ≤ 281474976710656 := by
    have h6 : i.bytes * m ≤ 256 * m := Nat.mul_le_mul_right m hib
    have h7 : m ≤ 1099511627776 := by omega
    omega
  obtain ⟨w', hr, ho', hg⟩ := run_make_full (P := P) w B.B0 t e i zv te.width hu hi hzv (by rw [hsz, hw]) kl kl m hbm (by unfold maxLen; omega) hB
  have hzc : madeCells zv.cells (m * te.width) = Builtin.zeroCells zv.cells m := by
    unfold madeCells Builtin.zeroCells; rw [hzs, hsz, hw]
  rw [hzc] at ho'; obtain ⟨g', h11, h12, h13⟩ := p.rel.newDyn (kill := none) (i := st.nv) hf hg (.inl ⟨rfl, fun b hb => by simp [Value.ownBlock] at hb; omega⟩) ho' hn0 (by simp) (zeros_rows hzf hpos m)
  have hsv : SVRep ρ (dynAS α none st.ntok (st.nv, te, e)) g' w' (.one (.dsl st.ntok)) (.slice (some ⟨w.heap.size, 0, none⟩) m m) := ⟨.inr rfl, h13.symm, _, _, _, rfl⟩
  refine does_value (w' := w') (v := .slice (some ⟨w.heap.size, 0, none⟩) m m) ?_ ⟨g', (h11.put (dst := o.dst) (fun d hd => p.dst d hd) hsv).ext rfl (fun i => rfl) (fun β => rfl) (fun k => ?_) (fun k hk => ?_) rfl (fun k x hx => ?_)⟩
  · unfold execOp; simp only [ho, hv, hv', Sem.run_bind]; rw [hr]; rfl
  · show (α.known k ∨ (st.ntok ≤ k ∧ k < st.ntok + 1)) ↔ (α.known k ∨ k = st.ntok)
    have : (st.ntok ≤ k ∧ k < st.ntok + 1) ↔ k = st.ntok := by omega
    rw [this]
  · have hk' : (α.live k ∧ (none : Option Nat) ≠ some k) ∨ (st.ntok ≤ k ∧ k < st.ntok + 1) := hk
    refine hk'.imp id (fun h => ?_)
    omega
  · simp only [AS.upd, look_cons0] at hx; simp only [AS.put, dynAS]; by_cases e : k = st.ntok
    · subst e; simpa using hx
    · rw [if_neg (Ne.symm e)] at hx; rw [if_neg e]; simpa [look_nil0] using hx
end
end Go.Proofs.Ytmglkddddpipgaa.Sx

namespace Go.Proofs.Ytmglkddddpipgaa.Sx
open Go.RowKit

section
variable {P : Program} {B : Base} {ρ : List D} {st : SS} {o : Oper} {α : AS} {a : Act} {bs : List Act} {w : World} {g : G} {Φ : Nat → Cont}

theorem nnl_does [Arn] (p : Pre P B ρ st o α a bs w g) {x : Operand} {ax : A} {e : Ty} (ho : o.op = .nilCheck x) (hx : SCRep ρ α g w (.a ax (.nd e)) (a.eval x)) (he : EnvOk Φ ρ st.nv .nnl [ax]) :
    Does P o a w (Post B ρ α { dst := o.dst, sv := .one (.nel ax e 0) } st.nb st.ntok bs) := by
  obtain ⟨d, h1, h2, h3⟩ := hx; obtain ⟨t, rfl, hT⟩ := nd_of h2 h3; obtain ⟨outs, h4, h5⟩ := he.get (evs1 h1)
  cases t with
  | leaf => simp [evalPr] at h4
  | node y l r k =>
    obtain ⟨b, cs, vl, vr, hv, hc, hy, hk, hl, hr⟩ := hT; refine p.value (v := a.eval x) ?_ ⟨y, l, r, k, b, cs, vl, vr, h1, hv, hc, hy, hk, hl, hr⟩
    unfold execOp; simp [ho, hv]

theorem fieldNel_does [Arn] (p : Pre P B ρ st o α a bs w g) {s : TypeId} {x : Operand} {f off o' : Nat} {t : TypeId} {y : A} {e : Ty} (ho : o.op = .fieldAddr s x f) (hf : fieldOf P s f = some (off, t)) (hp : 0 < sizeT P t)
    (hx : SCRep ρ α g w (.nel y e o') (a.eval x)) : Does P o a w (Post B ρ α { dst := o.dst, sv := .one (.nel y e (o' + off)) } st.nb st.ntok bs) := by
  obtain ⟨z, l, r, k, b, cs, vl, vr, h1, hv, h2⟩ := hx; refine p.value (v := .pointer (some ⟨b, o' + off, none⟩)) ?_ ⟨z, l, r, k, b, cs, vl, vr, h1, rfl, h2⟩
  unfold execOp; simp only [ho, hv, Sem.run_bind, fieldAt_run hf hp, Result.andThen_ok, Sem.run_pure]

theorem loadNel_does [Arn] (p : Pre P B ρ st o α a bs w g) {t : TypeId} {x : Operand} {ax : A} {e : Ty} {off : Nat} {sv : SV}
    (ho : o.op = .load t x) (hx : SCRep ρ α g w (.nel ax e off) (a.eval x)) (hu : (P.underlying t).isSome = true)
    (hl : off + sizeT P t ≤ e.nod.length) (hs : mkSV (isAgg' P t) (take2 (vars st.nv e.nod) off (sizeT P t)) = some sv) (he : EnvOk Φ ρ st.nv (.nod e) [ax]) {nv : Nat} :
    Does P o a w (Post B ρ α { dst := o.dst, sv := sv, nv := nv } st.nb st.ntok bs) := by
  obtain ⟨y, l, r, k, b, cs, vl, vr, h1, hv, hc, hy, hk, hl', hr'⟩ := hx; obtain ⟨outs, h8, h9⟩ := he.get (evs1 h1)
  simp only [evalPr, if_true, oi] at h8; subst h8; have hsl := split_len e y
  have ha := split_rep (ρ := ρ) (α := α) (g := g) (w := w) e cs y st.nv hy (fun j d hj => h9 j d (by rw [List.getElem?_append_left (List.getElem?_eq_some_iff.1 hj).1]; exact hj))
  have hcl : cs.length = e.cells.length := by rw [Rep.len _ _ _ hy, cells_width]
  have hb : ∀ j d, ([⟨.nd e, l⟩, ⟨.nd e, r⟩, ⟨.int .i64, k⟩] : List D)[j]? = some d → nth ρ (st.nv + e.cells.length + j) = some d := by
    intro j d hj; have := h9 (e.cells.length + j) d (by rw [List.getElem?_append_right (by omega), hsl, Nat.add_sub_cancel_left]; exact hj)
    rwa [← Nat.add_assoc] at this
  have hr : All2 (SCRep ρ α g w) (vars st.nv e.nod) (cs ++ [vl, vr, .int .i64 k]) := by
    unfold Ty.nod; rw [vars_append]; refine ha.app (.cons ⟨⟨.nd e, l⟩, hb 0 _ rfl, rfl, vl, rfl, hl'⟩ (.cons ⟨⟨.nd e, r⟩, hb 1 _ rfl, rfl, vr, rfl, hr'⟩ (.cons ⟨⟨.int .i64, k⟩, hb 2 _ rfl, rfl, rfl, hk⟩ .nil)))
  generalize hcs : cs ++ [vl, vr, Value.int .i64 k] = ds at hr hc
  have hlen := hr.len
  have hvl : (vars st.nv e.nod).length = e.nod.length := by
    have : ∀ (ts : List Ty) (i : Nat), (vars i ts).length = ts.length := by
      intro ts; induction ts with
      | nil => intro i; rfl
      | cons t ts ih => intro i; simp [vars, ih]
    exact this _ _
  refine p.value (v := valOf P t (take2 ds off (sizeT P t))) ?_ (mk_rep hs (hr.take2 off _))
  unfold execOp; simp only [ho, hv, Sem.run_bind]; rw [cellsAt_load (vs := take2 ds off (sizeT P t)) ?_ hu (take2_len (by omega)) ?_]
  · rfl
  · intro j v hj; rw [take2_get] at hj; split at hj
    · have := (hc _ _ hj).2
      rwa [Nat.zero_add] at this
    · cases hj
  · intro ha; rw [ha] at hs; have := mk_one hs
    rwa [take2_len (by rw [hvl]; exact hl)] at this

theorem nro_does [Arn] (p : Pre P B ρ st o α a bs w g) {x : Operand} {ax : A} {k β : Nat} (ho : o.op = .nilCheck x) (hx : SCRep ρ α g w (.a ax (.ref k)) (a.eval x)) (hout : α.out k = some (ax, β)) (hk : k % 2 = 0) :
    Does P o a w (Post B ρ α { dst := o.dst, sv := .one (.adr β 0) } st.nb st.ntok bs) := by
  obtain ⟨d, h1, h2, h3⟩ := hx; obtain ⟨t, rfl, hT⟩ := ref_of h2 h3; obtain ⟨hrow, j, k1, k2, k3⟩ := p.rel.hl.ar.outs k ax β hout; rw [h1] at k1; simp only [oi, D.mk.injEq, heq_eq_eq, true_and] at k1; subst k1; rcases hT with ⟨_, h⟩ | ⟨b, j', hv, hj, hb⟩
  · cases h
  · cases hj; have := k3 b hb
    subst this; refine p.value (v := a.eval x) ?_ ⟨hrow, by rw [hv]; simp [refVal, hk]⟩
    unfold execOp; simp [ho, hv, refVal, hk]

theorem npp_does [Arn] (p : Pre P B ρ st o α a bs w g) {x : Operand} {ax : A} {e : Ty} (ho : o.op = .nilCheck x) (hx : SCRep ρ α g w (.a ax (.pt e)) (a.eval x)) (he : EnvOk Φ ρ st.nv .npp [ax]) :
    Does P o a w (Post B ρ α { dst := o.dst, sv := .one (.ptl ax e 0) } st.nb st.ntok bs) := by
  obtain ⟨d, h1, h2, h3⟩ := hx; obtain ⟨t, rfl, hT⟩ := pt_of h2 h3; obtain ⟨outs, h4, h5⟩ := he.get (evs1 h1)
  rcases hT with ⟨hv, rfl⟩ | ⟨b, cs, y, hv, rfl, hc, hy⟩
  · simp [evalPr] at h4
  · refine p.value (v := a.eval x) ?_ ⟨y, b, cs, h1, hv, hc, hy⟩
    unfold execOp; simp [ho, hv]

theorem fieldPtl_does [Arn] (p : Pre P B ρ st o α a bs w g) {s : TypeId} {x : Operand} {f off o' : Nat} {t : TypeId} {y : A} {e : Ty} (ho : o.op = .fieldAddr s x f) (hf : fieldOf P s f = some (off, t)) (hp : 0 < sizeT P t)
    (hx : SCRep ρ α g w (.ptl y e o') (a.eval x)) : Does P o a w (Post B ρ α { dst := o.dst, sv := .one (.ptl y e (o' + off)) } st.nb st.ntok bs) := by
  obtain ⟨z, b, cs, h1, hv, h2⟩ := hx; refine p.value (v := .pointer (some ⟨b, o' + off, none⟩)) ?_ ⟨z, b, cs, h1, rfl, h2⟩
  unfold execOp; simp only [ho, hv, Sem.run_bind, fieldAt_run hf hp, Result.andThen_ok, Sem.run_pure]

theorem loadPtl_does [Arn] (p : Pre P B ρ st o α a bs w g) {t : TypeId} {x : Operand} {ax : A} {e : Ty} {off : Nat} {sv : SV}
    (ho : o.op = .load t x) (hx : SCRep ρ α g w (.ptl ax e off) (a.eval x)) (hu : (P.underlying t).isSome = true)
    (hl : off + sizeT P t ≤ e.cells.length) (hs : mkSV (isAgg' P t) (take2 (vars st.nv e.cells) off (sizeT P t)) = some sv) (he : EnvOk Φ ρ st.nv (.pod e) [ax]) {nv : Nat} :
    Does P o a w (Post B ρ α { dst := o.dst, sv := sv, nv := nv } st.nb st.ntok bs) := by
  obtain ⟨y, b, cs, h1, hv, h6, h7⟩ := hx; obtain ⟨outs, h8, h9⟩ := he.get (evs1 h1)
  simp only [evalPr, if_true, oi] at h8; subst h8; have hr := split_rep (ρ := ρ) (α := α) (g := g) (w := w) e cs y st.nv h7 h9
  have hlen := hr.len
  have hvl : (vars st.nv e.cells).length = e.cells.length := by rw [hlen, Rep.len _ _ _ h7, cells_width]
  have hc : cs.length = e.cells.length := by rw [Rep.len _ _ _ h7, cells_width]
  refine p.value (v := valOf P t (take2 cs off (sizeT P t))) ?_ (mk_rep hs (hr.take2 off _))
  unfold execOp; simp only [ho, hv, Sem.run_bind]; rw [cellsAt_load (vs := take2 cs off (sizeT P t)) ?_ hu (take2_len (by omega)) ?_]
  · rfl
  · intro j v hj; rw [take2_get] at hj; split at hj
    · have := (h6 _ _ hj).2
      rwa [Nat.zero_add] at this
    · cases hj
  · intro ha; rw [ha] at hs; have := mk_one hs
    rwa [take2_len (by rw [hvl]; exact hl)] at this

theorem mkn_does [Arn] (p : Pre P B ρ st o α a bs w g) {t : TypeId} {x : Operand} {v : List SC} {xs : List A} {e : Ty} (ho : o.op = .box t x) (hx : All2 (SCRep ρ α g w) v (a.eval x).cells.toList)
    (hargs : args v = some (xs, e.nod)) (he : EnvOk Φ ρ st.nv (.mkn e) xs) :
    Does P o a w (Post B ρ α { dst := o.dst, sv := .one (.a (.v st.nv) (.nd e)), nv := 1 } st.nb st.ntok bs) := by
  obtain ⟨ds, h1, h2, h3⟩ := args_rep v _ xs _ hargs hx; obtain ⟨outs, h4, h5⟩ := he.get h1; unfold Ty.nod at h2; obtain ⟨d1, d2, rfl, e1, e2⟩ := List.map_eq_append_iff.1 h2; obtain ⟨c1, c2, hc, r1, r2⟩ := h3.parts; obtain ⟨y, j1, j2⟩ := join_rep (g := g) (w := w) e d1 d2 c1 e1 r1
  match d2, c2, e2, r2 with
  | [⟨t1, l⟩, ⟨t2, r⟩, ⟨t3, k⟩], [vl, vr, vk], e2, .cons q1 (.cons q2 (.cons q3 .nil)) =>
    simp only [List.map_cons, List.map_nil, List.cons.injEq, and_true] at e2; obtain ⟨rfl, rfl, rfl⟩ := e2; obtain ⟨_, z1, q1⟩ := q1; obtain ⟨_, z2, q2⟩ := q2; obtain ⟨z3, q3⟩ := q3; simp only [List.cons.injEq, and_true] at z1 z2 z3; subst z1; subst z2; subst z3; simp only [evalPr, j1, D.get, dif_pos, oi] at h4; subst h4; have hold : ∀ b o, g.p b o → (g.p.more fun b o => b = w.heap.size ∧ o < (a.eval x).cells.size) b o ∧ (w.alloc (.cells (a.eval x).cells t)).cell? ⟨b, o, none⟩ = w.cell? ⟨b, o, none⟩ :=
      fun b o hp => ⟨.inl hp, World.cell?_of_block (heap_alloc_old w _ b (p.rel.pwf b o hp))⟩
    refine p.grows (t := .nd e) (v := .pointer (some ⟨w.heap.size, 0, none⟩)) (w' := w.alloc (.cells (a.eval x).cells t)) ?_ (World.grownBy_alloc w _ _) (fun b o => b = w.heap.size ∧ o < (a.eval x).cells.size)
      (fun b o h => ⟨by omega, by simp; omega⟩) (h5 0 _ rfl) ⟨_, rfl, w.heap.size, c1, vl, vr, rfl, ?_, Rep.mono (p := g.p) (p' := g.p.more fun b o => b = w.heap.size ∧ o < (a.eval x).cells.size) hold (fun _ _ _ h => h) e _ _ j2, q3, RepT.mono (fun _ _ _ hc => hc.mono hold) (fun cs y hy => Rep.mono (p := g.p) (p' := g.p.more fun b o => b = w.heap.size ∧ o < (a.eval x).cells.size) hold (fun _ _ _ h => h) e cs y hy) l _ q1,
        RepT.mono (fun _ _ _ hc => hc.mono hold) (fun cs y hy => Rep.mono (p := g.p) (p' := g.p.more fun b o => b = w.heap.size ∧ o < (a.eval x).cells.size) hold (fun _ _ _ h => h) e cs y hy) r _ q2⟩
    · unfold execOp; simp [ho, Instr.box, newVar, newRow, Sem.run_bind]
    · intro j u hj; rw [← hc] at hj; rw [Nat.zero_add]; have hlt : j < (a.eval x).cells.size := by rw [← Array.length_toList]; exact (List.getElem?_eq_some_iff.1 hj).1
      refine ⟨.inr ⟨rfl, hlt⟩, ?_⟩
      rw [cell_of_row (w.alloc (.cells (a.eval x).cells t)) w.heap.size j (a.eval x).cells t (0, 0) (heap_alloc_new w _)]; simpa using hj
end
end Go.Proofs.Ytmglkddddpipgaa.Sx

namespace Go.Proofs.Ytmglkddddpipgaa.Sx
open Go.RowKit

section
variable {P : Program} {B : Base} {ρ : List D} {st : SS} {o : Oper} {α : AS} {a : Act} {bs : List Act} {w : World} {g : G} {Φ : Nat → Cont}

def KeyTy (K : Ty) (d : TypeDesc) : Prop := (∃ i, K = .int i ∧ d = .int i) ∨ (K = .str ∧ d = .string)

theorem KeyTy.isKey [Arn] {K : Ty} {d : TypeDesc} (h : KeyTy K d) {v : Value} {x : K.den} (hv : FRep K [v] x) : MapKept.IsKey d v := by
  rcases h with ⟨i, rfl, rfl⟩ | ⟨rfl, rfl⟩
  · obtain ⟨h1, _⟩ := hv; simp only [List.cons.injEq, and_true] at h1; subst h1; rfl
  · obtain ⟨ba, h1, _⟩ := hv; simp only [List.cons.injEq, and_true] at h1; subst h1; trivial

theorem keyEq_same [Arn] {K : Ty} {d : TypeDesc} (hK : KeyTy K d) {u v : Value} {x y : K.den} (hu : FRep K [u] x) (hv : FRep K [v] y) : Instr.sameNow d u v = some (keyEq K x y) ∧ (keyEq K x y = true → u = v) := by
  rcases hK with ⟨i, rfl, rfl⟩ | ⟨rfl, rfl⟩
  · obtain ⟨h1, _⟩ := hu; obtain ⟨h2, _⟩ := hv; simp only [List.cons.injEq, and_true] at h1 h2; subst h1; subst h2; refine ⟨?_, fun h => ?_⟩
    · simp only [Instr.sameNow, if_true, keyEq, oi]; rfl
    · simp only [keyEq, decide_eq_true_eq] at h; rw [h]
  · obtain ⟨s, h1, rfl, _⟩ := hu; obtain ⟨s', h2, rfl, _⟩ := hv; simp only [List.cons.injEq, and_true] at h1 h2; subst h1; subst h2; refine ⟨?_, fun h => ?_⟩
    · simp only [Instr.sameNow, keyEq, oi]; rw [Bool.eq_iff_iff, MapKept.bytes_beq, decide_eq_true_eq, bytesI_inj]; exact ⟨fun h => by rw [h], fun h => by cases s; cases s'; simp at h; rw [h]⟩
    · simp only [keyEq, decide_eq_true_eq] at h; have h2 := bytesI_inj.1 h
      cases s; cases s'; simp at h2; rw [h2]

theorem find_rep [Arn] {K V : Ty} {d : TypeDesc} (hK : KeyTy K d) {p : PF} {key : Value} {kx : K.den} (hkey : FRep K [key] kx) : ∀ (es : List MapEntry) (y : List (K.den × V.den)) (i : Nat),
    All2 (fun (e : MapEntry) (kv : K.den × V.den) => FRep K [e.key] kv.1 ∧ Rep p w V [e.val] kv.2) es y →
    (findM K kx y = none ∧ Instr.findNow d key es i = some none ∧ (∀ u, setM K kx u y = y ++ [(kx, u)]) ∧ delM K kx y = y ∧ ∀ e ∈ es, e.key ≠ key) ∨
    ∃ n e v, findM K kx y = some v ∧ Instr.findNow d key es i = some (some (i + n, e.val)) ∧ es[n]? = some e ∧ n < y.length ∧ e.key = key ∧ Rep p w V [e.val] v ∧ (∀ u, setM K kx u y = y.set n (kx, u)) ∧ delM K kx y = y.eraseIdx n
  | [], _, i, h => by cases h; exact .inl ⟨rfl, rfl, fun _ => rfl, rfl, by simp⟩
  | e :: es, _, i, h => by
    cases h with
    | cons h1 h2 =>
      rename_i kv y; obtain ⟨k1, k2⟩ := h1; obtain ⟨s1, s2⟩ := keyEq_same hK hkey k1; obtain ⟨ka, va⟩ := kv; cases hq : keyEq K kx ka with
      | true =>
        rw [hq] at s1; refine .inr ⟨0, e, va, by simp [findM, hq], by simp [Instr.findNow, s1], rfl, by simp, (s2 hq).symm, k2, fun u => by simp [setM, hq], by simp [delM, hq]⟩
      | false =>
        rw [hq] at s1; rcases find_rep hK hkey es y (i + 1) h2 with ⟨f1, f2, f3, f4, f5⟩ | ⟨n, e', v, f1, f2, f3, f4, f5, f6, f7, f8⟩
        · refine .inl ⟨by simp [findM, hq, f1], by simp [Instr.findNow, s1, f2], fun u => by simp [setM, hq, f3], by simp [delM, hq, f4], fun e2 he2 => ?_⟩
          rcases List.mem_cons.1 he2 with rfl | he2
          · intro hk; obtain ⟨r, hr, hiff⟩ := MapKept.sameNow_of_keys (hK.isKey hkey) (hK.isKey k1)
            rw [s1] at hr; simp only [oi] at hr; subst hr; exact absurd (hiff.2 hk.symm) (by simp)
          · exact f5 e2 he2
        · refine .inr ⟨n + 1, e', v, by simp [findM, hq, f1], by simp [Instr.findNow, s1, f2]; omega, by simpa using f3, by simpa using f4, f5, f6, fun u => by simp [setM, hq, f7], by simp [delM, hq, f8]⟩

theorem mapOf_some [Arn] {t : TypeId} {k : Nat} {T : ArT} {x0 : A} {K V : Ty} {et : TypeId} (h : mapOf P st t k = some (T, x0, K, V, et)) :
    ∃ kt d, P.underlying t = some (.map kt et) ∧ P.underlying kt = some d ∧ KeyTy K d ∧ st.arAt k = some (T, x0) ∧ st.outAt k = none ∧ k % 2 = 1 ∧ T.t = .sl (.pair K V) ∧ V.single = true ∧ isAgg' P et = false := by
  unfold mapOf at h; split at h
  · rename_i kt et' T' a' e1 e2 e3; split at h
    · rename_i K' V' d e4 e5 e6; split at h
      · rename_i hc; simp only [Bool.and_eq_true, beq_iff_eq, Bool.not_eq_true'] at hc; obtain ⟨⟨⟨⟨c1, c2⟩, c3⟩, c4⟩, c5⟩ := hc; simp only [oi, Prod.mk.injEq] at h; obtain ⟨rfl, rfl, rfl, rfl, rfl⟩ := h; refine ⟨kt, d, e1, e6, ?_, e2, e3, c1, c2, c3, c4⟩
        unfold keyOk at c5; split at c5
        · simp only [beq_iff_eq] at c5; subst c5; exact .inl ⟨_, rfl, rfl⟩
        · exact .inr ⟨rfl, rfl⟩
        · cases c5
      · cases h
    · cases h
  · cases h

theorem map_of [Arn] (h : RelG B ρ α a bs w g) {k : Nat} {T : ArT} {x0 x : A} {K V : Ty} {d : D} {v : Value} (har : α.ar k = some (T, x0)) (hout : α.out k = none) (hk : k % 2 = 1) (hT : T.t = .sl (.pair K V))
    (h1 : x.ev ρ = some d) (h2 : d.t = .ref k) (h3 : RepD g.p w v d) : ∃ xs : List (List (K.den × V.den)), x0.ev ρ = some ⟨.sl (.sl (.pair K V)), xs⟩ ∧
      ((v = .map none ∧ d = ⟨.ref k, none⟩) ∨ ∃ (j b : Nat) (y : List (K.den × V.den)) (es : Array MapEntry) (clock : Nat), v = .map (some b) ∧ d = ⟨.ref k, some j⟩ ∧ xs[j]? = some y ∧ g.p.ad k j b ∧ g.ow b = some (.obj k j) ∧ (∀ o, ¬ g.p b o) ∧
        w.heap[b]? = some (.map es clock) ∧ All2 (fun (e : MapEntry) (kv : K.den × V.den) => FRep K [e.key] kv.1 ∧ Rep g.p w V [e.val] kv.2) es.toList y ∧ MapKept.Stamped es clock) := by
  obtain ⟨t, own⟩ := T; simp only at hT
  subst hT; obtain ⟨xs, f1, f2, f3⟩ := (h.hl.ar.ars k _ x0 har).ex
  refine ⟨xs, f1, ?_⟩
  have hk3 : ¬ k % 2 = 0 := by omega
  obtain ⟨r, rfl, hr⟩ := ref_of h2 h3; rcases hr with ⟨rfl, rfl⟩ | ⟨b, j, rfl, rfl, hb⟩
  · exact .inl ⟨by simp [refVal, hk3], rfl⟩
  · refine .inr ?_
    have hjl := (f2 j b hb).1
    obtain ⟨b', q1, q2⟩ := f3 j _ (List.getElem?_eq_getElem hjl)
    have := (f2 j b hb).2 b' q1
    subst this; rcases q2 with ⟨xv, β, z, _⟩ | hO
    · rw [hout] at z; cases z
    · obtain ⟨o1, o2, o3⟩ := hO; rcases o3 with ⟨z, _⟩ | ⟨_, es, clock, o4, o5, o6⟩
      · omega
      · exact ⟨j, b', _, es, clock, by simp [refVal, hk3], rfl, List.getElem?_eq_getElem hjl, hb, o1, o2, o4, o5, o6⟩

theorem RelG.setMap [Arn] (h : RelG B ρ α a bs w g) {k j b : Nat} {T : ArT} {x0 xn : A} {xs : List T.t.den} {y' : T.t.den} {es' : Array MapEntry} {clock' : Nat} {ob : Obj} (har : α.ar k = some (T, x0)) (hout : α.out k = none) (hk : k % 2 = 1)
    (hx0 : x0.ev ρ = some ⟨.sl T.t, xs⟩) (hxn : xn.ev ρ = some ⟨.sl T.t, xs.set j y'⟩) (hb : g.p.ad k j b) (how : g.ow b = some (.obj k j)) (hnp : ∀ o, ¬ g.p b o) (hh : w.heap[b]? = some ob)
    (hrep : RepM g.p w T.t es'.toList y') (hlt : MapKept.Stamped es' clock') :
    RelG B ρ { α with ar := fun k' => if k' = k then some (T, xn) else α.ar k' } a bs { w with heap := w.heap.setIfInBounds b (.map es' clock') } g := by
  generalize hw' : ({ w with heap := w.heap.setIfInBounds b (.map es' clock') } : World) = w'
  have hsz : w'.heap.size = w.heap.size := by subst hw'; simp
  have hot : ∀ b', b' ≠ b → w'.heap[b']? = w.heap[b']? := fun b' hne => by subst hw'; exact (MapKept.heap_set hh).2 b' hne
  have hnew : w'.heap[b]? = some (.map es' clock') := by subst hw'; exact (MapKept.heap_set hh).1
  have hmem : ∀ b' o, g.p b' o → g.p b' o ∧ w'.cell? ⟨b', o, none⟩ = w.cell? ⟨b', o, none⟩ := fun b' o hp => by
    have hne : b' ≠ b := by rintro rfl; exact hnp o hp
    exact ⟨hp, World.cell?_of_block (hot b' hne)⟩
  have hle : LeC ρ α g w ρ { α with ar := fun k' => if k' = k then some (T, xn) else α.ar k' } g w' := ⟨fun _ _ h => h, fun β row h => ⟨⟨row, h⟩, rfl⟩, fun k h => ⟨h, rfl, rfl, rfl⟩, hmem, fun _ _ _ h => h⟩
  have hne : ∀ b' r, g.ow b' = some r → r ≠ .obj k j → w'.heap[b']? = w.heap[b']? := fun b' r hr hr' => hot b' (by rintro rfl; rw [how] at hr; simp only [oi] at hr; exact hr' hr.symm)
  obtain ⟨xs', e1, e2, e3⟩ := (h.hl.ar.ars k T x0 har).ex
  have exs : xs' = xs := by
    rw [hx0] at e1; simp only [oi, D.mk.injEq, heq_eq_eq, true_and] at e1; exact e1.symm
  subst exs; refine { nodef := h.nodef, sz := h.sz, slot := fun i => (h.slot i).mono hle, saved := Forall2.mono (fun _ _ ⟨h1, h2, h3⟩ => ⟨h1, h2, fun i => (h3 i).mono hle⟩) h.saved, box := fun β row hr => ?_, live := fun m hm => ?_, pwf := fun b' o hp => by rw [hsz]; exact h.pwf b' o hp, bel := ?_, hB := h.hB, dk := h.dk, hl := ?_ }
  · have hbo := h.box β row hr
    exact RelG.BoxOk_mono hle hbo rfl rfl hbo.np (hne _ _ hbo.ow (by simp))
  · obtain ⟨h1, n, zs, h2, h3, h4⟩ := h.live m hm; exact ⟨h1, n, zs, ownsRow_same h2 fun b' hb' => hne _ _ (h3 b' hb').1 (by simp), h3, h4.mono hle.mem hle.ad (fun _ _ h => h) (fun _ h => h) rfl rfl rfl (fun _ _ h => h)⟩
  · subst hw'; exact ⟨h.bel.os, h.bel.tape, h.bel.output, by show B.w0.heap.size ≤ (w.heap.setIfInBounds b _).size; simpa using h.bel.size, fun q hq => by rw [h.hl.b0] at hq; omega⟩
  · refine { b0 := h.hl.b0, om := h.hl.om, owb := fun b' r hr => by rw [hsz]; exact h.hl.owb b' r hr, fr := fun b' hb' hm => ?_, p0m := fun b' o hp => ?_, adm := h.hl.adm, adf := h.hl.adf, ark := fun k' z hz => ?_, ar := ⟨fun k' T' x' hk' => ?_, fun k' xv γ hk' => h.hl.ar.outs k' xv γ hk'⟩ }
    · obtain ⟨h1, h2⟩ := h.hl.fr b' hb' hm; have : b' ≠ b := by rintro rfl; exact (h.hl.om _ _ how).elim hm (by omega)
      exact ⟨(hot b' this).trans h1, h2⟩
    · obtain ⟨h1, h2⟩ := h.hl.p0m b' o hp; exact ⟨h1, (hmem b' o h1).2.trans h2⟩
    · have hz' : (if k' = k then some (T, xn) else α.ar k') = some z := hz
      split at hz'
      · rename_i e; subst e; exact h.hl.ark _ _ har
      · exact h.hl.ark _ _ hz'
    · have hk2 : (if k' = k then some (T, xn) else α.ar k') = some (T', x') := hk'
      have keep : ∀ {k2 j2 : Nat} {T2 : ArT} {b2 : Nat} {y2 : T2.t.den}, ¬ (k2 = k ∧ j2 = j) → ObjAt g w k2 j2 T2 b2 y2 → ObjAt g w' k2 j2 T2 b2 y2 := fun hnn hO =>
        hO.mono1 hle fun b' r hb' hr' => ⟨hb', hne _ _ hb' (by
          rcases hr' with rfl | ⟨c, rfl⟩
          · simp only [ne_eq, Res.obj.injEq]; exact hnn
          · simp), fun _ h => h⟩
      split at hk2
      · rename_i e; subst e; simp only [oi, Prod.mk.injEq] at hk2; obtain ⟨rfl, rfl⟩ := hk2; refine ⟨xs'.set j y', hxn, fun j' b' hp => by rw [List.length_set]; exact e2 j' b' hp, fun j' z hz => ?_⟩
        by_cases ej : j' = j
        · subst ej; rw [List.getElem?_set_self (e2 _ _ hb).1] at hz; simp only [oi] at hz; subst hz; exact ⟨b, hb, .inr ⟨how, hnp, .inr ⟨hk, es', clock', hnew, hrep.mono hmem (fun _ _ _ h => h), hlt⟩⟩⟩
        · rw [List.getElem?_set_ne (Ne.symm ej)] at hz; obtain ⟨b2, q1, q2⟩ := e3 j' z hz; exact ⟨b2, q1, q2.imp id fun hO => keep (fun h => ej h.2) hO⟩
      · rename_i e; obtain ⟨zs, f1, f2, f3⟩ := (h.hl.ar.ars k' T' x' hk2).ex
        refine ⟨zs, f1, f2, fun j' z hz => ?_⟩
        obtain ⟨b2, q1, q2⟩ := f3 j' z hz; exact ⟨b2, q1, q2.imp id fun hO => keep (fun h => e h.1) hO⟩

theorem upd_ar [Arn] (α : AS) (dst : Option Tmp) (sv : SV) (k : Nat) (T : ArT) (xn : A) (nb nt nv : Nat) {a : Act} {w : World} (h : RelG B ρ (({ α with ar := fun k' => if k' = k then some (T, xn) else α.ar k' } : AS).put dst sv) a bs w g) :
    RelG B ρ (α.upd { dst := dst, sv := sv, nv := nv, dr := [(k, T, xn)] } nb nt) a bs w g := by
  refine h.ext rfl (fun _ => rfl) (fun _ => rfl) (fun k => ⟨fun h => h.elim id (fun h => absurd h.2 (by simp only [Nat.add_zero]; omega)), .inl⟩)
    (fun k h => h.elim And.left (fun h => absurd h.2 (by simp only [Nat.add_zero]; omega))) rfl (fun _ _ h => h) ?_
  funext q
  simp only [AS.upd, AS.put, look_cons0, look_nil0]; by_cases e : q = k
  · subst e; simp
  · rw [if_neg (Ne.symm e), if_neg e]

theorem D.get_self [Arn] (t : Ty) (x : t.den) : (D.mk t x).get t = some x := by simp [D.get]

theorem evs4 [Arn] {x y z u : A} {d e f c : D} (h1 : x.ev ρ = some d) (h2 : y.ev ρ = some e) (h3 : z.ev ρ = some f) (h4 : u.ev ρ = some c) : evs ρ [x, y, z, u] = some [d, e, f, c] := by
  unfold evs; rw [h1]; simp only; rw [evs3 h2 h3 h4]

theorem KeyTy.flat [Arn] {K : Ty} {d : TypeDesc} (h : KeyTy K d) : K.flat = true := by
  rcases h with ⟨i, rfl, _⟩ | ⟨rfl, _⟩ <;> rfl

theorem mlen_does [Arn] (p : Pre P B ρ st o α a bs w g) {x : Operand} {xs : Array Operand} {t : TypeId} {ts : Array TypeId} {ax x0 : A} {k : Nat} {T : ArT} {K V : Ty} {et : TypeId} {d : D} (ho : o.op = .call { callee := .builtin .len, args := xs, argTypes := ts })
    (hxs : xs.toList = [x]) (hts : ts.toList = [t]) (h1 : ax.ev ρ = some d) (h2 : d.t = .ref k) (h3 : RepD g.p w (a.eval x) d) (hm : mapOf P st t k = some (T, x0, K, V, et))
    (har : ∀ k x, st.arAt k = some x → α.ar k = some x) (hout : ∀ k, α.out k = st.outAt k) (he : EnvOk Φ ρ st.nv (.mlen K V k) [x0, ax]) :
    Does P o a w (Post B ρ α { dst := o.dst, sv := .one (.a (.v st.nv) (.int .i64)), nv := 1 } st.nb st.ntok bs) := by
  have hx' : xs = #[x] := by apply Array.ext'; simpa using hxs
  have ht' : ts = #[t] := by apply Array.ext'; simpa using hts
  subst hx'; subst ht'; obtain ⟨kt, dt, m1, m2, m3, m4, m5, m6, m7, _⟩ := mapOf_some hm; obtain ⟨ys, f1, hc⟩ := map_of p.rel (har _ _ m4) (by rw [hout, m5]) m6 m7 h1 h2 h3
  obtain ⟨outs, h4, h5⟩ := he.get (evs2 f1 h1)
  rcases hc with ⟨hv, rfl⟩ | ⟨j, b, y, es, clock, hv, rfl, e1, e2, e3, e4, e5, e6, _⟩
  · simp only [evalPr, if_true, D.get_self, mapAt, List.length_nil, Nat.zero_le, oi] at h4; subst h4; refine p.prim (t := .int .i64) (x := (0 : Int)) (v := .int .i64 0) (call_builtin_run ho fun c => ?_) (h5 0 _ rfl) ⟨rfl, by decide⟩
    simp [builtin, Builtin.len_, Sem.run_bind, run_underlying m1, hv, goInt]
  · simp only [evalPr, if_true, D.get_self, mapAt, e1, Option.ite_none_right_eq_some, oi] at h4; obtain ⟨hl, rfl⟩ := h4; have hes : es.size = y.length := by rw [← e6.len, Array.length_toList]
    refine p.prim (t := .int .i64) (x := (y.length : Int)) (v := .int .i64 y.length) (call_builtin_run ho fun c => ?_) (h5 0 _ rfl) ⟨rfl, ?_⟩
    · simp [builtin, Builtin.len_, Sem.run_bind, run_underlying m1, hv, goInt, MapKept.run_getObj_map e5, hes]
    · exact len_wf (by unfold BIG at hl; unfold maxLen; omega)

theorem mapKey_some [Arn] {t : TypeId} {m key : Operand} {x : A} {k : Nat} {T : ArT} {x0 : A} {K V : Ty} {et : TypeId} {y : A} (h : mapKey P st t m key = some (x, k, T, x0, K, V, et, y)) :
    ∃ kt, P.underlying t = some (.map kt et) ∧ evA P st (some t) m = some (x, .ref k) ∧ evA P st (some kt) key = some (y, K) ∧ mapOf P st t k = some (T, x0, K, V, et) := by
  unfold mapKey at h; split at h
  · rename_i kt et' hu; split at h
    · rename_i x' k' y' K' e1 e2; split at h
      · rename_i T' a' K2 V' et2 e3; split at h
        · rename_i hK; subst hK; simp only [oi, Prod.mk.injEq] at h; obtain ⟨rfl, rfl, rfl, rfl, rfl, rfl, rfl, rfl⟩ := h; obtain ⟨kt2, _, m1, _⟩ := mapOf_some e3; rw [hu] at m1; simp only [oi, TypeDesc.map.injEq] at m1; obtain ⟨rfl, rfl⟩ := m1; exact ⟨kt, hu, e1, e2, e3⟩
        · cases h
      · cases h
    · cases h
  · cases h

theorem dflL_dflt [Arn] {V : Ty} {l : L} (h : dflL V = some l) : l.d = ⟨V, dflt V⟩ := by
  cases V <;> simp [dflL] at h <;> subst h <;> rfl

theorem zeroV_run [Arn] {V : Ty} {et : TypeId} (h : zeroV P V et = true) : ∃ z, (∀ w, (zeroValue et).run P w = .ok z w) ∧ ∀ (p : PF) (w : World), Rep p w V [z] (dflt V) := by
  unfold zeroV at h; split at h
  · rename_i l t l' z h1 h2 h3; simp only [Bool.and_eq_true, beq_iff_eq] at h; obtain ⟨⟨rfl, rfl⟩, h4⟩ := h; obtain ⟨i, zv, e1, e2, e3⟩ := zero_rep h1; rw [e1] at h3; simp only [Option.bind_some, e2, oi] at h3; subst h3; refine ⟨zv, fun w => by simp [zeroValue, typeInfo, e1, e2], fun p w => ?_⟩
    have hc : zv.cells.toList = [zv] := by
      cases zv <;> first | rfl | simp at h4
    have e4 := e3 (ρ := []) (α := ⟨0, fun _ => .dead, fun _ => none, fun _ => False, fun _ => False, [], fun _ => none, fun _ => none, fun _ => none⟩) (g := ⟨p, fun _ => 0, fun _ => undef, fun _ => 0, fun _ => 0, fun _ => none⟩) (w := w)
    rw [hc] at e4; cases e4 with
    | cons k1 _ =>
      obtain ⟨d, k2, k3, k4⟩ := k1; have k2' : some l.d = some d := k2
      simp only [oi] at k2'; subst k2'; rw [dflL_dflt h2] at k4; exact k4
  · cases h

theorem single_rep [Arn] {p : PF} {V : Ty} {v : Value} {d : D} (hV : d.t = V) (h : RepD p w v d) : ∃ x : V.den, d = ⟨V, x⟩ ∧ Rep p w V [v] x := by
  obtain ⟨t, x⟩ := d; simp only at hV
  subst hV; exact ⟨x, rfl, h⟩

theorem mget_does [Arn] (p : Pre P B ρ st o α a bs w g) {m key : Operand} {t : TypeId} {x y x0 : A} {k : Nat} {T : ArT} {K V : Ty} {et : TypeId} {ok : Bool} (ho : o.op = .lookup t m key ok) (hm : mapKey P st t m key = some (x, k, T, x0, K, V, et, y)) (hz : zeroV P V et = true)
    (har : ∀ k x, st.arAt k = some x → α.ar k = some x) (hout : ∀ k, α.out k = st.outAt k) (he : EnvOk Φ ρ st.nv (.mget K V k ok) [x0, x, y]) :
    Does P o a w (Post B ρ α { dst := o.dst, sv := if ok = true then .tup [(false, [.a (.v st.nv) V]), (false, [.a (.v (st.nv + 1)) .bool])] else .one (.a (.v st.nv) V), nv := if ok = true then 2 else 1 } st.nb st.ntok bs) := by
  obtain ⟨kt, hu, e1, e2, e3⟩ := mapKey_some hm; obtain ⟨d, h1, h2, h3⟩ := p.evA (by rw [ho]; simp [Op.operands]) e1
  obtain ⟨dk, k1, k2, k3⟩ := p.evA (by rw [ho]; simp [Op.operands]) e2
  obtain ⟨kt', dt, m1, m2, m3, m4, m5, m6, m7, _⟩ := mapOf_some e3; rw [hu] at m1; simp only [oi, TypeDesc.map.injEq, and_true] at m1; subst m1; obtain ⟨ys, f1, hc⟩ := map_of p.rel (har _ _ m4) (by rw [hout, m5]) m6 m7 h1 h2 h3
  obtain ⟨kx, rfl, hkr⟩ := single_rep k2 k3; have hkf := Rep.frep _ _ _ m3.flat hkr
  obtain ⟨z, z1, z2⟩ := zeroV_run (P := P) hz
  obtain ⟨outs, h4, h5⟩ := he.get (evs3 f1 h1 k1)
  have fin : ∀ (v : Value) (vx : V.den) (b : Bool), outs = ⟨V, vx⟩ :: (if ok = true then [⟨.bool, b⟩] else []) → Rep g.p w V [v] vx → (Instr.lookup t (a.eval m) (a.eval key) ok).run P w = .ok (if ok = true then .tuple #[v, .bool b] else v) w →
      Does P o a w (Post B ρ α { dst := o.dst, sv := if ok = true then .tup [(false, [.a (.v st.nv) V]), (false, [.a (.v (st.nv + 1)) .bool])] else .one (.a (.v st.nv) V), nv := if ok = true then 2 else 1 } st.nb st.ntok bs) := by
    intro v vx b ho' hr hrun; subst ho'; have hv : SCRep ρ α g w (.a (.v st.nv) V) v := ⟨⟨V, vx⟩, h5 0 _ rfl, rfl, hr⟩
    refine p.value (v := if ok = true then .tuple #[v, .bool b] else v) ?_ ?_
    · unfold execOp; simp only [ho, Sem.run_bind, hrun, Result.andThen_ok, Sem.run_pure]
    · cases ok with
      | true =>
        refine ⟨#[v, .bool b], rfl, .cons (.inr ⟨rfl, _, rfl, hv⟩) (.cons (.inr ⟨rfl, _, rfl, ⟨⟨.bool, b⟩, h5 1 _ rfl, rfl, rfl⟩⟩) .nil)⟩
      | false => exact hv
  rcases hc with ⟨hv, rfl⟩ | ⟨j, b, yy, es, clock, hv, rfl, q1, q2, q3, q4, q5, q6, _⟩
  · simp only [evalPr, if_true, D.get_self, mapAt, findM, oi] at h4; refine fin z (dflt V) false h4.symm (z2 _ _) ?_
    have hfn : Instr.findNow dt (a.eval key) [] 0 = some none := rfl
    simp [Instr.lookup, run_underlying hu, hv, MapKept.run_checkKey m2 (m3.isKey hkf), MapKept.run_findKey m2 hfn, z1, Result.andThen]
  · simp only [evalPr, if_true, D.get_self, mapAt, q1] at h4; rcases find_rep (w := w) (V := V) m3 hkf es.toList yy 0 q6 with ⟨g1, g2, _⟩ | ⟨n, e, v, g1, g2, g3, _, _, g6, _⟩
    · rw [g1] at h4; simp only [oi] at h4; refine fin z (dflt V) false h4.symm (z2 _ _) ?_
      simp [Instr.lookup, run_underlying hu, hv, MapKept.run_getObj_map q5, MapKept.run_checkKey m2 (m3.isKey hkf), MapKept.run_findKey m2 g2, z1, Result.andThen]
    · rw [g1] at h4; simp only [oi] at h4; refine fin e.val v true h4.symm g6 ?_
      simp [Instr.lookup, run_underlying hu, hv, MapKept.run_getObj_map q5, MapKept.run_checkKey m2 (m3.isKey hkf), MapKept.run_findKey m2 g2, Result.andThen]

theorem All2.set [Arn] {τ υ : Type} {R : τ → υ → Prop} {l : List τ} {m : List υ} (h : All2 R l m) {x : τ} {y : υ} (hr : R x y) : ∀ (n : Nat), All2 R (l.set n x) (m.set n y) := by
  induction h with
  | nil => intro n; simpa using All2.nil
  | cons h1 h2 ih =>
    intro n; cases n with
    | zero => exact .cons hr h2
    | succ n => exact .cons h1 (ih n)

theorem All2.eraseIdx [Arn] {τ υ : Type} {R : τ → υ → Prop} {l : List τ} {m : List υ} (h : All2 R l m) : ∀ (n : Nat), All2 R (l.eraseIdx n) (m.eraseIdx n) := by
  induction h with
  | nil => intro n; simpa using All2.nil
  | cons h1 h2 ih =>
    intro n; cases n with
    | zero => exact h2
    | succ n => exact .cons h1 (ih n)

theorem mput_does [Arn] (p : Pre P B ρ st o α a bs w g) {m key val : Operand} {t : TypeId} {x y u x0 : A} {k : Nat} {T : ArT} {K V : Ty} {et : TypeId} (ho : o.op = .mapUpdate t m key val) (hm : mapKey P st t m key = some (x, k, T, x0, K, V, et, y)) (hval : evA P st (some et) val = some (u, V))
    (har : ∀ k x, st.arAt k = some x → α.ar k = some x) (hout : ∀ k, α.out k = st.outAt k) (he : EnvOk Φ ρ st.nv (.mput K V k) [x0, x, y, u]) :
    Does P o a w (Post B ρ α { dst := o.dst, sv := .dead, nv := 1, dr := [(k, T, .v st.nv)] } st.nb st.ntok bs) := by
  obtain ⟨kt, hu, e1, e2, e3⟩ := mapKey_some hm; obtain ⟨d, h1, h2, h3⟩ := p.evA (by rw [ho]; simp [Op.operands]) e1
  obtain ⟨dk, k1, k2, k3⟩ := p.evA (by rw [ho]; simp [Op.operands]) e2
  obtain ⟨du, u1, u2, u3⟩ := p.evA (by rw [ho]; simp [Op.operands]) hval
  obtain ⟨kt', dt, m1, m2, m3, m4, m5, m6, m7, _⟩ := mapOf_some e3; rw [hu] at m1; simp only [oi, TypeDesc.map.injEq, and_true] at m1; subst m1; obtain ⟨ys, f1, hc⟩ := map_of p.rel (har _ _ m4) (by rw [hout, m5]) m6 m7 h1 h2 h3
  obtain ⟨kx, rfl, hkr⟩ := single_rep k2 k3; obtain ⟨ux, rfl, hur⟩ := single_rep u2 u3; have hkf := Rep.frep _ _ _ m3.flat hkr
  obtain ⟨outs, h4, h5⟩ := he.get (evs4 f1 h1 k1 u1)
  rcases hc with ⟨hv, rfl⟩ | ⟨j, b, yy, es, clock, hv, rfl, q1, q2, q3, q4, q5, q6, q7⟩
  · simp [evalPr] at h4
  · simp only [evalPr, if_true, D.get_self, q1, oi] at h4; subst h4; obtain ⟨tt, own⟩ := T; simp only at m7
    subst m7; have hn0 : (A.v st.nv).ev ρ = some ⟨.sl (.sl (.pair K V)), ys.set j (setM K kx ux yy)⟩ := h5 0 _ rfl
    have go : ∀ (es' : Array MapEntry) (clock' : Nat), (Instr.mapUpdate t (a.eval m) (a.eval key) (a.eval val)).run P w = .ok () { w with heap := w.heap.setIfInBounds b (.map es' clock') } →
        All2 (fun (e : MapEntry) (kv : K.den × V.den) => FRep K [e.key] kv.1 ∧ Rep g.p w V [e.val] kv.2) es'.toList (setM K kx ux yy) → MapKept.Stamped es' clock' →
        Does P o a w (Post B ρ α { dst := o.dst, sv := .dead, nv := 1, dr := [(k, ⟨.sl (.pair K V), own⟩, .v st.nv)] } st.nb st.ntok bs) := by
      intro es' clock' hrun hr hlt; have hrel := p.rel.setMap (T := ⟨.sl (.pair K V), own⟩) (xs := ys) (y' := setM K kx ux yy) (xn := .v st.nv) (har _ _ m4) (by rw [hout, m5]) m6 f1 hn0 q2 q3 q4 q5 hr hlt
      refine does_skip ?_ ⟨g, upd_ar α o.dst .dead k _ _ _ _ 1 (hrel.put (sv := .dead) p.dst rfl)⟩
      unfold execOp; simp only [ho, Sem.run_bind, hrun, Result.andThen_ok, Sem.run_pure]
    rcases find_rep (w := w) (V := V) m3 hkf es.toList yy 0 q6 with ⟨g1, g2, g3, _, g9⟩ | ⟨n, e, v, g1, g2, g3, g4, g5, g6, g7, _⟩
    · refine go (es.push { key := a.eval key, val := a.eval val, born := clock }) (clock + 1) ?_ ?_ (MapKept.stamped_push q7 g9)
      · simp [Instr.mapUpdate, run_underlying hu, hv, MapKept.run_getObj_map q5, MapKept.run_checkKey m2 (m3.isKey hkf), MapKept.run_findKey m2 g2, MapKept.run_setObj_map _ q5, Result.andThen]
      · rw [g3, Array.toList_push]; exact q6.app (.cons ⟨hkf, hur⟩ .nil)
    · have hj : es[n]? = some e := by simpa using g3
      have hmod : (es.modify n fun e => { e with key := a.eval key, val := a.eval val }).toList = es.toList.set n { e with key := a.eval key, val := a.eval val } := by
        apply List.ext_getElem?
        intro i; rw [Array.getElem?_toList, Array.getElem?_modify, List.getElem?_set]; by_cases hi : n = i
        · subst hi; have := (Array.getElem?_eq_some_iff.1 hj).1
          rw [if_pos rfl, if_pos rfl, if_pos (by rw [Array.length_toList]; exact this), hj]
          rfl
        · rw [if_neg hi, if_neg hi, Array.getElem?_toList]
      refine go (es.modify n fun e => { e with key := a.eval key, val := a.eval val }) clock ?_ ?_ (MapKept.stamped_modify q7 n _ (fun _ _ => rfl) (fun e' _ he' => by rw [hj] at he'; cases he'; exact g5.symm))
      · simp [Instr.mapUpdate, run_underlying hu, hv, MapKept.run_getObj_map q5, MapKept.run_checkKey m2 (m3.isKey hkf), MapKept.run_findKey m2 g2, hj, g5, MapKept.run_keyThatStays (m3.isKey hkf), MapKept.run_setObj_map _ q5, Result.andThen]
      · rw [hmod, g7]; exact q6.set (x := { e with key := a.eval key, val := a.eval val }) (y := (kx, ux)) ⟨hkf, hur⟩ n

theorem mdel_does [Arn] (p : Pre P B ρ st o α a bs w g) {m key : Operand} {xs : Array Operand} {ts : Array TypeId} {t t1 : TypeId} {x y x0 : A} {k : Nat} {T : ArT} {K V : Ty} {et : TypeId} (ho : o.op = .call { callee := .builtin .delete, args := xs, argTypes := ts })
    (hxs : xs.toList = [m, key]) (hts : ts.toList = [t, t1]) (hm : mapKey P st t m key = some (x, k, T, x0, K, V, et, y))
    (har : ∀ k x, st.arAt k = some x → α.ar k = some x) (hout : ∀ k, α.out k = st.outAt k) (he : EnvOk Φ ρ st.nv (.mdel K V k) [x0, x, y]) :
    Does P o a w (Post B ρ α { dst := o.dst, sv := .tup [], nv := 1, dr := [(k, T, .v st.nv)] } st.nb st.ntok bs) := by
  have hx' : xs = #[m, key] := by apply Array.ext'; simpa using hxs
  have ht' : ts = #[t, t1] := by apply Array.ext'; simpa using hts
  subst hx'; subst ht'; obtain ⟨kt, hu, e1, e2, e3⟩ := mapKey_some hm; obtain ⟨d, h1, h2, h3⟩ := p.evA (by rw [ho]; simp [Op.operands, Call.operands]) e1
  obtain ⟨dk, k1, k2, k3⟩ := p.evA (by rw [ho]; simp [Op.operands, Call.operands]) e2
  obtain ⟨kt', dt, m1, m2, m3, m4, m5, m6, m7, _⟩ := mapOf_some e3; rw [hu] at m1; simp only [oi, TypeDesc.map.injEq, and_true] at m1; subst m1; obtain ⟨ys, f1, hc⟩ := map_of p.rel (har _ _ m4) (by rw [hout, m5]) m6 m7 h1 h2 h3
  obtain ⟨kx, rfl, hkr⟩ := single_rep k2 k3; have hkf := Rep.frep _ _ _ m3.flat hkr
  obtain ⟨outs, h4, h5⟩ := he.get (evs3 f1 h1 k1)
  obtain ⟨tt, own⟩ := T; simp only at m7
  subst m7; have fin : ∀ (w' : World) (hrel : RelG B ρ { α with ar := fun k' => if k' = k then some (⟨.sl (.pair K V), own⟩, .v st.nv) else α.ar k' } a bs w' g),
      (∀ ty, (Builtin.delete_ #[t, t1] ty #[a.eval m, a.eval key]).run P w = .ok (.tuple #[]) w') → Does P o a w (Post B ρ α { dst := o.dst, sv := .tup [], nv := 1, dr := [(k, ⟨.sl (.pair K V), own⟩, .v st.nv)] } st.nb st.ntok bs) := by
    intro w' hrel hrun; refine does_value (v := .tuple #[]) (call_builtin_run ho fun c => ?_) ⟨g, upd_ar α o.dst (.tup []) k _ _ _ _ 1 (hrel.put (sv := .tup []) p.dst ⟨#[], rfl, .nil⟩)⟩
    simp [builtin, hrun]
  rcases hc with ⟨hv, rfl⟩ | ⟨j, b, yy, es, clock, hv, rfl, q1, q2, q3, q4, q5, q6, q7⟩
  · simp only [evalPr, if_true, D.get_self, oi] at h4; subst h4; have hn0 : (A.v st.nv).ev ρ = some ⟨.sl (.sl (.pair K V)), ys⟩ := h5 0 _ rfl
    refine fin w ?_ fun ty => ?_
    · have hR := p.rel
      have hle : LeC ρ α g w ρ { α with ar := fun k' => if k' = k then some (⟨.sl (.pair K V), own⟩, .v st.nv) else α.ar k' } g w := ⟨fun _ _ h => h, fun β row h => ⟨⟨row, h⟩, rfl⟩, fun k h => ⟨h, rfl, rfl, rfl⟩, fun _ _ h => ⟨h, rfl⟩, fun _ _ _ h => h⟩
      refine { nodef := hR.nodef, sz := hR.sz, slot := fun i => (hR.slot i).mono hle, saved := Forall2.mono (fun _ _ ⟨h1, h2, h3⟩ => ⟨h1, h2, fun i => (h3 i).mono hle⟩) hR.saved, box := fun β row hr => ?_, live := fun m hm => ⟨(hR.live m hm).1, ⟨(hR.live m hm).2.own⟩⟩, pwf := hR.pwf, bel := hR.bel, hB := hR.hB, dk := hR.dk, hl := ?_ }
      · have hbo := hR.box β row hr
        exact RelG.BoxOk_mono hle hbo rfl rfl hbo.np rfl
      · refine { b0 := hR.hl.b0, om := hR.hl.om, owb := hR.hl.owb, fr := hR.hl.fr, p0m := hR.hl.p0m, adm := hR.hl.adm, adf := hR.hl.adf, ark := fun k' z hz => ?_, ar := ⟨fun k' T' x' hk' => ?_, fun k' xv γ hk' => hR.hl.ar.outs k' xv γ hk'⟩ }
        · have hz' : (if k' = k then some ((⟨.sl (.pair K V), own⟩ : ArT), A.v st.nv) else α.ar k') = some z := hz
          split at hz'
          · rename_i e; subst e; exact hR.hl.ark _ _ (har _ _ m4)
          · exact hR.hl.ark _ _ hz'
        · have hk2 : (if k' = k then some ((⟨.sl (.pair K V), own⟩ : ArT), A.v st.nv) else α.ar k') = some (T', x') := hk'
          split at hk2
          · rename_i e; subst e; simp only [oi, Prod.mk.injEq] at hk2; obtain ⟨rfl, rfl⟩ := hk2; obtain ⟨zs, r1, r2, r3⟩ := (hR.hl.ar.ars _ _ _ (har _ _ m4)).ex
            rw [f1] at r1; simp only [oi, D.mk.injEq, heq_eq_eq, true_and] at r1; subst r1; exact ⟨ys, hn0, r2, r3⟩
          · exact hR.hl.ar.ars k' T' x' hk2 |>.ex |> fun h => ⟨h⟩
    · simp [Builtin.delete_, run_underlying hu, hv, MapKept.run_checkKey m2 (m3.isKey hkf), Result.andThen]
  · simp only [evalPr, if_true, D.get_self, q1, oi] at h4; subst h4; have hn0 : (A.v st.nv).ev ρ = some ⟨.sl (.sl (.pair K V)), ys.set j (delM K kx yy)⟩ := h5 0 _ rfl
    rcases find_rep (w := w) (V := V) m3 hkf es.toList yy 0 q6 with ⟨g1, g2, _, g4, _⟩ | ⟨n, e, v, g1, g2, g3, g4, g5, g6, _, g8⟩
    · rw [g4] at hn0; have hrel := p.rel.setMap (T := ⟨.sl (.pair K V), own⟩) (xs := ys) (y' := yy) (xn := .v st.nv) (har _ _ m4) (by rw [hout, m5]) m6 f1 hn0 q2 q3 q4 q5 (es' := es) (clock' := clock) q6 q7
      refine fin _ hrel fun ty => ?_
      simp [Builtin.delete_, run_underlying hu, hv, MapKept.run_getObj_map q5, MapKept.run_checkKey m2 (m3.isKey hkf), MapKept.run_findKey m2 g2, MapKept.run_setObj_map _ q5, Result.andThen]
    · rw [g8] at hn0; have hjl : n < es.size := by rw [← Array.length_toList]; exact (List.getElem?_eq_some_iff.1 g3).1
      have her : (es.eraseIdxIfInBounds n).toList = es.toList.eraseIdx n := by
        unfold Array.eraseIdxIfInBounds; rw [dif_pos hjl]; simp
      have hrel := p.rel.setMap (T := ⟨.sl (.pair K V), own⟩) (xs := ys) (y' := yy.eraseIdx n) (xn := .v st.nv) (har _ _ m4) (by rw [hout, m5]) m6 f1 hn0 q2 q3 q4 q5 (es' := es.eraseIdxIfInBounds n) (clock' := clock)
        (by show All2 _ _ _; rw [her]; exact q6.eraseIdx n) (MapKept.stamped_erase q7 n)
      refine fin _ hrel fun ty => ?_
      simp [Builtin.delete_, run_underlying hu, hv, MapKept.run_getObj_map q5, MapKept.run_checkKey m2 (m3.isKey hkf), MapKept.run_findKey m2 g2, MapKept.run_setObj_map _ q5, Result.andThen]
end
end Go.Proofs.Ytmglkddddpipgaa.Sx

namespace Go.Proofs.Ytmglkddddpipgaa.Sx
open Go.RowKit

section
variable {P : Program} {B : Base} {ρ : List D} {st : SS} {o : Oper} {α : AS} {a : Act} {bs : List Act} {w : World} {g : G} {Φ : Nat → Cont}

theorem Flats.drop [Arn] {p : PF} {w : World} {t : Ty} : ∀ (n : Nat) {xs : List Value} {ys : List t.den}, Flats p w t xs ys → Flats p w t (xs.drop (n * t.width)) (ys.drop n)
  | 0, xs, ys, h => by simpa using h
  | n + 1, xs, [], h => by
    have : xs = [] := h
    subst this; simpa using h
  | n + 1, xs, y :: ys, h => by
    obtain ⟨c, r, rfl, h1, h2⟩ := h; have hc : c.length = t.width := Rep.len _ _ _ h1
    have := Flats.drop n h2
    rw [List.drop_succ_cons, show (n + 1) * t.width = c.length + n * t.width by rw [hc, Nat.add_mul]; omega, List.drop_append, List.drop_eq_nil_of_le (Nat.le_add_right _ _), Nat.add_sub_cancel_left, List.nil_append]
    exact this

theorem copy_does [Arn] (p : Pre P B ρ st o α a bs w g) {x y : Operand} {xs : Array Operand} {t t1 : TypeId} {ts : Array TypeId} {k j : Nat} {ay : A} {dy : D} {te : Ty} {e e' : TypeId} (ho : o.op = .call { callee := .builtin .copy, args := xs, argTypes := ts })
    (hxs : xs.toList = [x, y]) (hts : ts.toList = [t, t1]) (hx : SCRep ρ α g w (.dsl k) (a.eval x)) (h1 : ay.ev ρ = some dy) (h2 : dy.t = .sl te) (h3 : RepD g.p w (a.eval y) dy) (hu : P.underlying t = some (.slice e')) (hee : e = e')
    (hk : α.live k) (hd : α.dyn k = some (j, te, e)) (hw : te.width = sizeT P e) (hpos : 0 < te.width) (hfl : te.flat = true) (he : EnvOk Φ ρ st.nv (.cpy te) [.v j, ay]) :
    Does P o a w (Post B ρ α { dst := o.dst, sv := .one (.a (.v (st.nv + 1)) (.int .i64)), nv := 2, dy := [(k, some (st.nv, te, e))] } st.nb st.ntok bs) := by
  subst hee; have hx' : xs = #[x, y] := by apply Array.ext'; simpa using hxs
  have ht' : ts = #[t, t1] := by apply Array.ext'; simpa using hts
  subst hx'; subst ht'; obtain ⟨hkn, n, xc, ys, hr⟩ := p.rel.wr hk hd; obtain ⟨_, hxv, _⟩ := hx; obtain ⟨zs, rfl, hry⟩ := sl_of h2 h3; obtain ⟨outs, h4, h5⟩ := he.get (evs2 hr.env h1)
  simp only [evalPr, if_true, D.get_self, oi] at h4; subst h4; have hn0 := h5 0 _ rfl
  have hn1 := h5 1 _ rfl
  have hsize : ∃ i, P.info? e = some i ∧ i.size = te.width := by
    cases hi : P.info? e with
    | none => simp [sizeT, hi] at hw; omega
    | some i => exact ⟨i, rfl, by simp [sizeT, hi] at hw; omega⟩
  obtain ⟨i, hi, hisz⟩ := hsize; have main : ∀ (m : Nat) (mc : List Value), m = min zs.length n → (Builtin.lenOf (a.eval y)).run P w = .ok zs.length w → (Builtin.firstCells te.width m (a.eval y)).run P w = .ok mc.toArray w → Flats g.p w te mc (zs.take m) → (∀ u ∈ mc, u.oneCell' = true) →
      Does P o a w (Post B ρ α { dst := o.dst, sv := .one (.a (.v (st.nv + 1)) (.int .i64)), nv := 2, dy := [(k, some (st.nv, te, e))] } st.nb st.ntok bs) := by
    intro m mc hm hlen hfc hmf hone; have hmn : m ≤ n := by omega
    have hmz : m ≤ zs.length := by omega
    have hyl := hr.len
    have hnew : zs.take ys.length ++ ys.drop zs.length = zs.take m ++ ys.drop m := by
      rcases Nat.le_total zs.length n with h | h
      · have : m = zs.length := by omega
        subst this; rw [List.take_of_length_le (by omega), List.take_length]
      · have : m = n := by omega
        subst this; rw [hyl, List.drop_eq_nil_of_le (by omega), List.drop_eq_nil_of_le (by omega)]
    rw [hnew] at hn0; have hmi : (min zs.length ys.length : Nat) = m := by omega
    rw [hmi] at hn1; have hml : mc.length = m * te.width := by rw [hmf.len, List.length_take, Nat.min_eq_left hmz]
    have hlen' : (zs.take m ++ ys.drop m).length = n := by rw [List.length_append, List.length_take, List.length_drop]; omega
    have hfl' : Flats g.p w te (mc ++ xc.drop (m * te.width)) (zs.take m ++ ys.drop m) := hmf.app (hr.fl.drop m)
    have hsv : SVRep ρ α g w (.one (.a (.v (st.nv + 1)) (.int .i64))) (.int .i64 m) := by
      refine ⟨⟨.int .i64, (m : Int)⟩, hn1, rfl, rfl, ?_⟩
      refine len_wf ?_
      rcases hr.own.2 with ⟨_, h⟩ | ⟨_, _, _, _, _, _, h3, h4, _⟩
      · have : m = 0 := by omega
        subst this; exact Nat.zero_le _
      · omega
    rcases hr.own.2 with ⟨hv, hn⟩ | ⟨b, cap, cur, hv, hB, hh, h3', hcm, hcs, htk⟩
    · -- no list: nothing is done
      have hm0 : m = 0 := by omega
      have hy0 : zs.take m ++ ys.drop m = ys := by rw [hm0]; simp
      rw [hy0] at hn0; have hrel := p.rel.setDyn (w' := w) (i := st.nv) hk hd ⟨rfl, rfl, rfl, Nat.le_refl _, fun _ _ _ => rfl⟩ hr.own hn0 hr.len hr.fl
      refine does_value (call_builtin_run ho fun c => ?_) ⟨g, upd_dyn α o.dst _ k _ _ _ 2 (hrel.put p.dst hsv)⟩
      rw [← hxv] at hv; simp [builtin, Builtin.copy_, Sem.run_bind, run_underlying hu, hv, hlen, sizeOf, typeInfo, hi, hisz, hm0, goInt]
      rw [hm0] at hfc; simp [hfc]
    · have hle1 : n * te.width ≤ cap * te.width := Nat.mul_le_mul_right _ h3'
      have hle2 : m * te.width ≤ n * te.width := Nat.mul_le_mul_right _ hmn
      have hst := run_storeCells_at (P := P) b 0 e mc 0 cur w hh (by rw [hml, hcs]; omega) hone
      simp only [Nat.add_zero, List.take_zero, List.nil_append, Nat.zero_add] at hst; obtain ⟨cur', hcur'⟩ : ∃ cur' : Array Value, cur' = (mc ++ cur.toList.drop mc.length).toArray := ⟨_, rfl⟩
      rw [← hcur'] at hst; have hsz' : cur'.size = cur.size := by
        have : cur'.toList.length = cur.toList.length := by
          rw [hcur']; simp only [List.length_append, List.length_drop, Array.length_toList, hml]; omega
        simpa using this
      have hxs' : cur'.toList.take (n * te.width) = mc ++ xc.drop (m * te.width) := by
        rw [hcur', ← htk]; simp only []; rw [List.take_append, List.take_of_length_le (by omega), hml, List.drop_take]
      have hrel := p.rel.setDyn (w' := w.setRow b cur') (i := st.nv) hk hd
        ⟨rfl, rfl, rfl, by simp [World.setRow], fun q _ hq => setRow_other w b q _ (fun e2 => hq (by rw [hv, e2]; rfl))⟩
        (n := n) (xs' := mc ++ xc.drop (m * te.width))
        ⟨by rw [← hxs', List.length_take, Nat.min_eq_left (by rw [Array.length_toList, hsz', hcs]; exact hle1)], .inr ⟨b, cap, cur', hv, hB, setRow_heap w b cur _ e _ hh, h3', hcm, by rw [hsz', hcs], hxs'⟩⟩
        hn0 hlen' hfl'
      have hsv' : SVRep ρ (setDynAS α k (st.nv, te, e)) g (w.setRow b cur') (.one (.a (.v (st.nv + 1)) (.int .i64))) (.int .i64 m) := by
        obtain ⟨d, q1, q2, q3⟩ := hsv; refine ⟨⟨.int .i64, (m : Int)⟩, hn1, rfl, rfl, ?_⟩
        obtain ⟨d', r1, r2, r3⟩ := (⟨d, q1, q2, q3⟩ : SCRep ρ α g w (.a (.v (st.nv + 1)) (.int .i64)) (.int .i64 m))
        have r1' : nth ρ (st.nv + 1) = some d' := r1
        rw [hn1] at r1'; simp only [oi] at r1'; subst r1'; exact r3.2
      refine does_value (w' := w.setRow b cur') (call_builtin_run ho fun c => ?_) ⟨g, upd_dyn α o.dst _ k _ _ _ 2 (hrel.put p.dst hsv')⟩
      have hmin : Nat.min zs.length n = m := hm.symm
      rw [← hxv] at hv; simp [builtin, Builtin.copy_, Sem.run_bind, run_underlying hu, hv, hlen, sizeOf, typeInfo, hi, hisz, hmin, hfc, hst, goInt]
  rcases sl_cases hry with ⟨hvy, rfl⟩ | ⟨b, off, cap, hvy, hc1, hc2, hcs⟩ | ⟨ad, hvy, rfl⟩
  · refine main 0 [] (by simp) (by rw [hvy]; rfl) (by rw [hvy]; rfl) rfl (by simp)
  · obtain ⟨yc, h7, h8, h9, h10⟩ := list_cells (p := g.p) (w := w) (b := b) (off := off) hpos zs 0 (fun i x hx => by rw [Nat.zero_add]; exact hcs i x hx)
    rw [Nat.zero_mul, Nat.add_zero] at h8; have hyf : Flats g.p w te yc zs := Flats.of (by rw [h7]) fun i x hx => h10 i x hx
    refine main (min zs.length n) (yc.take (min zs.length n * te.width)) rfl (by rw [hvy]; rfl) ?_ (hyf.take _ (Nat.min_le_left _ _)) (fun u hu => h9 u (List.mem_of_mem_take hu))
    rw [hvy]; have hl1 : min zs.length n * te.width ≤ zs.length * te.width := Nat.mul_le_mul_right _ (Nat.min_le_left _ _)
    refine run_firstCells_some (P := P) w te.width (min zs.length n) ⟨b, off, none⟩ zs.length cap _ (by rw [List.length_take, h7]; omega) ?_
    intro q u hq; rw [List.getElem?_take] at hq; split at hq
    · rw [Addr.add_mid]; exact (h8 q u hq).2
    · cases hq
  · refine main 0 [] (by simp) (by rw [hvy]; rfl) ?_ rfl (by simp)
    rw [hvy]; exact run_firstCells_some (P := P) w te.width 0 ad 0 0 [] (by simp) (fun j u hj => by simp at hj)
end
end Go.Proofs.Ytmglkddddpipgaa.Sx

namespace Go.Proofs.Ytmglkddddpipgaa.Sx
open Go.RowKit

section
variable {P : Program} {B : Base} {ρ : List D} {st : SS} {o : Oper} {α : AS} {a : Act} {bs : List Act} {w : World} {g : G} {Φ : Nat → Cont}

theorem RelG.newMap [Arn] (h : RelG B ρ α a bs w g) {k : Nat} {T : ArT} {x0 xn : A} {xs : List T.t.den} {y : T.t.den} (har : α.ar k = some (T, x0)) (hk : k % 2 = 1)
    (hx0 : x0.ev ρ = some ⟨.sl T.t, xs⟩) (hxn : xn.ev ρ = some ⟨.sl T.t, xs ++ [y]⟩) {es : Array MapEntry} {clock : Nat} (hrep : RepM g.p w T.t es.toList y) (hst : MapKept.Stamped es clock) :
    ∃ g', RelG B ρ { α with ar := fun k' => if k' = k then some (T, xn) else α.ar k' } a bs (w.alloc (.map es clock)) g' ∧ g'.p.ad k xs.length w.heap.size := by
  let g' : G := { g with
    p := ⟨g.p.c, fun k' j' b => g.p.ad k' j' b ∨ (k' = k ∧ j' = xs.length ∧ b = w.heap.size)⟩
    ow := fun b => if b = w.heap.size then some (.obj k xs.length) else g.ow b }
  obtain ⟨hnew, hot⟩ := MapKept.heap_alloc w (.map es clock)
  have hsz : (w.alloc (.map es clock)).heap.size = w.heap.size + 1 := by show (w.heap.push _).size = _; simp
  have hmem : ∀ b' o, g.p b' o → g'.p b' o ∧ (w.alloc (.map es clock)).cell? ⟨b', o, none⟩ = w.cell? ⟨b', o, none⟩ := fun b' o hp => ⟨hp, World.cell?_of_block (hot b' (h.pwf b' o hp))⟩
  have hadm : ∀ k' j' b, g.p.ad k' j' b → g'.p.ad k' j' b := fun _ _ _ => .inl
  have how : ∀ b r, g.ow b = some r → g'.ow b = some r := fun b r hr => by
    have hlt := h.hl.owb b r hr
    have : b ≠ w.heap.size := by omega
    simp only [g', if_neg this]; exact hr
  have hle : LeC ρ α g w ρ { α with ar := fun k' => if k' = k then some (T, xn) else α.ar k' } g' (w.alloc (.map es clock)) := ⟨fun _ _ h => h, fun β row h => ⟨⟨row, h⟩, rfl⟩, fun k h => ⟨h, rfl, rfl, rfl⟩, hmem, hadm⟩
  obtain ⟨xs', e1, e2, e3⟩ := (h.hl.ar.ars k T x0 har).ex
  have exs : xs' = xs := by
    rw [hx0] at e1; simp only [oi, D.mk.injEq, heq_eq_eq, true_and] at e1; exact e1.symm
  subst exs; have hobj : ∀ {k2 j2 : Nat} {T2 : ArT} {b2 : Nat} {y2 : T2.t.den}, ObjAt g w k2 j2 T2 b2 y2 → ObjAt g' (w.alloc (.map es clock)) k2 j2 T2 b2 y2 := fun hO =>
    hO.mono1 hle fun b' r hb' _ => ⟨how _ _ hb', hot b' (h.hl.owb b' r hb'), fun _ h => h⟩
  refine ⟨g', { nodef := h.nodef, sz := h.sz, slot := fun i => (h.slot i).mono hle, saved := Forall2.mono (fun _ _ ⟨h1, h2, h3⟩ => ⟨h1, h2, fun i => (h3 i).mono hle⟩) h.saved, box := fun β row hr => ?_, live := fun m hm => ?_, pwf := fun b' o hp => by have := h.pwf b' o hp; omega, bel := ?_, hB := h.hB, dk := h.dk, hl := ?_ }, .inr ⟨rfl, rfl, rfl⟩⟩
  · have hbo := h.box β row hr
    obtain ⟨cs, el, h4, _⟩ := hbo.cells; exact RelG.BoxOk_mono hle hbo rfl ((how _ _ hbo.ow).trans hbo.ow.symm) hbo.np (hot _ (block_lt h4))
  · obtain ⟨h1, n, zs, h2, h3, h4⟩ := h.live m hm; exact ⟨h1, n, zs, ownsRow_same h2 fun b' hb' => hot b' (h2.lt b' hb').2, fun b' hb' => ⟨how _ _ (h3 b' hb').1, (h3 b' hb').2⟩, h4.mono hle.mem hle.ad (fun _ _ h => h) (fun _ h => h) rfl rfl rfl (fun _ _ h => h)⟩
  · exact ⟨h.bel.os, h.bel.tape, h.bel.output, by have := h.bel.size; omega, fun q hq => by rw [h.hl.b0] at hq; omega⟩
  · refine { b0 := h.hl.b0, om := fun b' r hr => ?_, owb := fun b' r hr => ?_, fr := fun b' hb' hm => ?_, p0m := fun b' o hp => ?_, adm := fun k' j' b' hp => .inl (h.hl.adm k' j' b' hp), adf := fun k' j' b' hks hp => ?_, ark := fun k' z hz => ?_, ar := ⟨fun k' T' x' hk' => ?_, fun k' xv γ hk' => ?_⟩ }
    · simp only [g'] at hr; split at hr
      · rename_i e; subst e; exact .inr h.bel.size
      · exact h.hl.om b' r hr
    · simp only [g'] at hr; split at hr
      · rename_i e; omega
      · have := h.hl.owb b' r hr; omega
    · obtain ⟨h1, h2⟩ := h.hl.fr b' hb' hm; exact ⟨(hot b' (Nat.lt_of_lt_of_le hb' h.bel.size)).trans h1, h2⟩
    · obtain ⟨h1, h2⟩ := h.hl.p0m b' o hp; exact ⟨h1, (hmem b' o h1).2.trans h2⟩
    · rcases hp with hp | ⟨rfl, _⟩
      · exact h.hl.adf k' j' b' hks hp
      · exact absurd (h.hl.ark _ _ har) hks
    · have hz' : (if k' = k then some (T, xn) else α.ar k') = some z := hz
      split at hz'
      · rename_i e; subst e; exact h.hl.ark _ _ har
      · exact h.hl.ark _ _ hz'
    · have hk2 : (if k' = k then some (T, xn) else α.ar k') = some (T', x') := hk'
      split at hk2
      · rename_i e; subst e; simp only [oi, Prod.mk.injEq] at hk2; obtain ⟨rfl, rfl⟩ := hk2; refine ⟨xs' ++ [y], hxn, fun j' b' hp => ?_, fun j' z hz => ?_⟩
        · rcases hp with hp | ⟨_, rfl, rfl⟩
          · refine ⟨by have := (e2 j' b' hp).1; simp; omega, fun b2 hb2 => ?_⟩
            rcases hb2 with hb2 | ⟨_, rfl, rfl⟩
            · exact (e2 j' b' hp).2 b2 hb2
            · exact absurd (e2 _ b' hp).1 (Nat.lt_irrefl _)
          · refine ⟨by simp, fun b2 hb2 => ?_⟩
            rcases hb2 with hb2 | ⟨_, _, rfl⟩
            · exact absurd (e2 _ b2 hb2).1 (Nat.lt_irrefl _)
            · rfl
        · rcases Nat.lt_or_ge j' xs'.length with hlt | hge
          · rw [List.getElem?_append_left hlt] at hz; obtain ⟨b2, q1, q2⟩ := e3 j' z hz; exact ⟨b2, .inl q1, q2.imp id hobj⟩
          · have hj : j' = xs'.length := by
              have := (List.getElem?_eq_some_iff.1 hz).1
              simp at this; omega
            subst hj; simp only [List.getElem?_append_right (Nat.le_refl _), Nat.sub_self, List.getElem?_cons_zero, oi] at hz; subst hz; refine ⟨w.heap.size, .inr ⟨rfl, rfl, rfl⟩, .inr ⟨by simp [g'], fun o hp => absurd (h.pwf _ o hp) (Nat.lt_irrefl _), .inr ⟨hk, es, clock, hnew, hrep.mono hmem hadm, hst⟩⟩⟩
      · rename_i e; obtain ⟨zs, f1, f2, f3⟩ := (h.hl.ar.ars k' T' x' hk2).ex
        have hadk : ∀ j' b', g'.p.ad k' j' b' → g.p.ad k' j' b' := fun j' b' hp => hp.elim id fun h => absurd h.1 e
        refine ⟨zs, f1, fun j' b' hp => ⟨(f2 j' b' (hadk j' b' hp)).1, fun b2 hb2 => (f2 j' b' (hadk j' b' hp)).2 b2 (hadk j' b2 hb2)⟩, fun j' z hz => ?_⟩
        obtain ⟨b2, q1, q2⟩ := f3 j' z hz; exact ⟨b2, .inl q1, q2.imp id hobj⟩
    · obtain ⟨z4, j', z5, z6, z7⟩ := h.hl.ar.outs k' xv γ hk'; refine ⟨z4, j', z5, .inl z6, fun b2 hb2 => ?_⟩
      rcases hb2 with hb2 | ⟨rfl, rfl, rfl⟩
      · exact z7 b2 hb2
      · exact absurd (e2 _ _ z6).1 (Nat.lt_irrefl _)

theorem makeMap_does [Arn] (p : Pre P B ρ st o α a bs w g) {t : TypeId} {x0 : A} {k : Nat} {T : ArT} {K V : Ty} {et : TypeId} {e : Ty} (ho : o.op = .makeMap t none) (hm : mapOf P st t k = some (T, x0, K, V, et)) (hT : T.t = .sl e)
    (har : ∀ k x, st.arAt k = some x → α.ar k = some x) (he : EnvOk Φ ρ st.nv (.hnew T.t k) [x0, .l (.nil e)]) :
    Does P o a w (Post B ρ α { dst := o.dst, sv := .one (.a (.v (st.nv + 1)) (.ref k)), nv := 2, dr := [(k, T, .v st.nv)] } st.nb st.ntok bs) := by
  obtain ⟨kt', dt, m1, m2, m3, m4, m5, m6, m7, _⟩ := mapOf_some hm; obtain ⟨tt, own⟩ := T; simp only at m7 hT
  subst hT; simp only [Ty.sl.injEq] at m7; subst m7; have ha := har _ _ m4
  obtain ⟨xs, f1, f2, f3⟩ := (p.rel.hl.ar.ars k _ x0 ha).ex
  have hnil : (A.l (.nil (.pair K V))).ev ρ = some ⟨.sl (.pair K V), []⟩ := rfl
  obtain ⟨outs, h4, h5⟩ := he.get (evs2 f1 hnil)
  have hj : toE (.sl (.pair K V)) [(⟨.sl (.pair K V), []⟩ : D)] = some [] := by simp [toE, join, join1, D.get]
  simp only [evalPr, if_true, hj, oi] at h4; subst h4; have hn0 : (A.v st.nv).ev ρ = some ⟨.sl (.sl (.pair K V)), xs ++ [[]]⟩ := h5 0 _ rfl
  have hn1 := h5 1 _ rfl
  obtain ⟨g', hrel, had⟩ := p.rel.newMap (T := ⟨.sl (.pair K V), own⟩) (xs := xs) (y := []) (xn := .v st.nv) ha m6 f1 hn0 (es := #[]) (clock := 0) All2.nil (MapKept.stamped_empty 0)
  have hk3 : ¬ k % 2 = 0 := by omega
  refine does_value (w' := w.alloc (.map #[] 0)) (v := .map (some w.heap.size)) ?_ ⟨g', upd_ar α o.dst _ k _ _ _ _ 2 (hrel.put p.dst ?_)⟩
  · unfold execOp; simp [ho, Instr.makeMap, Result.andThen, Sem.run_bind]
  · exact ⟨⟨.ref k, some xs.length⟩, hn1, rfl, .inr ⟨w.heap.size, xs.length, by simp [refVal, hk3], rfl, had⟩⟩
end
end Go.Proofs.Ytmglkddddpipgaa.Sx

namespace Go.Proofs.Ytmglkddddpipgaa.Sx
open Go.RowKit

section
variable {B : Base} {ρ : List D} {α : AS} {a : Act} {bs : List Act} {w : World} {g : G}

theorem look_mem0 [Arn] {τ : Type} : ∀ (l : List (Nat × τ)) (i : Nat) (v : τ), look l i = some v → (i, v) ∈ l
  | [], i, v, h => by cases h
  | (j, u) :: l, i, v, h => by
    rw [look_cons0] at h; split at h
    · rename_i e; simp only [oi] at h; subst h; subst e; simp
    · exact List.mem_cons_of_mem _ (look_mem0 l i v h)

theorem ownT_fst [Arn] (own : List (Nat × TypeId)) : ∀ (ts : List Ty) (c : Nat), (ownT own c ts).map (·.1) = ts
  | [], _ => rfl
  | t :: ts, c => by simp only [ownT, List.map_cons, ownT_fst own ts (c + 1)]

theorem ownT_list [Arn] (own : List (Nat × TypeId)) : ∀ (ts : List Ty) (c0 : Nat) (cs : List Value), cs.length = ts.length →
    ∃ pos : List Nat, pos.length = (ownList (ownT own c0 ts) cs).length ∧ pos.Pairwise (· < ·) ∧ (∀ c ∈ pos, c0 ≤ c) ∧
      ∀ (m : Nat) (v : Value) (e : TypeId) (sz c : Nat), (ownList (ownT own c0 ts) cs)[m]? = some (v, e, sz) → pos[m]? = some c → (c, e) ∈ own ∧ ∃ t, cs[c - c0]? = some v ∧ ts[c - c0]? = some (.sl t) ∧ sz = t.width
  | [], c0, cs, h => ⟨[], by cases cs <;> simp [ownT, ownList], .nil, by simp, by intro m v e sz c h1 h2; simp at h2⟩
  | t :: ts, c0, [], h => by simp at h
  | t :: ts, c0, v :: cs, h => by
    obtain ⟨pos, p1, p2, p3, p4⟩ := ownT_list own ts (c0 + 1) cs (by simpa using h)
    have shift : ∀ (m : Nat) (v' : Value) (e : TypeId) (sz c : Nat), (ownList (ownT own (c0 + 1) ts) cs)[m]? = some (v', e, sz) → pos[m]? = some c → (c, e) ∈ own ∧ ∃ t', (v :: cs)[c - c0]? = some v' ∧ (t :: ts)[c - c0]? = some (.sl t') ∧ sz = t'.width := by
      intro m v' e sz c h1 h2; obtain ⟨q1, t', q2, q3, q4⟩ := p4 m v' e sz c h1 h2; have := p3 c (List.mem_of_getElem? h2)
      refine ⟨q1, t', ?_, ?_, q4⟩
      · rw [show c - c0 = (c - (c0 + 1)) + 1 by omega]; simpa using q2
      · rw [show c - c0 = (c - (c0 + 1)) + 1 by omega]; simpa using q3
    have hlt : ∀ c ∈ pos, c0 ≤ c := fun c hc => by have := p3 c hc; omega
    by_cases hx : ∃ e u, look own c0 = some e ∧ t = .sl u
    · obtain ⟨e, u, hl, rfl⟩ := hx; have hL : ownList (ownT own c0 (.sl u :: ts)) (v :: cs) = (v, e, u.width) :: ownList (ownT own (c0 + 1) ts) cs := by
        simp only [ownT, hl, ownList]
      rw [hL]; refine ⟨c0 :: pos, by simp [p1], List.pairwise_cons.2 ⟨fun c hc => by have := p3 c hc; omega, p2⟩, fun c hc => ?_, ?_⟩
      · rcases List.mem_cons.1 hc with rfl | hc
        · exact Nat.le_refl _
        · exact hlt c hc
      intro m v' e' sz c h1 h2; cases m with
      | zero =>
        simp only [List.getElem?_cons_zero, oi, Prod.mk.injEq] at h1 h2; obtain ⟨rfl, rfl, rfl⟩ := h1; subst h2; exact ⟨look_mem0 _ _ _ hl, u, by simp, by simp, rfl⟩
      | succ m =>
        simp only [List.getElem?_cons_succ] at h1 h2; exact shift m v' e' sz c h1 h2
    · have hL : ownList (ownT own c0 (t :: ts)) (v :: cs) = ownList (ownT own (c0 + 1) ts) cs := by
        cases t with
        | sl u =>
          have hn : look own c0 = none := by
            cases hl : look own c0 with
            | none => rfl
            | some e => exact absurd ⟨e, u, hl, rfl⟩ hx
          simp only [ownT, hn, ownList]
        | _ => simp only [ownT, ownList]
      rw [hL]; exact ⟨pos, p1, p2, hlt, shift⟩

def openAS (α : AS) (nb nt n : Nat) (row : List SC) (k : Nat) (x : A) : AS :=
  { α with box := fun γ => if γ = nb then some row else α.box γ, known := fun m => α.known m ∨ (nt ≤ m ∧ m < nt + n), live := fun m => α.live m ∨ (nt ≤ m ∧ m < nt + n), out := fun k' => if k' = k then some (x, nb) else α.out k' }

open Classical in
theorem RelG.open [Arn] (h : RelG B ρ α a bs w g) {k j nb nt i : Nat} {T : ArT} {x x0 : A} {xs : List T.t.den} {y : T.t.den}
    (har : α.ar k = some (T, x0)) (hx0 : x0.ev ρ = some ⟨.sl T.t, xs⟩) (hx : x.ev ρ = some ⟨.ref k, some j⟩) (hy : xs[j]? = some y) (hout : α.out k = none) (hk : k % 2 = 0)
    (hnb : α.box nb = none) (hnt : ∀ m, nt ≤ m → ¬ α.known m) (hi : ∀ m d, (split T.t y)[m]? = some d → nth ρ (i + m) = some d) :
    ∃ g', RelG B ρ (openAS α nb nt (nOwn (ownT T.own 0 T.t.cells)) (resCells i nt (ownT T.own 0 T.t.cells)) k x) a bs w g' := by
  have hB := h.hl.b0
  obtain ⟨xs', e1, e2, e3⟩ := (h.hl.ar.ars k T x0 har).ex
  have exs : xs' = xs := by
    rw [hx0] at e1; simp only [oi, D.mk.injEq, heq_eq_eq, true_and] at e1; exact e1.symm
  subst exs; obtain ⟨b, hb, hob⟩ := e3 j y hy; have hO : ObjAt g w k j T b y := by
    rcases hob with ⟨xv, β, q, _⟩ | hO
    · rw [hout] at q; cases q
    · exact hO
  obtain ⟨hbow, hnp, hat⟩ := hO; obtain ⟨cs, el, hcs, hrep, hroom⟩ : ∃ cs el, w.heap[b]? = some (.cells cs el (0, 0)) ∧ Rep g.p w T.t cs.toList y ∧ ∀ c e, (c, e) ∈ T.own → ∃ v t, cs.toList[c]? = some v ∧ T.t.cells[c]? = some t ∧ Room g w k j c e (slw t) v := by
    rcases hat with ⟨_, cs, el, q⟩ | ⟨q, _⟩
    · exact ⟨cs, el, q⟩
    · omega
  have hcl : cs.toList.length = T.t.cells.length := by rw [Rep.len _ _ _ hrep, cells_width]
  obtain ⟨pos, p1, p2, p3, p4⟩ := ownT_list T.own T.t.cells 0 cs.toList hcl; generalize hl : ownT T.own 0 T.t.cells = l at *
  have hl1 : l.map (·.1) = T.t.cells := by rw [← hl]; exact ownT_fst _ _ _
  have hll : l.length = T.t.cells.length := by rw [← hl1, List.length_map]
  let L := ownList l cs.toList
  have hol : L.length = nOwn l := ownList_len l cs.toList (by rw [hcl, hll])
  have hL : ∀ (m : Nat) (v : Value) (e : TypeId) (sz : Nat), L[m]? = some (v, e, sz) → ∃ c, pos[m]? = some c ∧ ∃ n ys, w.ownsRow 0 e sz v n ys ∧ ∀ b', v.ownBlock = some b' → g.ow b' = some (.obl k j c) ∧ ∀ o, n * sz ≤ o → ¬ g.p b' o := by
    intro m v e sz hm; have hml : m < pos.length := by rw [p1]; exact (List.getElem?_eq_some_iff.1 hm).1
    refine ⟨pos[m], List.getElem?_eq_getElem hml, ?_⟩
    obtain ⟨q1, t, q2, q3, rfl⟩ := p4 m v e sz _ hm (List.getElem?_eq_getElem hml)
    obtain ⟨v', t', r1, r2, n, ys, r3, r4⟩ := hroom _ _ q1; simp only [Nat.sub_zero] at q2 q3; rw [q2] at r1; rw [q3] at r2; simp only [oi] at r1 r2; subst r1; subst r2; exact ⟨n, ys, r3, r4⟩
  have hdis : ∀ (m m' : Nat) (x x' : Value × TypeId × Nat) (b' : Nat), L[m]? = some x → L[m']? = some x' → x.1.ownBlock = some b' → x'.1.ownBlock = some b' → m = m' := by
    rintro m m' ⟨v, e, sz⟩ ⟨v', e', sz'⟩ b' h1 h2 h3 h4
    obtain ⟨c, c1, _, _, _, c2⟩ := hL m v e sz h1; obtain ⟨c', c1', _, _, _, c2'⟩ := hL m' v' e' sz' h2; have d1 := (c2 b' h3).1
    have d2 := (c2' b' h4).1
    rw [d1] at d2; simp only [oi, Res.obl.injEq, true_and] at d2; subst d2; obtain ⟨z1, z2⟩ := List.getElem?_eq_some_iff.1 c1
    obtain ⟨z3, z4⟩ := List.getElem?_eq_some_iff.1 c1'
    rcases Nat.lt_trichotomy m m' with hlt | he | hgt
    · have := List.pairwise_iff_getElem.1 p2 m m' z1 z3 hlt; omega
    · exact he
    · have := List.pairwise_iff_getElem.1 p2 m' m z3 z1 hgt; omega
  let g' : G := { g with
    θ := fun γ => if γ = nb then b else g.θ γ
    T := fun m => if nt ≤ m then ((L[m - nt]?).map (·.1)).getD (g.T m) else g.T m
    te := fun m => if nt ≤ m then ((L[m - nt]?).map (·.2.1)).getD (g.te m) else g.te m
    tw := fun m => if nt ≤ m then ((L[m - nt]?).map (·.2.2)).getD (g.tw m) else g.tw m
    ow := fun b' => if b' = b then some (.box nb) else if hx : ∃ (m : Nat) (x : Value × TypeId × Nat), L[m]? = some x ∧ x.1.ownBlock = some b' then some (.tok (nt + hx.choose)) else g.ow b' }
  have htok : ∀ (m : Nat) (v : Value) (e : TypeId) (sz : Nat), L[m]? = some (v, e, sz) → g'.T (nt + m) = v ∧ g'.te (nt + m) = e ∧ g'.tw (nt + m) = sz := by
    intro m v e sz hm; simp only [g', Nat.le_add_right, if_true, Nat.add_sub_cancel_left, hm]; exact ⟨rfl, rfl, rfl⟩
  have hold : ∀ m, α.known m → g'.T m = g.T m ∧ g'.te m = g.te m ∧ g'.tw m = g.tw m := by
    intro m hm; have hle : ¬ nt ≤ m := fun hle => hnt m hle hm
    simp [g', hle]
  have hθ : ∀ γ, γ ≠ nb → g'.θ γ = g.θ γ := fun γ hγ => by simp [g', hγ]
  have hθ0 : g'.θ nb = b := by simp [g']
  have how0 : g'.ow b = some (.box nb) := by simp [g']
  have hnob : ¬ ∃ (m : Nat) (x : Value × TypeId × Nat), L[m]? = some x ∧ x.1.ownBlock = some b := by
    rintro ⟨m, ⟨v, e, sz⟩, h1, h2⟩
    obtain ⟨c, _, _, _, _, c2⟩ := hL m v e sz h1; have := (c2 b h2).1
    rw [hbow] at this; cases this
  have how : ∀ b' r, g.ow b' = some r → (∀ c, r ≠ .obl k j c) → r ≠ .obj k j → g'.ow b' = some r := by
    intro b' r hr h1 h2; have n1 : b' ≠ b := by rintro rfl; rw [hbow] at hr; simp only [oi] at hr; exact h2 hr.symm
    have n2 : ¬ ∃ (m : Nat) (x : Value × TypeId × Nat), L[m]? = some x ∧ x.1.ownBlock = some b' := by
      rintro ⟨m, ⟨v, e, sz⟩, z1, z2⟩
      obtain ⟨c, _, _, _, _, c2⟩ := hL m v e sz z1; have := (c2 b' z2).1
      rw [hr] at this; simp only [oi] at this; exact h1 c this
    simp only [g', if_neg n1, dif_neg n2]; exact hr
  have hback : ∀ b' r, g'.ow b' = some r → ∃ r', g.ow b' = some r' := by
    intro b' r hr; simp only [g'] at hr; split at hr
    · rename_i e; subst e; exact ⟨_, hbow⟩
    · split at hr
      · rename_i hx; obtain ⟨⟨v, e, sz⟩, z1, z2⟩ := hx.choose_spec; obtain ⟨c, _, _, _, _, c2⟩ := hL _ v e sz z1; exact ⟨_, (c2 b' z2).1⟩
      · exact ⟨r, hr⟩
  generalize hα' : openAS α nb nt (nOwn l) (resCells i nt l) k x = α'
  have hbx : ∀ γ, γ ≠ nb → α'.box γ = α.box γ := fun γ hγ => by subst hα'; simp [openAS, hγ]
  have hle : LeC ρ α g w ρ α' g' w := by
    refine ⟨fun _ _ h => h, fun γ row hr => ?_, fun m hm => ⟨by subst hα'; exact .inl hm, hold m hm⟩, fun b o hp => ⟨hp, rfl⟩, fun _ _ _ h => h⟩
    have : γ ≠ nb := by rintro rfl; rw [hnb] at hr; cases hr
    exact ⟨⟨row, by rw [hbx γ this]; exact hr⟩, hθ γ this⟩
  have hnew : ∀ (m : Nat) (v : Value) (e : TypeId) (sz : Nat), L[m]? = some (v, e, sz) → α'.known (nt + m) ∧ g'.T (nt + m) = v ∧ g'.te (nt + m) = e ∧ g'.tw (nt + m) = sz := by
    intro m v e sz hm; refine ⟨?_, htok m v e sz hm⟩
    subst hα'; have := (List.getElem?_eq_some_iff.1 hm).1
    exact .inr ⟨Nat.le_add_right _ _, by omega⟩
  have hrow : All2 (SCRep ρ α' g' w) (resCells i nt l) cs.toList :=
    resCells_rep (ρ := ρ) (α := α') (g := g') (w := w) l i nt (split T.t y) cs.toList (by rw [split_tys, hl1]) (split_repD _ _ _ hrep) hi hnew
  refine ⟨g', ?_⟩
  refine { nodef := h.nodef, sz := by subst hα'; exact h.sz, slot := fun m => ?_, saved := ?_, box := fun γ row hr => ?_, live := fun m hm => ?_, pwf := h.pwf, bel := h.bel, hB := h.hB, dk := fun m z hz => ?_, hl := ?_ }
  · have := (h.slot m).mono hle
    subst hα'; exact this
  · have hsv : α'.saved = α.saved := by subst hα'; rfl
    rw [hsv]; exact Forall2.mono (fun _ _ ⟨h1, h2, h3⟩ => ⟨h1, h2, fun i => (h3 i).mono hle⟩) h.saved
  · by_cases e : γ = nb
    · subst e; have hr' : row = resCells i nt l := by
        subst hα'; simp only [openAS, if_true, oi] at hr; exact hr.symm
      subst hr'; exact ⟨by rw [hB]; exact Nat.zero_le _, by rw [hθ0]; exact how0, by rw [hθ0]; exact hnp, cs, el, by rw [hθ0]; exact hcs, hrow⟩
    · rw [hbx γ e] at hr; have hbo := h.box γ row hr
      exact RelG.BoxOk_mono hle hbo (hθ γ e) ((how _ _ hbo.ow (by simp) (by simp)).trans hbo.ow.symm) hbo.np rfl
  · have hm' : α.live m ∨ (nt ≤ m ∧ m < nt + nOwn l) := by subst hα'; exact hm
    rcases hm' with hm' | ⟨h1, h2⟩
    · obtain ⟨h1, n, ys, h2, h3, hdy⟩ := h.live m hm'; obtain ⟨z1, z2, z3⟩ := hold m h1; refine ⟨by subst hα'; exact .inl h1, n, ys, by rw [z1, z2, z3]; exact h2, ?_, hdy.mono hle.mem hle.ad (fun _ _ h => h) (fun z hz => by subst hα'; exact hz) z1 z2 z3 (fun _ _ h => h)⟩
      rw [z1, z3]; intro b' hb'; obtain ⟨h4, h5⟩ := h3 b' hb'; exact ⟨how _ _ h4 (by simp) (by simp), h5⟩
    · have hjl : m - nt < L.length := by omega
      obtain ⟨⟨v, e, sz⟩, hj⟩ : ∃ x, L[m - nt]? = some x := ⟨_, List.getElem?_eq_getElem hjl⟩
      obtain ⟨z0, z1, z2, z3⟩ := hnew _ _ _ _ hj; rw [show nt + (m - nt) = m by omega] at z0 z1 z2 z3; obtain ⟨c, c1, n, ys, c2, c3⟩ := hL _ _ _ _ hj; refine ⟨z0, n, ys, by rw [z1, z2, z3, hB]; exact c2, ?_, fun z hz => ?_⟩
      · rw [z1, z3]; intro b' hb'; obtain ⟨f1, f2⟩ := c3 b' hb'; refine ⟨?_, f2⟩
        have n1 : b' ≠ b := by rintro rfl; rw [hbow] at f1; cases f1
        have hx : ∃ (m : Nat) (x : Value × TypeId × Nat), L[m]? = some x ∧ x.1.ownBlock = some b' := ⟨_, _, hj, hb'⟩
        simp only [g', if_neg n1, dif_pos hx, oi, Res.tok.injEq]; obtain ⟨x', hx1, hx2⟩ := hx.choose_spec; have := hdis _ _ _ _ b' hx1 hj hx2 hb'
        omega
      · have hz' : α.dyn m = some z := by subst hα'; exact hz
        exact absurd (h.dk m z hz') (hnt m h1)
  · have hz' : α.dyn m = some z := by subst hα'; exact hz
    subst hα'; exact .inl (h.dk m z hz')
  · have hao : ∀ k', α'.out k' = if k' = k then some (x, nb) else α.out k' := fun k' => by subst hα'; rfl
    have haa : α'.ar = α.ar := by subst hα'; rfl
    refine { b0 := h.hl.b0, om := fun b' r hr => ?_, owb := fun b' r hr => ?_, fr := h.hl.fr, p0m := h.hl.p0m, adm := h.hl.adm, adf := h.hl.adf, ark := fun k' z hz => h.hl.ark k' z (by rw [← haa]; exact hz), ar := ⟨fun k' T' x' hk' => ?_, fun k' xv γ hk' => ?_⟩ }
    · obtain ⟨r', h1⟩ := hback b' r hr; exact h.hl.om b' r' h1
    · obtain ⟨r', h1⟩ := hback b' r hr; exact h.hl.owb b' r' h1
    · rw [haa] at hk'; obtain ⟨zs, f1, f2, f3⟩ := (h.hl.ar.ars k' T' x' hk').ex
      refine ⟨zs, f1, f2, fun j' y' hy' => ?_⟩
      obtain ⟨b', q1, q2⟩ := f3 j' y' hy'; by_cases ek : k' = k
      · subst ek; by_cases ej : j' = j
        · subst ej; refine ⟨b, hb, .inl ⟨x, nb, by rw [hao, if_pos rfl], hx, hθ0.symm⟩⟩
        · refine ⟨b', q1, .inr ?_⟩
          rcases q2 with ⟨xv, β, z, _⟩ | q2
          · rw [hout] at z; cases z
          · exact q2.relab1 (fun b'' hb'' => how _ _ hb'' (by simp) (by simp only [ne_eq, Res.obj.injEq, true_and]; exact ej)) (fun b'' c hb'' => how _ _ hb'' (fun c' => by simp only [ne_eq, Res.obl.injEq, true_and, not_and]; exact fun z => absurd z ej) (by simp)) (fun _ _ => Iff.rfl) (fun _ _ _ h => h)
      · refine ⟨b', q1, q2.imp ?_ ?_⟩
        · rintro ⟨xv, β, z1, z2, z3⟩
          obtain ⟨⟨row, z4⟩, _⟩ := h.hl.ar.outs k' xv β z1; have : β ≠ nb := by rintro rfl; rw [hnb] at z4; cases z4
          exact ⟨xv, β, by rw [hao, if_neg ek]; exact z1, z2, by rw [hθ β this]; exact z3⟩
        · intro q2; exact q2.relab1 (fun b'' hb'' => how _ _ hb'' (by simp) (by simp only [ne_eq, Res.obj.injEq, not_and]; exact fun z => absurd z ek)) (fun b'' c hb'' => how _ _ hb'' (fun c' => by simp only [ne_eq, Res.obl.injEq, not_and]; exact fun z => absurd z ek) (by simp)) (fun _ _ => Iff.rfl) (fun _ _ _ h => h)
    · rw [hao] at hk'; split at hk'
      · rename_i ek; subst ek; simp only [oi, Prod.mk.injEq] at hk'; obtain ⟨rfl, rfl⟩ := hk'; refine ⟨⟨resCells i nt l, by subst hα'; simp [openAS]⟩, j, hx, by rw [hθ0]; exact hb, fun b' hb' => ?_⟩
        rw [hθ0]; exact (e2 j b hb).2 b' hb'
      · rename_i ek; obtain ⟨⟨row, z4⟩, z5⟩ := h.hl.ar.outs k' xv γ hk'; have : γ ≠ nb := by rintro rfl; rw [hnb] at z4; cases z4
        exact ⟨⟨row, by rw [hbx γ this]; exact z4⟩, by rw [hθ γ this]; exact z5⟩

structure Shut (α : AS) (row : List SC) (oL : List (Nat × TypeId)) (tk : List Nat) : Prop where
  own : ∀ c e, (c, e) ∈ oL → (∃ i k' t, row[c]? = some (.own i k' t e) ∧ α.live k' ∧ k' ∈ tk) ∨ ∃ t e', row[c]? = some (.nl t e')
  one : ∀ (c1 c2 : Nat) (e1 e2 : TypeId) (i1 i2 : Nat) (t1 t2 : Ty) (k' : Nat), (c1, e1) ∈ oL → (c2, e2) ∈ oL → row[c1]? = some (.own i1 k' t1 e1) → row[c2]? = some (.own i2 k' t2 e2) → c1 = c2

theorem args_get [Arn] : ∀ (cs : List SC) (xs : List A) (ts : List Ty), args cs = some (xs, ts) → ∀ (c : Nat) (s : SC), cs[c]? = some s → ∃ x t, s.arg = some (x, t) ∧ ts[c]? = some t
  | [], xs, ts, h, c, s, hs => by simp at hs
  | d :: cs, xs, ts, h, c, s, hs => by
    simp only [args] at h; split at h
    · rename_i x t xs' ts' h1 h2; simp only [oi, Prod.mk.injEq] at h; obtain ⟨rfl, rfl⟩ := h; cases c with
      | zero =>
        simp only [List.getElem?_cons_zero, oi] at hs; subst hs; exact ⟨x, t, h1, rfl⟩
      | succ c =>
        obtain ⟨x', t', k1, k2⟩ := args_get cs _ _ h2 c s (by simpa using hs)
        exact ⟨x', t', k1, by simpa using k2⟩
    · cases h

open Classical in
theorem RelG.shut [Arn] (h : RelG B ρ α a bs w g) {β k j : Nat} {x x0 xn : A} {T : ArT} {row : List SC} {ax : List A} {tk : List Nat} {bx : Nat → Option (List SC)} {y : T.t.den} {xs ys : List T.t.den}
    {ad' : Nat → Nat → Nat → Prop} {ou : Nat → Option (A × Nat)} (hβ : α.box β = some row) (hk : k % 2 = 0) (har : α.ar k = some (T, x0)) (hx0 : x0.ev ρ = some ⟨.sl T.t, xs⟩) (hxn : xn.ev ρ = some ⟨.sl T.t, ys⟩) (hx : x.ev ρ = some ⟨.ref k, some j⟩)
    (hrep : ∀ cs el, w.heap[g.θ β]? = some (.cells cs el (0, 0)) → All2 (SCRep ρ α g w) row cs.toList → Rep g.p w T.t cs.toList y) (hargs : args row = some (ax, T.t.cells)) (hsh : Shut α row T.own tk)
    (had : ∀ k' j' b, ad' k' j' b ↔ g.p.ad k' j' b ∨ (k' = k ∧ j' = j ∧ b = g.θ β)) (hadj : ∀ b, g.p.ad k j b → b = g.θ β)
    (hyj : ys[j]? = some y) (hyl : xs.length ≤ ys.length) (hyo : ∀ j', j' ≠ j → ys[j']? = xs[j']?)
    (hou1 : ∀ k' xv γ, ou k' = some (xv, γ) → α.out k' = some (xv, γ) ∧ γ ≠ β) (hou2 : ∀ k' xv γ, α.out k' = some (xv, γ) → ou k' = some (xv, γ) ∨ (k' = k ∧ xv.ev ρ = some ⟨.ref k, some j⟩))
    (b2 : bx β = none) (b3 : ∀ γ r', γ ≠ β → bx γ = some r' → ∃ r, α.box γ = some r ∧ frbL β x (.ref k) r = some r') (b4 : ∀ γ r, γ ≠ β → α.box γ = some r → ∃ r', bx γ = some r') :
    ∃ g', RelG B ρ (subAS α β x (.ref k) bx (fun m => α.live m ∧ m ∉ tk) (fun k' => if k' = k then some (T, xn) else α.ar k') ou) a bs w g' := by
  have hB := h.hl.b0
  have hb := h.box β row hβ
  obtain ⟨cs0, el0, hh0, hc0⟩ := hb.cells; have hy := hrep cs0 el0 hh0 hc0
  let g' : G := { g with
    p := ⟨g.p.c, ad'⟩
    ow := fun b => if b = g.θ β then some (.obj k j) else if hx : ∃ (c : Nat) (e : TypeId) (i : Nat) (t : Ty) (k' : Nat), (c, e) ∈ T.own ∧ row[c]? = some (.own i k' t e) ∧ g.ow b = some (.tok k') then some (.obl k j hx.choose) else g.ow b }
  have hadm : ∀ k' j' b, g.p.ad k' j' b → g'.p.ad k' j' b := fun k' j' b hp => (had k' j' b).2 (.inl hp)
  have hle : LeC ρ α g w ρ α g' w := ⟨fun _ _ h => h, fun γ row hb => ⟨⟨row, hb⟩, rfl⟩, fun j hj => ⟨hj, rfl, rfl, rfl⟩, fun b o hp => ⟨hp, rfl⟩, hadm⟩
  have hin : ∀ c e i t k', (c, e) ∈ T.own → row[c]? = some (.own i k' t e) → k' ∈ tk ∧ α.live k' := by
    intro c e i t k' h1 h2; rcases hsh.own c e h1 with ⟨i', k'', t', z1, z2, z3⟩ | ⟨t', e', z1⟩
    · rw [h2] at z1; simp only [oi, SC.own.injEq] at z1; obtain ⟨_, rfl, _⟩ := z1; exact ⟨z3, z2⟩
    · rw [h2] at z1; simp at z1
  have how : ∀ b r, g.ow b = some r → r ≠ .box β → (∀ m, m ∈ tk → r ≠ .tok m) → g'.ow b = some r := by
    intro b r hr h1 h2; have n1 : b ≠ g.θ β := by rintro rfl; rw [hb.ow] at hr; simp only [oi] at hr; exact h1 hr.symm
    have n2 : ¬ ∃ (c : Nat) (e : TypeId) (i : Nat) (t : Ty) (k' : Nat), (c, e) ∈ T.own ∧ row[c]? = some (.own i k' t e) ∧ g.ow b = some (.tok k') := by
      rintro ⟨c, e, i, t, k', z1, z2, z3⟩
      rw [hr] at z3; simp only [oi] at z3; exact h2 k' (hin c e i t k' z1 z2).1 z3
    simp only [g', if_neg n1, dif_neg n2]; exact hr
  have hback : ∀ b r, g'.ow b = some r → ∃ r', g.ow b = some r' := by
    intro b r hr; simp only [g'] at hr; split at hr
    · rename_i e; subst e; exact ⟨_, hb.ow⟩
    · split at hr
      · rename_i hx; obtain ⟨e, i, t, k', z1, z2, z3⟩ := hx.choose_spec; exact ⟨_, z3⟩
      · exact ⟨r, hr⟩
  have how0 : g'.ow (g.θ β) = some (.obj k j) := by simp [g']
  have hroom : ∀ c e, (c, e) ∈ T.own → ∃ v t, cs0.toList[c]? = some v ∧ T.t.cells[c]? = some t ∧ Room g' w k j c e (slw t) v := by
    intro c e hce; rcases hsh.own c e hce with ⟨i, k', t, z1, z2, z3⟩ | ⟨t, e', z1⟩
    · obtain ⟨v, v1, v2⟩ := hc0.get c _ z1; obtain ⟨_, t', q1, q2⟩ := args_get _ _ _ hargs c _ z1; simp only [SC.arg, oi, Prod.mk.injEq] at q1; obtain ⟨_, rfl⟩ := q1; obtain ⟨zs, _, _, _, y1, y2, y3⟩ := v2; obtain ⟨_, n, us, u1, u2, _⟩ := h.live k' z2; rw [← y1, y2, y3, hB] at u1; rw [← y1, y3] at u2; refine ⟨v, _, v1, q2, n, us, u1, fun b' hb' => ?_⟩
      obtain ⟨w1, w2⟩ := u2 b' hb'; refine ⟨?_, w2⟩
      have n1 : b' ≠ g.θ β := by rintro rfl; rw [hb.ow] at w1; cases w1
      have hx : ∃ (c : Nat) (e : TypeId) (i : Nat) (t : Ty) (k' : Nat), (c, e) ∈ T.own ∧ row[c]? = some (.own i k' t e) ∧ g.ow b' = some (.tok k') := ⟨c, e, i, t, k', hce, z1, w1⟩
      simp only [g', if_neg n1, dif_pos hx, oi, Res.obl.injEq, true_and]; obtain ⟨e2, i2, t2, k2, m1, m2, m3⟩ := hx.choose_spec; rw [w1] at m3; simp only [oi, Res.tok.injEq] at m3; subst m3; exact hsh.one _ _ _ _ _ _ _ _ _ m1 hce m2 z1
    · obtain ⟨v, v1, v2⟩ := hc0.get c _ z1; obtain ⟨_, t', q1, q2⟩ := args_get _ _ _ hargs c _ z1; have hv : v = .slice none 0 0 := v2
      subst hv; exact ⟨_, t', v1, q2, 0, [], World.ownsRow_nil _ _ _ _, fun b' hb' => by cases hb'⟩
  have hrepm : ∀ (t : Ty) (vs : List Value) (x : t.den), Rep g.p w t vs x → Rep g'.p w t vs x := fun t vs x hr => Rep.mono hle.mem hle.ad t vs x hr
  have hobj : ∀ {k' j' : Nat} {T' : ArT} {b : Nat} {y' : T'.t.den}, ObjAt g w k' j' T' b y' → ObjAt g' w k' j' T' b y' := fun hO =>
    hO.relab1 (fun b hb' => how _ _ hb' (by simp) (by simp)) (fun b c hb' => how _ _ hb' (by simp) (by simp)) (fun _ _ => Iff.rfl) hrepm
  obtain ⟨xs', e1, e2, e3⟩ := (h.hl.ar.ars k T x0 har).ex
  have exs : xs' = xs := by
    rw [hx0] at e1; simp only [oi, D.mk.injEq, heq_eq_eq, true_and] at e1; exact e1.symm
  subst exs; refine ⟨g', h.sub hle rfl ⟨⟨.ref k, some j⟩, hx, rfl, .inr ⟨g.θ β, j, by simp [refVal, hk]; rfl, rfl, (had _ _ _).2 (.inr ⟨rfl, rfl, rfl⟩)⟩⟩ b2 b3 b4 (fun γ r e1 k1 => ?_) (fun m hm => ⟨hm.1, ?_⟩) h.pwf ?_⟩
  · have hbo := h.box γ r k1
    exact ⟨how _ _ hbo.ow (by simp only [ne_eq, Res.box.injEq]; exact e1) (by simp), hbo.np⟩
  · obtain ⟨n, zs, h1, h2, h3⟩ := (h.live m hm.1).2
    exact ⟨n, zs, h1, fun b hb' => ⟨how _ _ (h2 b hb').1 (by simp) (fun m' hm' => by simp only [ne_eq, Res.tok.injEq]; rintro rfl; exact hm.2 hm'), (h2 b hb').2⟩, h3.mono hle.mem hle.ad (fun _ _ h => h) (fun _ h => h) rfl rfl rfl (fun _ _ h => h)⟩
  · refine { b0 := h.hl.b0, om := fun b r hr => ?_, owb := fun b r hr => ?_, fr := h.hl.fr, p0m := h.hl.p0m, adm := fun k' j' b hp => hadm _ _ _ (h.hl.adm k' j' b hp), adf := fun k' j' b hks hp => ?_, ark := fun k' z hz => ?_, ar := ⟨fun k' T' x' hk' => ?_, fun k' xv γ hk' => ?_⟩ }
    · obtain ⟨r', h1⟩ := hback b r hr; exact h.hl.om b r' h1
    · obtain ⟨r', h1⟩ := hback b r hr; exact h.hl.owb b r' h1
    · rcases (had k' j' b).1 hp with hp | ⟨rfl, _⟩
      · exact h.hl.adf k' j' b hks hp
      · exact absurd (h.hl.ark _ _ har) hks
    · have hz' : (if k' = k then some (T, xn) else α.ar k') = some z := hz
      split at hz'
      · rename_i e; subst e; exact h.hl.ark _ _ har
      · exact h.hl.ark _ _ hz'
    · have hk2 : (if k' = k then some (T, xn) else α.ar k') = some (T', x') := hk'
      split at hk2
      · rename_i e; subst e; simp only [oi, Prod.mk.injEq] at hk2; obtain ⟨rfl, rfl⟩ := hk2; refine ⟨ys, hxn, fun j' b hp => ?_, fun j' y' hy' => ?_⟩
        · have hjl : j < ys.length := (List.getElem?_eq_some_iff.1 hyj).1
          rcases (had _ j' b).1 hp with hp2 | ⟨_, rfl, rfl⟩
          · refine ⟨Nat.lt_of_lt_of_le (e2 j' b hp2).1 hyl, fun b' hb' => ?_⟩
            rcases (had _ j' b').1 hb' with hb2 | ⟨_, rfl, rfl⟩
            · exact (e2 j' b hp2).2 b' hb2
            · exact (hadj b hp2).symm
          · refine ⟨hjl, fun b' hb' => ?_⟩
            rcases (had _ j' b').1 hb' with hb' | ⟨_, _, rfl⟩
            · exact hadj b' hb'
            · rfl
        · by_cases ej : j' = j
          · subst ej; rw [hyj] at hy'; simp only [oi] at hy'; subst hy'; exact ⟨g.θ β, (had _ _ _).2 (.inr ⟨rfl, rfl, rfl⟩), .inr ⟨how0, hb.np, .inl ⟨hk, cs0, el0, hh0, hrepm _ _ _ hy, hroom⟩⟩⟩
          · rw [hyo j' ej] at hy'; obtain ⟨b, q1, q2⟩ := e3 j' y' hy'; refine ⟨b, hadm _ _ _ q1, q2.imp ?_ hobj⟩
            rintro ⟨xv, γ, z1, z2, z3⟩
            rcases hou2 _ xv γ z1 with z | ⟨_, z⟩
            · exact ⟨xv, γ, z, z2, z3⟩
            · rw [z2] at z; simp only [oi, D.mk.injEq, heq_eq_eq, true_and] at z; exact absurd z ej
      · rename_i e; obtain ⟨zs, f1, f2, f3⟩ := (h.hl.ar.ars k' T' x' hk2).ex
        have hadk : ∀ j' b, g'.p.ad k' j' b → g.p.ad k' j' b := fun j' b hp => by
          rcases (had k' j' b).1 hp with hp | ⟨rfl, _⟩
          · exact hp
          · exact absurd rfl e
        refine ⟨zs, f1, fun j' b hp => ⟨(f2 j' b (hadk j' b hp)).1, fun b' hb' => (f2 j' b (hadk j' b hp)).2 b' (hadk j' b' hb')⟩, fun j' y' hy' => ?_⟩
        obtain ⟨b, q1, q2⟩ := f3 j' y' hy'; refine ⟨b, hadm _ _ _ q1, q2.imp ?_ hobj⟩
        rintro ⟨xv, γ, z1, z2, z3⟩
        rcases hou2 _ xv γ z1 with z | ⟨rfl, _⟩
        · exact ⟨xv, γ, z, z2, z3⟩
        · exact absurd rfl e
    · obtain ⟨z1, z2⟩ := hou1 k' xv γ hk'; obtain ⟨⟨r0, z4⟩, j', z5, z6, z7⟩ := h.hl.ar.outs k' xv γ z1; refine ⟨b4 γ r0 z2 z4, j', z5, hadm _ _ _ z6, fun b hp => ?_⟩
      rcases (had k' j' b).1 hp with hp | ⟨rfl, rfl, rfl⟩
      · exact z7 b hp
      · exact (hadj _ z6).symm
end
end Go.Proofs.Ytmglkddddpipgaa.Sx

namespace Go.Proofs.Ytmglkddddpipgaa.Sx
open Go.RowKit

section
variable {P : Program} {B : Base} {ρ : List D} {st : SS} {o : Oper} {α : AS} {a : Act} {bs : List Act} {w : World} {g : G} {Φ : Nat → Cont}

theorem RelG.appDyn [Arn] (h : RelG B ρ α a bs w g) {w' : World} {j k i n' : Nat} {v' : Value} {e : TypeId} {t : Ty} {xs' : List Value} {ys : List t.den}
    (hf : ¬ α.known k) (hj : α.live j) (hg : w.grownBy w' (g.T j).ownBlock) (hnp : ∀ b, (g.T j).ownBlock = some b → ∀ o, ¬ g.p b o)
    (hv : ∀ b, v'.ownBlock = some b → (g.T j).ownBlock = some b ∨ w.heap.size ≤ b)
    (ho' : w'.ownsRow B.B0 e t.width v' n' xs') (hn : nth ρ i = some ⟨.sl t, ys⟩) (hl : ys.length = n') (hfl : Flats g.p w t xs' ys) :
    ∃ g', RelG B ρ (dynAS α (some j) k (i, t, e)) a bs w' g' ∧ LeC ρ α g w ρ (dynAS α (some j) k (i, t, e)) g' w' ∧ g'.T k = v' := by
  let g' : G := { g with
    T := fun m => if m = k then v' else g.T m
    te := fun m => if m = k then e else g.te m
    tw := fun m => if m = k then t.width else g.tw m
    ow := fun b => if v'.ownBlock = some b then some (.tok k) else g.ow b }
  have hB : B.B0 ≤ w.heap.size := Nat.le_trans h.hB h.bel.size
  obtain ⟨_, nj, xj, j2, j3, _⟩ := h.live j hj; have hblk : ∀ b, v'.ownBlock = some b → (w.heap.size ≤ b ∨ g.ow b = some (.tok j)) ∧ ∀ o, ¬ g.p b o := by
    intro b hb; rcases hv b hb with h1 | h1
    · exact ⟨.inr (j3 b h1).1, hnp b h1⟩
    · exact ⟨.inl h1, fun o hp => by have := h.pwf b o hp; omega⟩
  have hnej : ∀ b r, g.ow b = some r → r ≠ .tok j → some b ≠ (g.T j).ownBlock := fun b r hr hne e => by
    have := (j3 b e.symm).1
    rw [hr] at this; exact hne (by simpa using this)
  have hcell : ∀ b o, g.p b o → w'.cell? ⟨b, o, none⟩ = w.cell? ⟨b, o, none⟩ := fun b o hp => World.cell?_of_block (hg.block b (h.pwf b o hp) (fun e => hnp b e.symm o hp))
  have hle : LeC ρ α g w ρ (dynAS α (some j) k (i, t, e)) g' w' := by
    refine ⟨fun _ _ h => h, fun β row hb => ⟨⟨row, hb⟩, rfl⟩, fun m hm => ?_, fun b o hp => ⟨hp, hcell b o hp⟩, fun _ _ _ h => h⟩
    have hne : m ≠ k := fun e => hf (e ▸ hm)
    exact ⟨.inl hm, by simp [g', hne], by simp [g', hne], by simp [g', hne]⟩
  have hother : ∀ b r, g.ow b = some r → b < w.heap.size → r ≠ .tok j → v'.ownBlock ≠ some b := by
    intro b r hr hlt hrk hvb; rcases (hblk b hvb).1 with h1 | h1
    · omega
    · rw [hr] at h1; exact hrk (by simpa using h1)
  have hobj : ∀ b r, g.ow b = some r → r.isObj → g'.ow b = some r ∧ w'.heap[b]? = w.heap[b]? ∧ ∀ o, g'.p b o → g.p b o := fun b r hr ho => by
    have hlt := h.hl.owb b r hr
    have hnt : r ≠ .tok j := fun e => by subst e; exact ho
    have h2 := hother b r hr hlt hnt
    exact ⟨by simp only [g', if_neg h2]; exact hr, hg.block b hlt (hnej b r hr hnt), fun _ h => h⟩
  refine ⟨g', h.world hle rfl rfl rfl ?_ ?_ ?_ (h.bel.grown hg hB fun b hb => (j2.lt b hb).1) ?_ rfl rfl rfl (fun b hlt hno => ⟨hg.block b hlt (fun e => hno _ (j3 b e.symm).1), fun _ => Iff.rfl⟩) (fun b r hr => ?_) hobj, hle, by simp [g']⟩
  rotate_right 1
  · simp only [g'] at hr; split at hr
    · rename_i e; refine ⟨(ho'.lt b e).2, ?_⟩
      rcases (hblk b e).1 with h1 | h1
      · exact .inr h1
      · exact .inl ⟨_, h1⟩
    · exact ⟨Nat.lt_of_lt_of_le (h.hl.owb b r hr) hg.size, .inl ⟨r, hr⟩⟩
  · intro β row hb; have hbo := h.box β row hb
    obtain ⟨cs, el, h4, _⟩ := hbo.cells; have h6 := hother _ _ hbo.ow (block_lt h4) (by simp)
    refine RelG.BoxOk_mono hle hbo rfl ?_ hbo.np (hg.block _ (block_lt h4) (hnej _ _ hbo.ow (by simp)))
    simp [g', h6]
  · rintro m (⟨hm, hkill⟩ | rfl)
    · obtain ⟨h1, n1, xs1, h2, h3, hdy⟩ := h.live m hm; have hne : m ≠ k := fun e => hf (e ▸ h1)
      have hmj : (Res.tok m) ≠ .tok j := fun e => hkill (by simp only [Res.tok.injEq] at e; rw [e])
      have hdis : ∀ b, (g.T m).ownBlock = some b → v'.ownBlock ≠ some b := fun b hb => hother b _ (h3 b hb).1 (h2.lt b hb).2 hmj
      refine ⟨.inl h1, n1, xs1, ?_, ?_, ?_⟩
      · simp only [g', if_neg hne]; refine h2.kept hg ?_
        cases hb : (g.T m).ownBlock with
        | none => exact .inl rfl
        | some b => exact .inr (hnej b _ (h3 b hb).1 hmj)
      · simp only [g', if_neg hne]; intro b hb; obtain ⟨h4, h5⟩ := h3 b hb; exact ⟨by rw [if_neg (hdis b hb)]; exact h4, h5⟩
      · refine hdy.mono hle.mem hle.ad (fun _ _ h => h) (fun x hx => ?_) (by simp only [g', if_neg hne]) (by simp only [g', if_neg hne]) (by simp only [g', if_neg hne]) (fun _ _ h => h)
        simpa only [dynAS, if_neg hne, if_neg hkill] using hx
    · refine ⟨.inr rfl, n', xs', by simpa [g'] using ho', ?_, fun x hx => ?_⟩
      · simp only [g', if_true]; intro b hb; exact ⟨by rw [if_pos hb], fun o _ => (hblk b hb).2 o⟩
      · simp only [dynAS, if_true, oi] at hx; subst hx; simp only [g', if_true]; exact ⟨⟨rfl, rfl, ys, hn, hl, hfl.mono hle.mem hle.ad⟩, fun b hb => (hblk b hb).2⟩
  · intro b o hp; exact Nat.lt_of_lt_of_le (h.pwf b o hp) hg.size
  · intro m x hx; simp only [dynAS] at hx ⊢; split at hx
    · rename_i e; exact .inr e
    · split at hx
      · cases hx
      · exact .inl (h.dk m x hx)

structure AppTo (B : Base) (ρ : List D) (α : AS) (g : G) (w : World) (k : Nat) (v : Value) (te : Ty) (e : TypeId) (l : List te.den) (n : Nat) (xc : List Value) : Prop where
  live : α.live k
  tv : g.T k = v
  own : w.ownsRow B.B0 e te.width v n xc
  fl : Flats g.p w te xc l
  len : l.length = n
  np : ∀ b, v.ownBlock = some b → ∀ o, ¬ g.p b o

theorem appD_fin [Arn] (p : Pre P B ρ st o α a bs w g) {t0 t1 e e1 : TypeId} {x y : Operand} {xs : Array Operand} {ts : Array TypeId} {te : Ty} {ay : A} {dy : D} {k : Nat} {z : List SC} {l : List te.den} {n : Nat} {xc : List Value} {ax : A} {q : Pr}
    (ho : o.op = .call { callee := .builtin .append, args := xs, argTypes := ts }) (hxs : xs.toList = [x, y]) (hts : ts.toList = [t0, t1])
    (hu : P.underlying t0 = some (.slice e)) (hu1 : P.underlying t1 = some (.slice e1)) (hw : te.width = sizeT P e) (hpos : 0 < te.width) (hby : bytesT P e ≤ 256) (hz : zeroCells' P e = some z)
    (hX : AppTo B ρ α g w k (a.eval x) te e l n xc) (hax : ax.ev ρ = some ⟨.sl te, l⟩)
    (k1 : ay.ev ρ = some dy) (k2 : dy.t = .sl te) (k3 : RepD g.p w (a.eval y) dy) (hq : q = .app ∨ q = .appd)
    (hf : ¬ α.known st.ntok) (he : EnvOk Φ ρ st.nv q [ax, ay]) :
    Does P o a w (Post B ρ α { dst := o.dst, sv := .one (.dsl st.ntok), kill := some k, nt := 1, nv := 1, dy := [(st.ntok, some (st.nv, te, e)), (k, none)] } st.nb st.ntok bs) := by
  obtain ⟨i, zv, hi, hzv, hzs, hsz, hzl⟩ := zero_size hz; have hisz : i.size = te.width := by omega
  have hib : i.bytes ≤ 256 := by simpa [bytesT, hi] using hby
  have hx' : xs = #[x, y] := by apply Array.ext'; simpa using hxs
  have ht' : ts = #[t0, t1] := by apply Array.ext'; simpa using hts
  subst hx'; subst ht'; have hbase : B.B0 ≤ w.heap.size := Nat.le_trans p.rel.hB p.rel.bel.size
  obtain ⟨ys, rfl, hry⟩ := sl_of k2 k3; obtain ⟨outs, h4, h5⟩ := he.get (evs2 hax k1)
  obtain ⟨hbig, h6⟩ : l.length + ys.length ≤ BIG ∧ nth ρ st.nv = some ⟨.sl te, l ++ ys⟩ := by
    rcases hq with rfl | rfl
    · simp only [evalPr, D.get, dif_pos, Option.ite_none_right_eq_some, oi] at h4; obtain ⟨h7, rfl⟩ := h4; exact ⟨h7, h5 0 _ rfl⟩
    · simp only [evalPr, D.get, dif_pos, Option.ite_none_right_eq_some, oi] at h4; obtain ⟨⟨_, h7⟩, rfl⟩ := h4; exact ⟨h7, h5 0 _ rfl⟩
  obtain ⟨hlive, htv, hown, hfl, hln, hnp⟩ := hX; rw [← hisz] at hown; have fin : ∀ (m : Nat) (yc : List Value), ys.length = m → yc.length = m * i.size → Flats g.p w te yc ys →
      (∀ u ∈ yc, u.oneCell' = true) → (Builtin.lenOf (a.eval y)).run P w = .ok m w → (∀ w', w'.heap = w.heap → (Builtin.firstCells i.size m (a.eval y)).run P w' = .ok yc.toArray w') →
      Does P o a w (Post B ρ α { dst := o.dst, sv := .one (.dsl st.ntok), kill := some k, nt := 1, nv := 1, dy := [(st.ntok, some (st.nv, te, e)), (k, none)] } st.nb st.ntok bs) := by
    intro m yc hym hyl hyr hy1 hlen hfc; have h63 : n + m ≤ maxLen := by unfold BIG at hbig; unfold maxLen; omega
    have hbytes : (n + m) * i.bytes ≤ 140737488355328 := by
      have : (n + m) * i.bytes ≤ 549755813888 * 256 := Nat.mul_le_mul (by unfold BIG at hbig; omega) hib
      omega
    obtain ⟨v', w', hrun, hap⟩ := append_run B.B0 t0 t1 o.type e i zv (.slice e1) hu hu1 (.inr ⟨e1, rfl⟩) hi hzv hzs (a.eval x) n xc hown (a.eval y) m yc hlen hfc hyl hy1 h63 hbytes hbase
    rw [hisz] at hap; obtain ⟨g', h11, h12, h13⟩ := p.rel.appDyn (w' := w') (j := k) (k := st.ntok) (i := st.nv) (v' := v') (e := e) (t := te) (xs' := xc ++ yc) (ys := l ++ ys) (n' := n + m) hf hlive (by rw [htv]; exact hap.grown) (by rw [htv]; exact hnp)
      (by rw [htv]; exact hap.where_) hap.own h6 (by simp [hln, hym]) (hfl.app hyr)
    have hs : ∃ b n c, v' = .slice b n c := by
      rcases hap.nil with h | ⟨b, cap, h, _⟩
      · exact ⟨_, _, _, h⟩
      · exact ⟨_, _, _, h⟩
    obtain ⟨b0, n0, c0, hs⟩ := hs; refine does_value (w' := w') (v := v') (call_builtin_run ho fun c => ?_) ⟨g', upd_dynNew α o.dst _ k _ _ _ 1 (h11.put p.dst ⟨.inr rfl, h13.symm, b0, n0, c0, hs⟩)⟩
    simp only [builtin, List.map_toArray, List.map_cons, List.map_nil, Sem.run_bind, hrun, Result.andThen_ok, Sem.run_pure]
  rcases sl_cases hry with ⟨hvy, rfl⟩ | ⟨b, off, cap, hvy, hc1, hc2, hcs⟩ | ⟨ad, hvy, rfl⟩
  · exact fin 0 [] rfl (by simp) rfl (by simp) (by rw [hvy]; rfl) (fun w' _ => by rw [hvy]; rfl)
  · obtain ⟨yc, h7, h8, h9, h10⟩ := list_cells (p := g.p) (w := w) (b := b) (off := off) hpos ys 0 (fun i x hx => by rw [Nat.zero_add]; exact hcs i x hx)
    rw [Nat.zero_mul, Nat.add_zero] at h8; refine fin ys.length yc rfl (by rw [h7, hisz]) (Flats.of h7 h10) h9 (by rw [hvy]; rfl) (fun w' hw' => ?_)
    rw [hvy]; refine run_firstCells_some (P := P) w' i.size ys.length ⟨b, off, none⟩ ys.length cap yc (by rw [h7, hisz]) ?_
    intro j u hj; rw [Addr.add_mid]; have := (h8 j u hj).2
    have hc : w'.cell? ⟨b, off + j, none⟩ = w.cell? ⟨b, off + j, none⟩ := World.cell?_of_block (by rw [hw'])
    rw [hc]; exact this
  · refine fin 0 [] rfl (by simp) rfl (by simp) (by rw [hvy]; rfl) (fun w' _ => ?_)
    rw [hvy]; exact run_firstCells_some (P := P) w' i.size 0 ad 0 0 [] (by simp) (fun j u hj => by simp at hj)

theorem opAppD_does [Arn] (p : Pre P B ρ st o α a bs w g) {e : Option (Pr × List A × List Ty)} {δ : Δ} {t0 t1 : TypeId} {x y : Operand} {xs : Array Operand} {ts : Array TypeId} (ho : o.op = .call { callee := .builtin .append, args := xs, argTypes := ts })
    (hxs : xs.toList = [x, y]) (hts : ts.toList = [t0, t1]) (hs : opAppD P st o t0 t1 x y = some (.go e δ))
    (hdyn : ∀ k x, st.dynL k = some x → α.live k ∧ α.dyn k = some x) (hlive : ∀ k, δ.kill = some k → α.live k) (hft : ∀ k, st.ntok ≤ k → k < st.ntok + δ.nt → ¬ α.known k) (henv : ∀ q ys us, e = some (q, ys, us) → EnvOk Φ ρ st.nv q ys) :
    Does P o a w (Post B ρ α δ st.nb st.ntok bs) := by
  have hmem : ∀ z, z ∈ xs.toList → z ∈ o.op.operands := fun z hz => by rw [ho]; simp [Op.operands, Call.operands, Array.mem_toList_iff.1 hz]
  have hc : x ∈ o.op.operands := hmem x (by simp [hxs])
  have hc' : y ∈ o.op.operands := hmem y (by simp [hxs])
  simp only [opAppD] at hs; split at hs
  · rename_i el te cx ay u e1 hu hty hcx hay hu1; obtain ⟨dy, h1, h2, h3⟩ := p.evA hc' hay; split at hs
    · rename_i hb; simp only [Bool.and_eq_true, Nat.ble_eq, Nat.beq_eq, Nat.blt_eq, beq_iff_eq] at hb; obtain ⟨⟨⟨⟨b1, b2⟩, b3⟩, b4⟩, b5⟩ := hb; subst b5; obtain ⟨z, hz⟩ := Option.isSome_iff_exists.1 b4; split at hs
      · rename_i k; split at hs
        · rename_i i t' e' hd; split at hs
          · rename_i hb2; simp only [Bool.and_eq_true, beq_iff_eq] at hb2; obtain ⟨rfl, rfl⟩ := hb2; simp only [oi, Eff.go.injEq] at hs; obtain ⟨rfl, rfl⟩ := hs; obtain ⟨d1, d2⟩ := hdyn _ _ hd; obtain ⟨hkn, n, xc, ys, hr⟩ := p.rel.wr d1 d2; obtain ⟨_, hxv, _⟩ := p.c1 hc hcx; obtain ⟨_, _, _, _, _, h4⟩ := p.rel.live k d1; refine appD_fin p ho hxs hts hu hu1 b2 b3 b1 hz (ax := .v i) (k := k) (l := ys) (n := n) (xc := xc) ⟨d1, hxv.symm, by rw [hxv]; exact hr.own, hr.fl, hr.len, by rw [hxv]; exact (h4 _ d2).2⟩ hr.env h1 h2 h3 (.inl rfl) (hft _ (Nat.le_refl _) (by simp)) (henv _ _ _ rfl)
          · cases hs
        · cases hs
      · rename_i i k t' e'; split at hs
        · rename_i hb2; simp only [Bool.and_eq_true, beq_iff_eq] at hb2; obtain ⟨⟨_, rfl⟩, rfl⟩ := hb2; simp only [oi, Eff.go.injEq] at hs; obtain ⟨rfl, rfl⟩ := hs; have hlk := hlive k rfl
          obtain ⟨l, g1, g2, g3, g4, g5, g6⟩ := p.c1 hc hcx; obtain ⟨_, n, xc, h7, h8, _⟩ := p.rel.live k hlk; rw [g5, g6, ← g4] at h7; obtain ⟨hln, hle⟩ := own_elems h7 g2; obtain ⟨outs, q1, q2⟩ := (henv _ _ _ rfl).get (evs2 (a := .v i) (b := ay) g1 h1)
          have hl0 : l = [] := by
            obtain ⟨ys, rfl, _⟩ := sl_of h2 h3; simp only [evalPr, D.get, dif_pos, Option.ite_none_right_eq_some, oi, List.isEmpty_iff] at q1; exact q1.1.1
          subst hl0; have hn0 : n = 0 := by simpa using hln.symm
          subst hn0; have hxc : xc = [] := List.eq_nil_of_length_eq_zero (by simpa using h7.1)
          subst hxc; exact appD_fin p ho hxs hts hu hu1 b2 b3 b1 hz (ax := .v i) (k := k) (l := []) (n := 0) (xc := []) ⟨hlk, g4.symm, h7, rfl, rfl, fun b hb o => (h8 b (by rw [← g4]; exact hb)).2 o (by simp)⟩ g1 h1 h2 h3 (.inr rfl) (hft _ (Nat.le_refl _) (by simp)) (henv _ _ _ rfl)
        · cases hs
      · cases hs
    · cases hs
  · cases hs
end
end Go.Proofs.Ytmglkddddpipgaa.Sx

namespace Go.Proofs.Ytmglkddddpipgaa.Sx
open Go.RowKit

theorem nth_eq [Arn] {τ : Type} (l : List τ) (n : Nat) : nth l n = l[n]? := by
  induction l generalizing n with
  | nil => rfl
  | cons x l ih => cases n with
    | zero => rfl
    | succ n => show nth l n = _; rw [ih]; rfl

structure StepOk [Arn] (X : Cx) (ρ : List D) (st : SS) (o : Oper) (α : AS) (δ : Δ) (Φ : Nat → Cont) (e : Option (Pr × List A × List Ty)) : Prop where
  box : ∀ β row, (∃ x off, addrOf o = some x ∧ st.ev X.P none x = some (.one (.adr β off))) → (∃ row', α.box β = some row') → st.boxAt β = some row → α.box β = some row
  live : ∀ k, δ.kill = some k → α.live k
  fb : δ.newb.isSome = true → α.box st.nb = none
  ft : ∀ k, st.ntok ≤ k → k < st.ntok + δ.nt → ¬ α.known k
  fact : ∀ i b, look st.facts i = some b → nth ρ i = some ⟨.bool, b⟩
  env : ∀ q ys us, e = some (q, ys, us) → EnvOk Φ ρ st.nv q ys
  dyn : ∀ k x, st.dynL k = some x → α.live k ∧ α.dyn k = some x
  ar : usesAr X o = true → ∀ k x, st.arAt k = some x → α.ar k = some x
  out : ∀ k, α.out k = st.outAt k

section
variable {X : Cx} {B : Base} {ρ : List D} {st : SS} {o : Oper} {α : AS} {a : Act} {bs : List Act} {w : World} {g : G} {Φ : Nat → Cont} {e : Option (Pr × List A × List Ty)} {δ : Δ}

theorem addrOf_load [Arn] {t : TypeId} {x : Operand} (h : o.op = .load t x) : addrOf o = some x := by
  obtain ⟨d, op, ty, pos, af, gu⟩ := o; simp only at h; subst h; rfl

theorem addrOf_store [Arn] {t : TypeId} {x y : Operand} (h : o.op = .store t x y) : addrOf o = some x := by
  obtain ⟨d, op, ty, pos, af, gu⟩ := o; simp only at h; subst h; rfl

theorem eOne_go [Arn] {sv : SV} (h : eOne o sv = some (.go e δ)) : e = none ∧ δ = { dst := o.dst, sv := sv } := by
  simp only [eOne, oi, Eff.go.injEq] at h; exact ⟨h.1.symm, h.2.symm⟩

theorem ePr_go [Arn] {q : Pr} {xs : List A} {t : Ty} (h : ePr st o q xs t = some (.go e δ)) : e = some (q, xs, [t]) ∧ δ = { dst := o.dst, sv := .one (.a (.v st.nv) t), nv := 1 } := by
  simp only [ePr, oi, Eff.go.injEq] at h; exact ⟨h.1.symm, h.2.symm⟩

theorem opPick_does [Arn] (p : Pre X.P B ρ st o α a bs w g) (k : StepOk X ρ st o α δ Φ e) {c x y : Operand} (ho : o.op = .pick c x y) (hs : opPick X.P st o c x y = some (.go e δ)) : Does X.P o a w (Post B ρ α δ st.nb st.ntok bs) := by
  have hc : c ∈ o.op.operands := by rw [ho]; simp [Op.operands]
  have fin : ∀ v, a.eval c = .bool v → ((st.ev X.P (some o.type) (if v then x else y)).bind fun sv => eOne o sv) = some (.go e δ) → Does X.P o a w (Post B ρ α δ st.nb st.ntok bs) := by
    intro v hv h; simp only [Option.bind_eq_some_iff] at h; obtain ⟨sv, h1, h2⟩ := h; obtain ⟨rfl, rfl⟩ := eOne_go h2; exact pick_does p ho hv (p.ev (by rw [ho]; cases v <;> simp [Op.operands]) h1)
  simp only [opPick] at hs; split at hs
  · rename_i v _ hev; obtain ⟨d, h1, h2, h3⟩ := p.ev hc hev; simp only [A.ev, oi] at h1; subst h1; have h3' : [a.eval c] = [Value.bool v] := h3
    simp only [List.cons.injEq, and_true] at h3'; exact fin v h3' hs
  · rename_i i hev; obtain ⟨d, h1, h2, h3⟩ := p.ev hc hev; obtain ⟨b, rfl, hb⟩ := bool_of h2 h3; split at hs
    · rename_i v hk; have := k.fact i v hk
      have h1' : nth ρ i = some ⟨.bool, b⟩ := h1
      rw [this] at h1'; simp only [oi, D.mk.injEq, heq_eq_eq, true_and] at h1'; subst h1'; exact fin _ hb hs
    · cases hs
  · cases hs

theorem opLoad_does [Arn] (p : Pre X.P B ρ st o α a bs w g) (k : StepOk X ρ st o α δ Φ e) {t : TypeId} {x : Operand} (ho : o.op = .load t x) (hs : opLoad X.P st o t x = some (.go e δ)) : Does X.P o a w (Post B ρ α δ st.nb st.ntok bs) := by
  have hc : x ∈ o.op.operands := by rw [ho]; simp [Op.operands]
  simp only [opLoad] at hs; split at hs
  · rename_i β off hev; have hr : SCRep ρ α g w (.adr β off) (a.eval x) := p.ev hc hev
    split at hs
    · rename_i row hrow; split at hs
      · rename_i hb; simp only [Bool.and_eq_true, Nat.ble_eq] at hb; simp only [Option.bind_eq_some_iff] at hs; obtain ⟨sv, h1, h2⟩ := hs; obtain ⟨rfl, rfl⟩ := eOne_go h2; exact loadBox_does p ho hr (k.box β row ⟨x, off, addrOf_load ho, hev⟩ hr.1 hrow) hb.1 hb.2 h1
      · cases hs
    · cases hs
  · rename_i ax ai te off hev; have hr : SCRep ρ α g w (.el ax ai te off) (a.eval x) := p.ev hc hev
    split at hs
    · rename_i hb; simp only [Bool.and_eq_true, Nat.ble_eq] at hb; simp only [Option.bind_eq_some_iff, oi, Eff.go.injEq] at hs; obtain ⟨sv, h1, rfl, rfl⟩ := hs; exact loadEl_does p ho hr hb.1 hb.2 h1 (k.env _ _ _ rfl)
    · cases hs
  · rename_i β off hev; have hr : SCRep ρ α g w (.pel β off) (a.eval x) := p.ev hc hev
    split at hs
    · rename_i hb; simp only [Bool.and_eq_true, Nat.beq_eq, Bool.not_eq_true'] at hb; obtain ⟨rfl, rfl⟩ := eOne_go hs; exact loadPel_does p ho hr hb.1.1 hb.1.2 hb.2
    · cases hs
  · rename_i ax te off hev; have hr : SCRep ρ α g w (.ptl ax te off) (a.eval x) := p.ev hc hev
    split at hs
    · rename_i hb; simp only [Bool.and_eq_true, Nat.ble_eq] at hb; simp only [Option.bind_eq_some_iff, oi, Eff.go.injEq] at hs; obtain ⟨sv, h1, rfl, rfl⟩ := hs; exact loadPtl_does p ho hr hb.1 hb.2 h1 (k.env _ _ _ rfl)
    · cases hs
  · rename_i ax te off hev; have hr : SCRep ρ α g w (.nel ax te off) (a.eval x) := p.ev hc hev
    split at hs
    · rename_i hb; simp only [Bool.and_eq_true, Nat.ble_eq] at hb; simp only [Option.bind_eq_some_iff, oi, Eff.go.injEq] at hs; obtain ⟨sv, h1, rfl, rfl⟩ := hs; exact loadNel_does p ho hr hb.1 hb.2 h1 (k.env _ _ _ rfl)
    · cases hs
  · rename_i kt ai off hev; have hr : SCRep ρ α g w (.del kt ai off) (a.eval x) := p.ev hc hev
    split at hs
    · rename_i xv te el hdy; obtain ⟨d1, d2⟩ := k.dyn _ _ hdy; split at hs
      · rename_i hb; simp only [Bool.and_eq_true, Nat.ble_eq] at hb; simp only [Option.bind_eq_some_iff, oi, Eff.go.injEq] at hs; obtain ⟨sv, h1, rfl, rfl⟩ := hs; exact loadD_does p ho hr d1 d2 hb.1 hb.2 h1 (k.env _ _ _ rfl)
      · cases hs
    · cases hs
  · cases hs

theorem fL_eq [Arn] {τ υ : Type} (l : List τ) (k : List τ → υ) : fL l k = k l := by
  induction l generalizing k with
  | nil => rfl
  | cons x l ih => show fL l (fun l => k (x :: l)) = _; rw [ih]

theorem fN_eq [Arn] {υ : Type} (n : Nat) (k : Nat → υ) : fN n k = k n := by cases n <;> rfl

theorem opStore_does [Arn] (p : Pre X.P B ρ st o α a bs w g) (k : StepOk X ρ st o α δ Φ e) {t : TypeId} {x y : Operand} (ho : o.op = .store t x y) (hs : opStore X.P st o t x y = some (.go e δ)) : Does X.P o a w (Post B ρ α δ st.nb st.ntok bs) := by
  have hc : x ∈ o.op.operands := by rw [ho]; simp [Op.operands]
  have hc' : y ∈ o.op.operands := by rw [ho]; simp [Op.operands]
  simp only [opStore] at hs; split at hs
  · rename_i β off hev; have hr : SCRep ρ α g w (.adr β off) (a.eval x) := p.ev hc hev
    split at hs
    · rename_i row v hrow hv; split at hs
      · rename_i hb; simp only [Bool.and_eq_true, Nat.ble_eq, Nat.beq_eq, Nat.blt_eq] at hb; simp only [fL_eq, oi, Eff.go.injEq] at hs; obtain ⟨rfl, rfl⟩ := hs; exact store_does p ho hr (k.box β row ⟨x, off, addrOf_store ho, hev⟩ hr.1 hrow) (p.cells hc' hv) hb.1.1 hb.1.2 hb.2
      · cases hs
    · cases hs
  · rename_i kt ai off hev; have hr : SCRep ρ α g w (.del kt ai off) (a.eval x) := p.ev hc hev
    split at hs
    · rename_i yv te el xs ts hdy hv; obtain ⟨d1, d2⟩ := k.dyn _ _ hdy; split at hs
      · rename_i hb; simp only [Bool.and_eq_true, Nat.ble_eq, Nat.beq_eq, Nat.blt_eq, beq_iff_eq] at hb; simp only [oi, Eff.go.injEq] at hs; obtain ⟨rfl, rfl⟩ := hs; simp only [Option.bind_eq_some_iff] at hv; obtain ⟨v, ⟨sv, hv1, hv2⟩, hargs⟩ := hv; have hv3 : (st.ev X.P (some t) y).bind SV.cells = some v := by rw [hv1]; exact hv2
        exact storeD_does p ho hr d1 d2 (p.cells hc' hv3) hargs hb.1.1.1 hb.1.1.2 hb.1.2 hb.2 (k.env _ _ _ rfl)
      · cases hs
    · cases hs
  · cases hs

theorem conv_str_run [Arn] {src dst : TypeId} {s : ByteArray} (hs : X.P.underlying src = some .string) (hd : X.P.underlying dst = some .string) : (convert src dst (.string s)).run X.P w = .ok (.string s) w := by
  simp [Sem.run_bind, convert, run_underlying hs, run_underlying hd]

theorem opConvert_does [Arn] (p : Pre X.P B ρ st o α a bs w g) (k : StepOk X ρ st o α δ Φ e) {src dst : TypeId} {x : Operand} (ho : o.op = .convert src dst x) (hs : opConvert X.P st o src dst x = some (.go e δ)) : Does X.P o a w (Post B ρ α δ st.nb st.ntok bs) := by
  have hc : x ∈ o.op.operands := by rw [ho]; simp [Op.operands]
  simp only [opConvert] at hs; split at hs
  · rename_i c hev; have hr := p.c1 hc hev
    split at hs
    · rename_i ax ty harg; obtain ⟨d, h1, h2, h3⟩ := arg_rep harg hr; split at hs
      · rename_i k1 k2 k3 hu1 hu2; obtain ⟨rfl, rfl⟩ := ePr_go hs; exact conv_does p ho h1 h3 (.inl ⟨_, _, _, hu1, hu2, h2, rfl, rfl⟩) (k.env _ _ _ rfl)
      · rename_i hu1 hu2; obtain ⟨rfl, rfl⟩ := eOne_go hs; obtain ⟨s, rfl, hv, hm⟩ := str_of h2 h3; refine p.value (nv := 0) (v := a.eval x) ?_ hr
        unfold execOp; simp only [ho, hv, Sem.run_bind, conv_str_run hu1 hu2, Result.andThen_ok, Sem.run_pure]
      · rename_i el hu1 hu2; split at hs
        · rename_i hu3; split at hs
          · rename_i hz; obtain ⟨rfl, rfl⟩ := ePr_go hs; exact conv_does p ho h1 h3 (.inr (.inl ⟨_, _, hu1, hu2, hu3, by simpa using hz, h2, rfl, rfl⟩)) (k.env _ _ _ rfl)
          · cases hs
        · cases hs
      · rename_i el hu1 hu2; split at hs
        · rename_i hu3; obtain ⟨rfl, rfl⟩ := ePr_go hs; exact conv_does p ho h1 h3 (.inr (.inr ⟨_, hu1, hu2, hu3, h2, rfl, rfl⟩)) (k.env _ _ _ rfl)
        · cases hs
      · cases hs
    · cases hs
  · cases hs

theorem dslOf_rep [Arn] (p : Pre X.P B ρ st o α a bs w g) {t : TypeId} {x : Operand} (hc : x ∈ o.op.operands) {k i : Nat} {te : Ty} {el : TypeId} (h : st.dslOf X.P t x = some (k, i, te, el)) :
    SCRep ρ α g w (.dsl k) (a.eval x) ∧ st.dynL k = some (i, te, el) := by
  unfold SS.dslOf at h; split at h
  · rename_i k' hev; simp only [Option.map_eq_some_iff, Prod.mk.injEq] at h; obtain ⟨y, h1, rfl, rfl⟩ := h; exact ⟨p.c1 hc hev, h1⟩
  · cases h

theorem opIndexD_does [Arn] (p : Pre X.P B ρ st o α a bs w g) (k : StepOk X ρ st o α δ Φ e) {t e' : TypeId} {x i : Operand} {ai : A} {ki : IntKind} {di : D} (ho : o.op = .indexAddr t x i) (hs : opIndexD X.P st o t x ai e' = some (.go e δ))
    (k1 : ai.ev ρ = some di) (k2 : di.t = .int ki) (k3 : RepD g.p w (a.eval i) di) (hu : X.P.underlying t = some (.slice e')) : Does X.P o a w (Post B ρ α δ st.nb st.ntok bs) := by
  have hc : x ∈ o.op.operands := by rw [ho]; simp [Op.operands]
  unfold opIndexD at hs; split at hs
  · rename_i kt j te el hd; obtain ⟨hr, hd⟩ := dslOf_rep p hc hd; obtain ⟨d1, d2⟩ := k.dyn _ _ hd; split at hs
    · rename_i hb; simp only [Bool.and_eq_true, Nat.beq_eq, Nat.blt_eq, beq_iff_eq] at hb; simp only [oi, Eff.go.injEq] at hs; obtain ⟨rfl, rfl⟩ := hs; exact indexD_does p ho hr d1 d2 k1 k2 k3 hu hb.1.2 hb.2 (k.env _ _ _ rfl)
    · cases hs
  · cases hs

theorem opIndexAddr_does [Arn] (p : Pre X.P B ρ st o α a bs w g) (k : StepOk X ρ st o α δ Φ e) {t : TypeId} {x i : Operand} (ho : o.op = .indexAddr t x i) (hs : opIndexAddr X.P st o t x i = some (.go e δ)) : Does X.P o a w (Post B ρ α δ st.nb st.ntok bs) := by
  have hc : x ∈ o.op.operands := by rw [ho]; simp [Op.operands]
  have hc' : i ∈ o.op.operands := by rw [ho]; simp [Op.operands]
  simp only [opIndexAddr] at hs; split at hs
  · rename_i ax te n kk e' h1 h2 hu; split at hs
    · rename_i hb; simp only [Bool.and_eq_true, Nat.beq_eq, Nat.blt_eq] at hb; simp only [oi, Eff.go.injEq] at hs; obtain ⟨rfl, rfl⟩ := hs; obtain ⟨d, h3, h4, h5⟩ := p.evA hc h1; obtain ⟨d', h6, h7, h8⟩ := p.evA hc' h2; exact indexAddr_does p ho h3 h4 h5 h6 h7 h8 hu hb.1 hb.2 (k.env _ _ _ rfl)
    · cases hs
  · rename_i kk n kk2 e' h1 h2 hu; obtain ⟨d', h6, h7, h8⟩ := p.evA hc' h2; have h6' := h6
    simp only [A.ev, L.d, oi] at h6; subst h6; split at hs
    · rename_i kt ps e0 hev; have hr : SCRep ρ α g w (.lst kt ps e0) (a.eval x) := p.c1 hc hev
      split at hs
      · rename_i hb; simp only [Bool.and_eq_true, Nat.beq_eq, decide_eq_true_eq] at hb; simp only [Option.bind_eq_some_iff] at hs; obtain ⟨q, hq, hs⟩ := hs; obtain ⟨rfl, rfl⟩ := eOne_go hs; have hvi : a.eval i = .int kk n := by
          have h9 : [a.eval i] = [Value.int kk n] ∧ _ := h8
          simpa using h9.1
        rw [nth_eq] at hq; exact lstIndex_does p ho hr hvi hu hb.1 hb.2 hq
      · cases hs
    · exact opIndexD_does p k ho hs h6' h7 h8 hu
  · rename_i n kk e' _ h2 hu; obtain ⟨d', h6, h7, h8⟩ := p.evA hc' h2; exact opIndexD_does p k ho hs h6 h7 h8 hu
  · cases hs

theorem opBuildSlice_does [Arn] (p : Pre X.P B ρ st o α a bs w g) (k : StepOk X ρ st o α δ Φ e) {t : TypeId} {len : Nat} {parts : Array (Nat × Operand)} (ho : o.op = .buildSlice t len parts)
    (hs : opBuildSlice X.P st o t len parts.toList = some (.go e δ)) : Does X.P o a w (Post B ρ α δ st.nb st.ntok bs) := by
  simp only [opBuildSlice] at hs; split at hs
  · rename_i el hu; split at hs
    · rename_i te z hte hz; split at hs
      · rename_i hb; simp only [Bool.and_eq_true, Nat.ble_eq, Nat.beq_eq, Nat.blt_eq] at hb; split at hs
        · rename_i xs us hf; split at hs
          · rename_i hus; simp only [oi, Eff.go.injEq] at hs; obtain ⟨rfl, rfl⟩ := hs; simp only [Option.bind_eq_some_iff] at hf; obtain ⟨cs, hf, hargs⟩ := hf; exact buildSlice_does p ho hu hz hb.1.1.1 hb.1.1.2 hb.1.2 hb.2 hf hargs (by simpa using hus) (k.ft _ (Nat.le_refl _) (by simp)) (k.env _ _ _ rfl)
          · cases hs
        · cases hs
      · cases hs
    · split at hs
      · rename_i hb; simp only [Bool.and_eq_true, Nat.ble_eq, Nat.blt_eq] at hb; split at hs
        · rename_i l hf; simp only [fL_eq, oi, Eff.go.injEq] at hs; obtain ⟨rfl, rfl⟩ := hs; simp only [Option.bind_eq_some_iff] at hf; obtain ⟨cs, hf, hl⟩ := hf; exact buildP_does p ho hu hb.1.1.2 hb.1.2 hb.2 hf hl (k.ft _ (Nat.le_refl _) (by simp))
        · cases hs
      · cases hs
    · cases hs
  · cases hs

theorem uses_call [Arn] {f : Operand} {fid : FuncId} {caps : List (Nat × Nat)} {xs : Array Operand} {ts : Array TypeId} (ho : o.op = .call { callee := .value f, args := xs, argTypes := ts }) (hev : st.ev X.P none f = some (.one (.fn fid caps)))
    {sig : Sig} (h1 : X.Γ fid = some sig) (h2 : sig.ars ≠ []) : usesAr X o = true := by
  unfold usesAr; cases f with
  | func f' =>
    simp only [SS.ev, oi, SV.one.injEq, SC.fn.injEq] at hev; obtain ⟨rfl, _⟩ := hev; simp only [ho, h1]; cases hs : sig.ars with
    | nil => exact absurd hs h2
    | cons x xs => rfl
  | _ => simp only [ho]

theorem opCallV_does [Arn] (p : Pre X.P B ρ st o α a bs w g) (hΦ : ΦOk X Φ) (k : StepOk X ρ st o α δ Φ e) {f : Operand} {xs : Array Operand} {ts : Array TypeId} (ho : o.op = .call { callee := .value f, args := xs, argTypes := ts })
    (hs : opCallV X st o f xs.toList ts.toList = some (.go e δ)) : Does X.P o a w (Post B ρ α δ st.nb st.ntok bs) := by
  simp only [opCallV] at hs; split at hs
  · rename_i fid caps hev; have hr : SCRep ρ α g w (.fn fid caps) (a.eval f) := p.ev (by rw [ho]; simp [Op.operands, Call.operands]) hev
    split at hs
    · rename_i vs hvs; split at hs
      · rename_i id kt i t el hmc; unfold mcOf at hmc; split at hmc
        · rename_i k' gf; split at hmc
          · rename_i id' hid; simp only [Option.bind_eq_some_iff, Option.ite_none_right_eq_some, oi, Prod.mk.injEq] at hmc; obtain ⟨y, hdy, hflt, rfl, rfl, rfl⟩ := hmc; simp only [oi, Eff.go.injEq] at hs; obtain ⟨rfl, rfl⟩ := hs; obtain ⟨d1, d2⟩ := k.dyn _ _ hdy; obtain ⟨⟨fn, c, q1, q2, q3⟩, _, hcall⟩ := hΦ.mc _ _ _ hid; have hus := evL_rep p _ _ _ hvs fun y hy => by rw [ho]; simp [Op.operands, Call.operands, Array.mem_toList_iff.1 hy]
            obtain ⟨hkn, n, xc, ys, hw⟩ := p.rel.wr d1 d2; obtain ⟨outs, h8, h9⟩ := (k.env _ _ _ rfl).get (evs1 hw.env)
            obtain ⟨cvs, hv, hcap⟩ := hr; have hcv : cvs = #[] := by
              have : cvs.toList = [] := by cases hcl : cvs.toList with
                | nil => rfl
                | cons => rw [hcl] at hcap; cases hcap
              apply Array.ext'; simpa using this
            subst hcv; have hargs : xs.map a.eval = #[g.T k', .func (.func gf) #[] #[]] := by
              have h1 : xs.toList.map a.eval = [g.T k', .func (.func gf) #[] #[]] := by
                generalize xs.toList.map a.eval = l at hus
                cases hus with
                | cons r1 r2 => cases r2 with
                  | cons r3 r4 =>
                    cases r4; obtain ⟨_, e1, _⟩ := r1; obtain ⟨c2, e2, e3⟩ := r3; have : c2 = #[] := by
                      have h0 : c2.toList = [] := by cases hcl : c2.toList with
                        | nil => rfl
                        | cons => rw [hcl] at e3; cases e3
                      apply Array.ext'; simpa using h0
                    rw [e1, e2, this]
              apply Array.ext'; simpa using h1
            have hc := hcall w B.B0 _ _ _ _ _ _ outs hw.own (hw.fl.any hflt) hflt hw.len h8
            intro next Q hn; unfold Oper.wp; rw [call_run ho hv q1 q2 q3, hargs]; refine Calls.mono hc ?_
            rintro en w' ⟨rfl, hgr, zs, xs', rfl, ho', hl', hf'⟩
            refine hn _ _ ?_
            have hrel := p.rel.setDyn (w' := w') (i := st.nv) d1 d2 hgr ho' (h9 0 _ rfl) hl' (hf'.any hflt)
            exact ⟨g, upd_dyn α o.dst (.tup []) k' _ _ _ 1 (hrel.put p.dst ⟨#[], rfl, .nil⟩)⟩
          · cases hmc
        · cases hmc
      · exact call_does p hΦ ho hr hvs hs k.ft (fun sig h1 h2 => k.ar (uses_call ho hev h1 h2)) k.out k.env
    · cases hs
  · cases hs

theorem doAppend_does [Arn] (p : Pre X.P B ρ st o α a bs w g) (k : StepOk X ρ st o α δ Φ e) {t0 t1 : TypeId} {x y : Operand} {xs : Array Operand} {ts : Array TypeId} (ho : o.op = .call { callee := .builtin .append, args := xs, argTypes := ts })
    (hxs : xs.toList = [x, y]) (hts : ts.toList = [t0, t1]) (hs : doAppend X.P st o t0 t1 x y = some (.go e δ)) : Does X.P o a w (Post B ρ α δ st.nb st.ntok bs) := by
  have hmem : ∀ z, z ∈ xs.toList → z ∈ o.op.operands := fun z hz => by rw [ho]; simp [Op.operands, Call.operands, Array.mem_toList_iff.1 hz]
  have hc : x ∈ o.op.operands := hmem x (by simp [hxs])
  have hc' : y ∈ o.op.operands := hmem y (by simp [hxs])
  simp only [doAppend] at hs; split at hs
  · rename_i el te hu hty; split at hs
    · rename_i cx ay ty hcx hay; split at hs
      · rename_i hb; simp only [Bool.and_eq_true, Nat.ble_eq, Nat.beq_eq, Nat.blt_eq] at hb; obtain ⟨⟨⟨b1, b2⟩, b3⟩, b4⟩ := hb; obtain ⟨z, hz⟩ := Option.isSome_iff_exists.1 b4; obtain ⟨dy, h1, h2, h3⟩ := p.evA hc' hay; split at hs
        · rename_i ax e1 u hful hu1; split at hs
          · rename_i hte; simp only [oi, Eff.go.injEq] at hs; obtain ⟨rfl, rfl⟩ := hs; unfold fulOf at hful; split at hful
            · rename_i i0 t'; split at hful
              · rename_i ht; simp only [oi] at hful; subst hful; subst ht; exact appn_does p ho hxs hts hu hu1 b2 b3 b1 hz (p.c1 hc hcx) h1 (by rw [h2, hte]) h3 (k.ft _ (Nat.le_refl _) (by simp)) (k.env _ _ _ rfl)
              · cases hful
            · cases hful
          · cases hs
        · cases hs
        split at hs
        · rename_i kl ax tx htok harg; split at hs
          · rename_i hu1; split at hs
            · rename_i hte; simp only [oi, Eff.go.injEq] at hs; obtain ⟨rfl, rfl⟩ := hs; exact append_does p ho hxs hts hu hu1 b2 b3 b1 hz (p.c1 hc hcx) htok ⟨_, harg⟩ k.live h1 h3 (.inl ⟨rfl, hte, rfl, h2⟩) (k.ft _ (Nat.le_refl _) (by simp)) (k.env _ _ _ rfl)
            · cases hs
          · rename_i e1 u hu1; split at hs
            · rename_i hte; simp only [oi, Eff.go.injEq] at hs; obtain ⟨rfl, rfl⟩ := hs; exact append_does p ho hxs hts hu hu1 b2 b3 b1 hz (p.c1 hc hcx) htok ⟨_, harg⟩ k.live h1 h3 (.inr ⟨e1, rfl, rfl, by rw [h2, hte]⟩) (k.ft _ (Nat.le_refl _) (by simp)) (k.env _ _ _ rfl)
            · cases hs
          · cases hs
        · cases hs
      · cases hs
    · cases hs
  · rename_i el hu hty; simp only [doAppendP] at hs; split at hs
    · rename_i cx k2 qs e2 e1 hcx hcy hu1; split at hs
      · rename_i ps kl htok; split at hs
        · rename_i hb; simp only [Bool.and_eq_true, Nat.ble_eq] at hb; simp only [fL_eq, oi, Eff.go.injEq] at hs; obtain ⟨rfl, rfl⟩ := hs; exact appendP_does p ho hxs hts hu hu1 hb.1 hb.2 (p.c1 hc hcx) htok k.live (p.c1 hc' hcy) (k.ft _ (Nat.le_refl _) (by simp))
        · cases hs
      · cases hs
    · cases hs
  · cases hs

theorem doBuiltin_does [Arn] (p : Pre X.P B ρ st o α a bs w g) (k : StepOk X ρ st o α δ Φ e) {b : Builtin} {xs : Array Operand} {ts : Array TypeId} (ho : o.op = .call { callee := .builtin b, args := xs, argTypes := ts })
    (hs : doBuiltin X st o b ts.toList xs.toList = some (.go e δ)) : Does X.P o a w (Post B ρ α δ st.nb st.ntok bs) := by
  have hmem : ∀ z, z ∈ xs.toList → z ∈ o.op.operands := fun z hz => by rw [ho]; simp [Op.operands, Call.operands, Array.mem_toList_iff.1 hz]
  simp only [doBuiltin] at hs; split at hs
  · rename_i x t hxs hts; split at hs
    · rename_i ax ty hev; obtain ⟨d, h1, h2, h3⟩ := p.evA (hmem x (by simp [hxs])) hev
      split at hs
      · rename_i hu; obtain ⟨rfl, rfl⟩ := ePr_go hs; exact len_does p ho hxs hts h1 h2 h3 (.inl ⟨rfl, hu⟩) (k.env _ _ _ rfl)
      · rename_i te e' hu; obtain ⟨rfl, rfl⟩ := ePr_go hs; exact len_does p ho hxs hts h1 h2 h3 (.inr ⟨_, _, rfl, hu⟩) (k.env _ _ _ rfl)
      · rename_i kx kt et hu; simp only [opMapLen] at hs; split at hs
        · rename_i T x0 K V et' hm; obtain ⟨rfl, rfl⟩ := ePr_go hs; have hus : usesAr X o = true := by
            unfold usesAr; simp only [ho, hts, List.any_cons, hu, isMapT, Bool.true_or]
          exact mlen_does p ho hxs hts h1 h2 h3 hm (k.ar hus) k.out (k.env _ _ _ rfl)
        · cases hs
      · cases hs
    · split at hs
      · rename_i kt ps e0 e' hev hu; split at hs
        · rename_i hn; obtain ⟨rfl, rfl⟩ := eOne_go hs; exact lstLen_does p ho hxs hts (p.c1 (hmem x (by simp [hxs])) hev) hu (by simpa using hn) (.inr ⟨_, _, _, rfl, rfl⟩)
        · cases hs
      · rename_i e' hev hu; obtain ⟨rfl, rfl⟩ := eOne_go hs; exact lstLen_does p ho hxs hts (p.c1 (hmem x (by simp [hxs])) hev) hu (by omega : 0 ≤ 1000) (.inl ⟨rfl, rfl⟩)
      · rename_i kt e' hev hu; split at hs
        · rename_i i te el hd; obtain ⟨d1, d2⟩ := k.dyn _ _ hd; obtain ⟨rfl, rfl⟩ := ePr_go hs; exact lenD_does p ho hxs hts (p.c1 (hmem x (by simp [hxs])) hev) hu d1 d2 (k.env _ _ _ rfl)
        · cases hs
      · cases hs
  · rename_i x t hxs hts; split at hs
    · rename_i kt lo e' hev hu; split at hs
      · rename_i i te el hd; obtain ⟨d1, d2⟩ := k.dyn _ _ hd; split at hs
        · rename_i hb; simp only [Bool.and_eq_true, Nat.beq_eq, Nat.blt_eq, beq_iff_eq] at hb; simp only [oi, Eff.go.injEq] at hs; obtain ⟨rfl, rfl⟩ := hs; exact clear_does p ho hxs hts (p.c1 (hmem x (by simp [hxs])) hev) hu hb.1.1.1 d1 d2 hb.2 hb.1.1.2 hb.1.2 (k.env _ _ _ rfl)
        · cases hs
      · cases hs
    · cases hs
  · rename_i x y t0 t1 hxs hts; split at hs
    · exact opAppD_does p ho hxs hts hs k.dyn k.live k.ft k.env
    · exact doAppend_does p k ho hxs hts hs
  · rename_i m x t t1 hxs hts; simp only [opDelete] at hs; split at hs
    · rename_i ax kx T x0 K V et ay hm; simp only [oi, Eff.go.injEq] at hs; obtain ⟨rfl, rfl⟩ := hs; exact mdel_does p ho hxs hts hm (k.ar (by unfold usesAr; simp only [ho])) k.out (k.env _ _ _ rfl)
    · cases hs
  · rename_i x y t t' hxs hts; split at hs
    · rename_i kt b u e' e'' hcx hay hu hu'; split at hs
      · rename_i i te el hd; obtain ⟨d1, d2⟩ := k.dyn _ _ hd; obtain ⟨dy, h1, h2, h3⟩ := p.evA (hmem y (by simp [hxs])) hay
        split at hs
        · rename_i hb; simp only [Bool.and_eq_true, Nat.beq_eq, Nat.blt_eq, beq_iff_eq] at hb; obtain ⟨⟨⟨⟨⟨b1, b2⟩, b3⟩, b4⟩, b5⟩, b6⟩ := hb; simp only [oi, Eff.go.injEq] at hs; obtain ⟨rfl, rfl⟩ := hs; exact copy_does p ho hxs hts (p.c1 (hmem x (by simp [hxs])) hcx) h1 (by rw [h2, b2]) h3 hu b1 d1 d2 b4 b5 b6 (k.env _ _ _ rfl)
        · cases hs
      · cases hs
    · cases hs
  · rename_i x y hxs; split at hs
    · rename_i ax k1 ay k2 hex hey; obtain ⟨d, h1, h2, h3⟩ := p.evA (hmem x (by simp [hxs])) hex
      obtain ⟨d', h4, h5, h6⟩ := p.evA (hmem y (by simp [hxs])) hey
      split at hs
      · rename_i hk; obtain ⟨rfl, rfl⟩ := ePr_go hs; exact minmax_does p ho hxs h1 h2 h3 h4 (by rw [h5, hk]) h6 (.inr ⟨_, rfl⟩) (.inl ⟨rfl, rfl⟩) (k.env _ _ _ rfl)
      · cases hs
    · rename_i ax ay hex hey; obtain ⟨d, h1, h2, h3⟩ := p.evA (hmem x (by simp [hxs])) hex
      obtain ⟨d', h4, h5, h6⟩ := p.evA (hmem y (by simp [hxs])) hey
      obtain ⟨rfl, rfl⟩ := ePr_go hs; exact minmax_does p ho hxs h1 h2 h3 h4 h5 h6 (.inl rfl) (.inl ⟨rfl, rfl⟩) (k.env _ _ _ rfl)
    · cases hs
  · rename_i x y hxs; split at hs
    · rename_i ax k1 ay k2 hex hey; obtain ⟨d, h1, h2, h3⟩ := p.evA (hmem x (by simp [hxs])) hex
      obtain ⟨d', h4, h5, h6⟩ := p.evA (hmem y (by simp [hxs])) hey
      split at hs
      · rename_i hk; obtain ⟨rfl, rfl⟩ := ePr_go hs; exact minmax_does p ho hxs h1 h2 h3 h4 (by rw [h5, hk]) h6 (.inr ⟨_, rfl⟩) (.inr ⟨rfl, rfl⟩) (k.env _ _ _ rfl)
      · cases hs
    · rename_i ax ay hex hey; obtain ⟨d, h1, h2, h3⟩ := p.evA (hmem x (by simp [hxs])) hex
      obtain ⟨d', h4, h5, h6⟩ := p.evA (hmem y (by simp [hxs])) hey
      obtain ⟨rfl, rfl⟩ := ePr_go hs; exact minmax_does p ho hxs h1 h2 h3 h4 h5 h6 (.inl rfl) (.inr ⟨rfl, rfl⟩) (k.env _ _ _ rfl)
    · cases hs
  · cases hs

theorem doBin_does [Arn] (p : Pre X.P B ρ st o α a bs w g) (k : StepOk X ρ st o α δ Φ e) {op : BinOp} {t yt : TypeId} {x y : Operand} {sx sy : SV} (ho : o.op = .binOp op t x y yt)
    (hx : SVRep ρ α g w sx (a.eval x)) (hy : SVRep ρ α g w sy (a.eval y)) (hs : doBin X.P st o op t sx sy = some (.go e δ)) : Does X.P o a w (Post B ρ α δ st.nb st.ntok bs) := by
  simp only [doBin] at hs; split at hs
  · exact binC_does p ho hx hy hs k.env
  · rename_i cx cy; split at hs
    · rename_i ax tx ay ty u h1 h2 hu; split at hs
      · rename_i hb; simp only [Bool.and_eq_true, Bool.not_eq_true', beq_iff_eq] at hb; obtain ⟨⟨⟨⟨b1, b2⟩, b3⟩, b4⟩, b5⟩ := hb; split at hs
        · obtain ⟨rfl, rfl⟩ := ePr_go hs; exact binAgg_does p ho hx hy h1 h2 hu b1 b2 b4 b5 (.inl ⟨rfl, rfl⟩) b3 (k.env _ _ _ rfl)
        · obtain ⟨rfl, rfl⟩ := ePr_go hs; exact binAgg_does p ho hx hy h1 h2 hu b1 b2 b4 b5 (.inr ⟨rfl, rfl⟩) b3 (k.env _ _ _ rfl)
        · cases hs
      · cases hs
    · cases hs
  · cases hs
end
end Go.Proofs.Ytmglkddddpipgaa.Sx

namespace Go.Proofs.Ytmglkddddpipgaa.Sx
open Go.RowKit

section
variable {X : Cx} {B : Base} {ρ : List D} {st : SS} {o : Oper} {α : AS} {a : Act} {bs : List Act} {w : World} {g : G} {Φ : Nat → Cont} {e : Option (Pr × List A × List Ty)} {δ : Δ}

theorem bound_of [Arn] (p : Pre X.P B ρ st o α a bs w g) {q : Operand} {l : A} {k : IntKind} (hq : q ∈ o.op.operands) (h : evA X.P st none q = some (l, .int k)) :
    ∃ n : Int, l.ev ρ = some ⟨.int k, n⟩ ∧ a.eval q = .int k n := by
  obtain ⟨d, h1, h2, h3⟩ := p.evA hq h; obtain ⟨n, rfl, h4, _⟩ := int_of h2 h3; exact ⟨n, h1, h4⟩

theorem opSlice_does [Arn] (p : Pre X.P B ρ st o α a bs w g) (k : StepOk X ρ st o α δ Φ e) {t : TypeId} {x : Operand} {lo hi mx : Option Operand} (ho : o.op = .slice t x lo hi mx)
    (hs : opSlice X.P st o t x lo hi mx = some (.go e δ)) : Does X.P o a w (Post B ρ α δ st.nb st.ntok bs) := by
  have hx : x ∈ o.op.operands := by rw [ho]; simp [Op.operands]
  have hlo : ∀ q, lo = some q → q ∈ o.op.operands := fun q hq => by rw [ho]; simp [Op.operands, hq]
  have hhi : ∀ q, hi = some q → q ∈ o.op.operands := fun q hq => by rw [ho]; simp [Op.operands, hq]
  simp only [opSlice] at hs; split at hs
  · rename_i kt j te el hd; obtain ⟨hr, hd⟩ := dslOf_rep p hx hd; obtain ⟨d1, d2⟩ := k.dyn _ _ hd; simp only [opSliceD] at hs; split at hs
    · rename_i h e' hu; split at hs
      · rename_i ah kh hev; split at hs
        · rename_i hb; simp only [Bool.and_eq_true, Nat.beq_eq, Nat.blt_eq, beq_iff_eq] at hb; simp only [oi, Eff.go.injEq] at hs; obtain ⟨rfl, rfl⟩ := hs; obtain ⟨d, h1, h2, h3⟩ := p.evA (hhi h rfl) hev
          exact takeD_does p ho hr d1 d2 h1 h2 h3 hu hb.1.1.2 hb.1.2 (k.ft _ (Nat.le_refl _) (by simp)) (k.env _ _ _ rfl)
        · cases hs
      · cases hs
    · rename_i l e' hu; split at hs
      · rename_i al kl hev; split at hs
        · rename_i hb; simp only [Bool.and_eq_true, Nat.beq_eq, Nat.blt_eq, beq_iff_eq] at hb; simp only [oi, Eff.go.injEq] at hs; obtain ⟨rfl, rfl⟩ := hs; obtain ⟨d, h1, h2, h3⟩ := p.evA (hlo l rfl) hev
          exact viewD_does p ho hr d1 d2 h1 h2 h3 hu hb.1.2 hb.2 (k.env _ _ _ rfl)
        · cases hs
      · cases hs
    · cases hs
  split at hs
  · rename_i m ax te l kl hax hl; obtain ⟨dx, h1, h2, h3⟩ := p.evA hx hax; obtain ⟨n, kn, hn1, hn2⟩ : ∃ (n : Int) (kn : IntKind), l.ev ρ = some ⟨.int kn, n⟩ ∧ ((lo.map a.eval = none ∧ n = 0) ∨ ∃ k, lo.map a.eval = some (.int k n)) := by
      cases lo with
      | none => simp only [oi, Prod.mk.injEq, Ty.int.injEq] at hl; obtain ⟨rfl, rfl⟩ := hl; exact ⟨0, .i64, rfl, .inl ⟨rfl, rfl⟩⟩
      | some q => obtain ⟨n, h4, h5⟩ := bound_of p (hlo q rfl) hl; exact ⟨n, kl, h4, .inr ⟨kl, by simp [h5]⟩⟩
    split at hs
    · rename_i ah kh am km e' hh hm hu; split at hs
      · rename_i hb; simp only [Bool.and_eq_true, Nat.beq_eq, Nat.blt_eq] at hb; simp only [oi, Eff.go.injEq] at hs; obtain ⟨rfl, rfl⟩ := hs; obtain ⟨xs, rfl, hr⟩ := sl_of h2 h3; cases hi with
        | none => simp at hh
        | some q =>
          simp only [Option.bind_some] at hh; obtain ⟨v1, q1, q2⟩ := bound_of p (hhi q rfl) hh
          obtain ⟨v2, q3, q4⟩ := bound_of p (by rw [ho]; simp [Op.operands]) hm
          have hev : evs ρ [ax, l, ah, am] = some [⟨.sl te, xs⟩, ⟨.int kn, n⟩, ⟨.int kh, v1⟩, ⟨.int km, v2⟩] := by simp only [evs, h1, hn1, q1, q3]
          obtain ⟨outs, h4, h5⟩ := (k.env _ _ _ rfl).get hev
          simp only [evalPr, Option.ite_none_right_eq_some, oi] at h4; obtain ⟨⟨h6, h7, h8, h9⟩, rfl⟩ := h4; replace h6 : (0 : Int) ≤ n := h6
          replace h7 : n ≤ v1 := h7
          replace h8 : v1 ≤ (xs.length : Int) := h8
          replace h9 : v2 = v1 := h9
          subst h9; refine ful_does p ho hr hu hb.1 hb.2 (l := n.toNat) (h := v2.toNat) ?_ ⟨kh, by rw [q2, Int.toNat_of_nonneg (Int.le_trans h6 h7)]⟩ ⟨km, by rw [q4, Int.toNat_of_nonneg (Int.le_trans h6 h7)]⟩ (by omega) (by omega) (h5 0 _ rfl)
          rcases hn2 with ⟨q1, q2⟩ | ⟨q1, q2⟩
          · exact .inl ⟨q1, by omega⟩
          · exact .inr ⟨q1, by rw [q2, Int.toNat_of_nonneg h6]⟩
      · cases hs
    · cases hs
  · rename_i ax ty l kl hax hl; obtain ⟨dx, h1, h2, h3⟩ := p.evA hx hax; obtain ⟨n, kn, hn1, hn2⟩ : ∃ (n : Int) (kn : IntKind), l.ev ρ = some ⟨.int kn, n⟩ ∧ ((lo.map a.eval = none ∧ n = 0) ∨ ∃ k, lo.map a.eval = some (.int k n)) := by
      cases lo with
      | none => simp only [oi, Prod.mk.injEq, Ty.int.injEq] at hl; obtain ⟨rfl, rfl⟩ := hl; exact ⟨0, .i64, rfl, .inl ⟨rfl, rfl⟩⟩
      | some q => obtain ⟨n, h4, h5⟩ := bound_of p (hlo q rfl) hl; exact ⟨n, kl, h4, .inr ⟨kl, by simp [h5]⟩⟩
    have hup : ∀ ys, (match hi with
        | some h => match evA X.P st none h with | some (h, .int _) => some [ax, l, h] | _ => none
        | none => some [ax, l]) = some ys →
        (hi.map a.eval = none ∧ evs ρ ys = some [dx, ⟨.int kn, n⟩]) ∨ (∃ (m : Int) (km : IntKind), hi.map a.eval = some (.int km m) ∧ evs ρ ys = some [dx, ⟨.int kn, n⟩, ⟨.int km, m⟩]) := by
      intro ys hys; cases hi with
      | none => simp only [oi] at hys; subst hys; exact .inl ⟨rfl, evs2 h1 hn1⟩
      | some q =>
        simp only at hys
        split at hys
        · rename_i hq kq hev; simp only [oi] at hys; subst hys; obtain ⟨m, h4, h5⟩ := bound_of p (hhi q rfl) hev
          exact .inr ⟨m, _, by simp [h5], evs3 h1 hn1 h4⟩
        · cases hys
    split at hs
    · rename_i ys hys hu; obtain ⟨rfl, rfl⟩ := ePr_go hs; obtain ⟨s, rfl, hv, hm⟩ := str_of h2 h3; rcases hup ys hys with ⟨e1, e2⟩ | ⟨m, km, e1, e2⟩
      · obtain ⟨outs, h4, h5⟩ := (k.env _ _ _ rfl).get e2
        simp only [evalPr, Option.ite_none_right_eq_some, oi, bytesI_len] at h4; obtain ⟨⟨h6, h7⟩, rfl⟩ := h4; replace h6 : (0 : Int) ≤ n := h6
        replace h7 : n ≤ (s.size : Int) := h7
        refine ssub_does (ax := ax) p ho hv hm hu (l := n.toNat) (h := s.size) ?_ (.inl ⟨e1, rfl⟩) (by omega) (Nat.le_refl _) ?_
        · rcases hn2 with ⟨q1, q2⟩ | ⟨q1, q2⟩
          · exact .inl ⟨q1, by omega⟩
          · exact .inr ⟨q1, by rw [q2, Int.toNat_of_nonneg h6]⟩
        · rw [← bytesI_len, List.take_length]; exact h5 0 _ rfl
      · obtain ⟨outs, h4, h5⟩ := (k.env _ _ _ rfl).get e2
        simp only [evalPr, Option.ite_none_right_eq_some, oi, bytesI_len] at h4; obtain ⟨⟨h6, h7, h8⟩, rfl⟩ := h4; replace h6 : (0 : Int) ≤ n := h6
        replace h7 : n ≤ m := h7
        replace h8 : m ≤ (s.size : Int) := h8
        refine ssub_does (ax := ax) p ho hv hm hu (l := n.toNat) (h := m.toNat) ?_ (.inr ⟨km, by rw [e1, Int.toNat_of_nonneg (Int.le_trans h6 h7)]⟩) (by omega) (by omega) (h5 0 _ rfl)
        rcases hn2 with ⟨q1, q2⟩ | ⟨q1, q2⟩
        · exact .inl ⟨q1, by omega⟩
        · exact .inr ⟨q1, by rw [q2, Int.toNat_of_nonneg h6]⟩
    · rename_i ys te e' hys hu; split at hs
      · rename_i hb; simp only [Bool.and_eq_true, Nat.beq_eq, Nat.blt_eq] at hb; obtain ⟨rfl, rfl⟩ := ePr_go hs; obtain ⟨xs, rfl, hr⟩ := sl_of h2 h3; rcases hup ys hys with ⟨e1, e2⟩ | ⟨m, km, e1, e2⟩
        · obtain ⟨outs, h4, h5⟩ := (k.env _ _ _ rfl).get e2
          simp only [evalPr, Option.ite_none_right_eq_some, oi] at h4; obtain ⟨⟨h6, h7⟩, rfl⟩ := h4; replace h6 : (0 : Int) ≤ n := h6
          replace h7 : n ≤ (xs.length : Int) := h7
          refine slice_does p ho h1 rfl h3 hu hb.1 hb.2 rfl (l := n.toNat) (h := xs.length) ?_ (.inl ⟨e1, rfl⟩) (by omega) (Nat.le_refl _) ?_
          · rcases hn2 with ⟨q1, q2⟩ | ⟨q1, q2⟩
            · exact .inl ⟨q1, by omega⟩
            · exact .inr ⟨q1, by rw [q2, Int.toNat_of_nonneg h6]⟩
          · rw [List.take_length]; exact h5 0 _ rfl
        · obtain ⟨outs, h4, h5⟩ := (k.env _ _ _ rfl).get e2
          simp only [evalPr, Option.ite_none_right_eq_some, oi] at h4; obtain ⟨⟨h6, h7, h8⟩, rfl⟩ := h4; replace h6 : (0 : Int) ≤ n := h6
          replace h7 : n ≤ m := h7
          replace h8 : m ≤ (xs.length : Int) := h8
          refine slice_does p ho h1 rfl h3 hu hb.1 hb.2 rfl (l := n.toNat) (h := m.toNat) ?_ (.inr ⟨km, by rw [e1, Int.toNat_of_nonneg (Int.le_trans h6 h7)]⟩) (by omega) (by omega) (h5 0 _ rfl)
          rcases hn2 with ⟨q1, q2⟩ | ⟨q1, q2⟩
          · exact .inl ⟨q1, by omega⟩
          · exact .inr ⟨q1, by rw [q2, Int.toNat_of_nonneg h6]⟩
      · cases hs
    · cases hs
  · cases hs

theorem notOf_ok [Arn] {ax : A} {b c : Bool} (hf : ∀ i b, look st.facts i = some b → nth ρ i = some ⟨.bool, b⟩) (h : notOf st ax = some b) (hx : ax.ev ρ = some ⟨.bool, c⟩) : b = !c := by
  unfold notOf at h; split at h
  · rename_i v; simp only [A.ev, L.d, oi, D.mk.injEq, heq_eq_eq, true_and] at hx; simp only [oi] at h; rw [← h, hx]
  · rename_i i; simp only [Option.map_eq_some_iff] at h; obtain ⟨v, h1, rfl⟩ := h; have h2 := hf i v h1
    have h3 : nth ρ i = some ⟨.bool, c⟩ := hx
    rw [h2] at h3; simp only [oi, D.mk.injEq, heq_eq_eq, true_and] at h3; rw [h3]
  · cases h

theorem step_does [Arn] (p : Pre X.P B ρ st o α a bs w g) (hΦ : ΦOk X Φ) (k : StepOk X ρ st o α δ Φ e) (hs : stepOp X st o = some (.go e δ)) : Does X.P o a w (Post B ρ α δ st.nb st.ntok bs) := by
  simp only [stepOp] at hs; split at hs
  · rename_i x ho; simp only [Option.bind_eq_some_iff] at hs; obtain ⟨sv, h1, h2⟩ := hs; obtain ⟨rfl, rfl⟩ := eOne_go h2; exact move_does p (.inl ho) (p.ev (by rw [ho]; simp [Op.operands]) h1)
  · rename_i x ho; simp only [Option.bind_eq_some_iff] at hs; obtain ⟨sv, h1, h2⟩ := hs; obtain ⟨rfl, rfl⟩ := eOne_go h2; exact move_does p (.inr ho) (p.ev (by rw [ho]; simp [Op.operands]) h1)
  · rename_i c x y ho; exact opPick_does p k ho hs
  · rename_i t ho; split at hs
    · rename_i z hz; split at hs
      · simp only [oi, Eff.go.injEq] at hs; obtain ⟨rfl, rfl⟩ := hs; exact alloc_does p ho hz (k.fb rfl)
      · cases hs
    · cases hs
  · rename_i t x ho; split at hs
    · rename_i v hv; split at hs
      · split at hs
        · rename_i xs ts hargs; split at hs
          · rename_i hts; obtain ⟨rfl, rfl⟩ := ePr_go hs; simp only [beq_iff_eq] at hts; subst hts; exact mkn_does p ho (p.cells (by rw [ho]; simp [Op.operands]) hv) hargs (k.env _ _ _ rfl)
          · cases hs
        · cases hs
      · simp only [oi, Eff.go.injEq] at hs; obtain ⟨rfl, rfl⟩ := hs; exact box_does p ho (p.cells (by rw [ho]; simp [Op.operands]) hv) (k.fb rfl)
    · cases hs
  · rename_i t parts ho; split at hs
    · rename_i z fs hz hu; simp only [Option.bind_eq_some_iff, fL_eq] at hs; obtain ⟨cs, h1, h2⟩ := hs; obtain ⟨rfl, rfl⟩ := eOne_go h2; exact build_does p ho hz hu h1
    · cases hs
  · rename_i t len parts ho; exact opBuildSlice_does p k ho hs
  · rename_i t x ho; exact opLoad_does p k ho hs
  · rename_i t x y ho; exact opStore_does p k ho hs
  · rename_i x ho; have hx : x ∈ o.op.operands := by rw [ho]; simp [Op.operands]
    split at hs
    · rename_i β off hev; obtain ⟨rfl, rfl⟩ := eOne_go hs; exact nilCheck_does p ho (p.ev hx hev) (.inl ⟨_, _, rfl⟩)
    · rename_i ax ai te off hev; obtain ⟨rfl, rfl⟩ := eOne_go hs; exact nilCheck_does p ho (p.ev hx hev) (.inr (.inl ⟨_, _, _, _, rfl⟩))
    · rename_i kt i off hev; obtain ⟨rfl, rfl⟩ := eOne_go hs; exact nilCheck_does p ho (p.ev hx hev) (.inr (.inr (.inr (.inr ⟨_, _, _, rfl⟩))))
    · rename_i f cs hev; obtain ⟨rfl, rfl⟩ := eOne_go hs; exact nilCheck_does p ho (p.ev hx hev) (.inr (.inr (.inl ⟨_, _, rfl⟩)))
    · rename_i β off hev; obtain ⟨rfl, rfl⟩ := eOne_go hs; exact nilCheck_does p ho (p.ev hx hev) (.inr (.inr (.inr (.inl ⟨_, _, rfl⟩))))
    · rename_i ax te off hev; obtain ⟨rfl, rfl⟩ := eOne_go hs; have hr := p.ev hx hev
      refine p.value (nv := 0) (v := a.eval x) ?_ hr
      obtain ⟨_, _, _, _, hv, _⟩ := hr; unfold execOp; simp [ho, hv]
    · rename_i ax te off hev; obtain ⟨rfl, rfl⟩ := eOne_go hs; have hr := p.ev hx hev
      refine p.value (nv := 0) (v := a.eval x) ?_ hr
      obtain ⟨_, _, _, _, _, _, _, _, _, hv, _⟩ := hr; unfold execOp; simp [ho, hv]
    · simp at hs
    · split at hs <;> simp at hs
    · rename_i ax kk _ hev; split at hs
      · rename_i y β hout; split at hs
        · rename_i hc; simp only [Bool.and_eq_true, beq_iff_eq] at hc; obtain ⟨rfl, hk2⟩ := hc; obtain ⟨rfl, rfl⟩ := eOne_go hs; exact nro_does p ho (p.ev hx hev) (by rw [k.out]; exact hout) hk2
        · cases hs
      · cases hs
    · rename_i ax te _ hev; simp only [oi, Eff.go.injEq] at hs; obtain ⟨rfl, rfl⟩ := hs; exact npp_does p ho (p.ev hx hev) (k.env _ _ _ rfl)
    · rename_i ax te hev; simp only [oi, Eff.go.injEq] at hs; obtain ⟨rfl, rfl⟩ := hs; exact nnl_does p ho (p.ev hx hev) (k.env _ _ _ rfl)
    · simp at hs
    · cases hs
  · rename_i op t x y yt ho; split at hs
    · rename_i sx sy h1 h2; exact doBin_does p k ho (p.ev (by rw [ho]; simp [Op.operands]) h1) (p.ev (by rw [ho]; simp [Op.operands]) h2) hs
    · cases hs
  · rename_i op t x ho; have hx : x ∈ o.op.operands := by rw [ho]; simp [Op.operands]
    split at hs
    · rename_i ax ty hev; obtain ⟨d, h1, h2, h3⟩ := p.evA hx hev; split at hs
      · split at hs
        · rename_i b hb; obtain ⟨rfl, rfl⟩ := eOne_go hs; obtain ⟨c, rfl, hv⟩ := bool_of h2 h3; have := notOf_ok k.fact hb h1
          subst this; refine p.value (nv := 0) (v := .bool (!c)) ?_ ⟨⟨.bool, !c⟩, rfl, rfl, rfl⟩
          unfold execOp; simp [ho, hv, Op.unary, Sem.run_bind]
        · obtain ⟨rfl, rfl⟩ := ePr_go hs; exact unOp_does p ho h1 h3 (.inl ⟨rfl, h2, rfl, rfl⟩) (k.env _ _ _ rfl)
      · obtain ⟨rfl, rfl⟩ := ePr_go hs; exact unOp_does p ho h1 h3 (.inr (.inl ⟨_, rfl, h2, rfl, rfl⟩)) (k.env _ _ _ rfl)
      · obtain ⟨rfl, rfl⟩ := ePr_go hs; exact unOp_does p ho h1 h3 (.inr (.inr ⟨_, rfl, h2, rfl, rfl⟩)) (k.env _ _ _ rfl)
      · cases hs
    · cases hs
  · rename_i s d x ho; exact opConvert_does p k ho hs
  · simp at hs
  · simp at hs
  · rename_i f first captured ho; split at hs
    · rename_i hz; simp only [Option.bind_eq_some_iff] at hs; obtain ⟨caps, h1, h2⟩ := hs; obtain ⟨rfl, rfl⟩ := eOne_go h2; exact makeFunc_does p ho (by simpa using hz) h1
    · cases hs
  · rename_i t x lo hi mx ho; exact opSlice_does p k ho hs
  · rename_i s x f ho; have hx : x ∈ o.op.operands := by rw [ho]; simp [Op.operands]
    split at hs
    · rename_i off t β off' hf hev; split at hs
      · rename_i hp; obtain ⟨rfl, rfl⟩ := eOne_go hs; exact fieldAddr_does (c := .adr β off') p ho hf (by simpa using hp) (p.ev hx hev) (.inl ⟨_, _, rfl, rfl⟩)
      · cases hs
    · rename_i off t ax ai te off' hf hev; split at hs
      · rename_i hp; obtain ⟨rfl, rfl⟩ := eOne_go hs; exact fieldAddr_does (c := .el ax ai te off') p ho hf (by simpa using hp) (p.ev hx hev) (.inr (.inl ⟨_, _, _, _, rfl, rfl⟩))
      · cases hs
    · rename_i off t kt ai off' hf hev; split at hs
      · rename_i hp; obtain ⟨rfl, rfl⟩ := eOne_go hs; exact fieldAddr_does (c := .del kt ai off') p ho hf (by simpa using hp) (p.ev hx hev) (.inr (.inr ⟨_, _, _, rfl, rfl⟩))
      · cases hs
    · rename_i off t ax te off' hf hev; split at hs
      · rename_i hp; obtain ⟨rfl, rfl⟩ := eOne_go hs; exact fieldPtl_does p ho hf (by simpa using hp) (p.ev hx hev)
      · cases hs
    · rename_i off t ax te off' hf hev; split at hs
      · rename_i hp; obtain ⟨rfl, rfl⟩ := eOne_go hs; exact fieldNel_does p ho hf (by simpa using hp) (p.ev hx hev)
      · cases hs
    · cases hs
  · rename_i s x f ho; have hx : x ∈ o.op.operands := by rw [ho]; simp [Op.operands]
    split at hs
    · rename_i off t cs hf hev; split at hs
      · rename_i hb; simp only [Bool.and_eq_true, Nat.ble_eq] at hb; simp only [Option.bind_eq_some_iff] at hs; obtain ⟨sv, h1, h2⟩ := hs; obtain ⟨rfl, rfl⟩ := eOne_go h2; exact field_does p ho hf (p.ev hx hev) hb.1 hb.2 h1
      · cases hs
    · cases hs
  · rename_i t x i ho; exact opIndexAddr_does p k ho hs
  · rename_i t x i ho; split at hs
    · rename_i ax n kk h1 h2 hu; obtain ⟨rfl, rfl⟩ := ePr_go hs; obtain ⟨d, h3, h4, h5⟩ := p.evA (by rw [ho]; simp [Op.operands]) h1
      obtain ⟨d', h6, h7, h8⟩ := p.evA (by rw [ho]; simp [Op.operands]) h2
      exact index_does p ho h3 h4 h5 h6 h7 h8 hu (k.env _ _ _ rfl)
    · cases hs
  · rename_i x n ho; split at hs
    · rename_i vs hev; split at hs
      · rename_i ag cs hk; simp only [Option.bind_eq_some_iff] at hs; obtain ⟨sv, h1, h2⟩ := hs; obtain ⟨rfl, rfl⟩ := eOne_go h2; rw [nth_eq] at hk; exact extract_does p ho (p.ev (by rw [ho]; simp [Op.operands]) hev) hk h1
      · cases hs
    · cases hs
  · rename_i c ho; obtain ⟨callee, xs, ts⟩ := c; split at hs
    · rename_i b hc; simp only at hc; subst hc
      exact doBuiltin_does p k ho hs
    · rename_i f hc; simp only at hc; subst hc
      exact opCallV_does p hΦ k ho hs
    · cases hs
  · rename_i t l c ho; simp only [opMakeSlice] at hs; split at hs
    · rename_i e al kl ac kc hu h1 h2; split at hs
      · rename_i te hty; split at hs
        · rename_i hb; simp only [Bool.and_eq_true, beq_iff_eq, Nat.beq_eq, Nat.blt_eq, Nat.ble_eq] at hb; obtain ⟨⟨⟨⟨⟨b1, b2⟩, b4⟩, b5⟩, b6⟩, b7⟩ := hb; subst b1; subst b2; simp only [oi, Eff.go.injEq] at hs; obtain ⟨rfl, rfl⟩ := hs; exact mkz_does p ho hu h1 h2 b6 b4 b5 b7 (k.ft _ (Nat.le_refl _) (Nat.lt_succ_self _)) (k.env _ _ _ rfl)
        · cases hs
      · cases hs
    · cases hs
  · rename_i t r ho; split at hs
    · simp only [opMakeMap] at hs; split at hs
      · rename_i kx hp; split at hs
        · rename_i T x0 K V et hm; split at hs
          · rename_i e hT; simp only [oi, Eff.go.injEq] at hs; obtain ⟨rfl, rfl⟩ := hs; exact makeMap_does p ho hm hT (k.ar (by unfold usesAr; simp only [ho])) (k.env _ _ _ rfl)
          · cases hs
        · cases hs
      · cases hs
    · cases hs
  · rename_i t m x ok ho; simp only [opLookup] at hs; split at hs
    · rename_i ax kx T x0 K V et ay hm; split at hs
      · rename_i hz; split at hs
        · simp only [oi, Eff.go.injEq] at hs; obtain ⟨rfl, rfl⟩ := hs; exact mget_does (ok := true) p ho hm hz (k.ar (by unfold usesAr; simp only [ho])) k.out (k.env _ _ _ rfl)
        · obtain ⟨rfl, rfl⟩ := ePr_go hs; exact mget_does (ok := false) p ho hm hz (k.ar (by unfold usesAr; simp only [ho])) k.out (k.env _ _ _ rfl)
      · cases hs
    · cases hs
  · rename_i t m x v ho; simp only [opMapUpdate] at hs; split at hs
    · rename_i ax kx T x0 K V et ay hm; split at hs
      · rename_i u V' hval; split at hs
        · rename_i hV; subst hV; simp only [oi, Eff.go.injEq] at hs; obtain ⟨rfl, rfl⟩ := hs; exact mput_does p ho hm hval (k.ar (by unfold usesAr; simp only [ho])) k.out (k.env _ _ _ rfl)
        · cases hs
      · cases hs
    · cases hs
  · cases hs
end
end Go.Proofs.Ytmglkddddpipgaa.Sx
