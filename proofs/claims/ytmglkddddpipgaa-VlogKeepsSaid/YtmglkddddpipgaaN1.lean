/-
  Numbers, points, cells and sums: what the functions answer.
-/
import Derived.Test.YtmglkddddpipgaaH3
import Derived.IntWalk
set_option linter.unusedVariables false
set_option linter.unusedSimpArgs false
namespace Go.Proofs.Ytmglkddddpipgaa.Sx

def lkE : List (Nat × D) → Nat → Option D
  | [], _ => none
  | (j, d) :: r, i => if j = i then some d else lkE r i
def pushL : Nat → List (Nat × D) → List D → List (Nat × D)
  | _, ρ, [] => ρ
  | n, ρ, d :: r => pushL (n + 1) ((n, d) :: ρ) r
def evC (ρ : List (Nat × D)) : A → Option D
  | .v i => lkE ρ i | .l c => some c.d
def evB (ρ : List (Nat × D)) : List A → Option (List D)
  | [] => some []
  | a :: r => match evC ρ a with
    | some d => (match evB ρ r with
      | some ds => some (d :: ds)
      | none => none)
    | none => none

noncomputable def deb (Φ : Nat → Cont) : IR → (R : Type) → Nat → Nat → List (Nat × D) → (List D → Option R) → (Nat → List D → Option R) → Option R
  | .ret outs, R, lv, n, ρ, kr, kj => match evB ρ outs with | some ds => kr ds | none => none
  | .jump l outs, R, lv, n, ρ, kr, kj => match evB ρ outs with | some ds => kj l ds | none => none
  | .op p xs k, R, lv, n, ρ, kr, kj => match evB ρ xs with
    | some ds => evalPr Φ p ds fun out => deb Φ k R lv (n + out.length) (pushL n ρ out) kr kj
    | none => none
  | .ite c a b, R, lv, n, ρ, kr, kj => match evC ρ c with
    | some ⟨.bool, x⟩ => if x = true then deb Φ a R lv n ρ kr kj else deb Φ b R lv n ρ kr kj
    | _ => none
  | .loop init tys body, R, lv, n, ρ, kr, kj => match evB ρ init with
    | some ds => match toTup tys ds with
      | some s => iter (fun s => deb Φ body (LS (pairs tys).den R) (lv + 1) (n + (split (pairs tys) s).length) (pushL n ρ (split (pairs tys) s))
          (fun ds => (kr ds).map .out)
          (fun l ds => if l = lv then (toTup tys ds).map .again else (kj l ds).map .out)) s
      | none => none
    | none => none
  | .nilc c a b, R, lv, n, ρ, kr, kj => match evC ρ c with
    | some ⟨.sl _, xs⟩ => if xs.isEmpty = true then eqO (deb Φ a R lv n ρ kr kj) (deb Φ b R lv n ρ kr kj) else deb Φ b R lv n ρ kr kj
    | _ => none
  | .fail, R, lv, n, ρ, kr, kj => none

structure EnvB (n : Nat) (ρ : List (Nat × D)) (L : List D) : Prop where
  len : n = L.length
  get : ∀ i, lkE ρ i = nth L i

theorem EnvB.push : ∀ (out : List D) {n : Nat} {ρ : List (Nat × D)} {L : List D}, EnvB n ρ L → EnvB (n + out.length) (pushL n ρ out) (L ++ out)
  | [], n, ρ, L, h => by simpa [pushL] using h
  | d :: out, n, ρ, L, h => by
    have h1 : EnvB (n + 1) ((n, d) :: ρ) (L ++ [d]) := by
      letI : Arn := ⟨fun _ => none⟩
      refine ⟨by simp [h.len], fun i => ?_⟩
      rw [lkE, nth_eq, h.get, nth_eq]; split
      · rename_i e; rw [← e, h.len, List.getElem?_append_right (Nat.le_refl _)]; simp
      · rename_i e; rw [h.len] at e; rw [List.getElem?_append]; split
        · rfl
        · rw [List.getElem?_eq_none (by omega), List.getElem?_eq_none (by simp; omega)]
    have := EnvB.push out h1
    simp only [List.length_cons, pushL]; rw [show n + (out.length + 1) = n + 1 + out.length by omega, show L ++ d :: out = L ++ [d] ++ out by simp]
    exact this

theorem EnvB.evC {n : Nat} {ρ : List (Nat × D)} {L : List D} (h : EnvB n ρ L) (a : A) : evC ρ a = a.ev L := by
  cases a with
  | v i => exact h.get i
  | l c => rfl
theorem EnvB.evB {n : Nat} {ρ : List (Nat × D)} {L : List D} (h : EnvB n ρ L) : ∀ xs : List A, evB ρ xs = evs L xs
  | [] => rfl
  | a :: r => by
    simp only [Sx.evB, evs, h.evC, h.evB r]; rfl

theorem deb_den (Φ : Nat → Cont) : ∀ (ir : IR) (R : Type) (lv n : Nat) (ρ : List (Nat × D)) (L : List D) (kr : List D → Option R) (kj : Nat → List D → Option R), EnvB n ρ L → deb Φ ir R lv n ρ kr kj = den Φ ir R lv L kr kj
  | .ret outs, R, lv, n, ρ, L, kr, kj, h => by simp only [deb, den, h.evB]; rfl
  | .jump l outs, R, lv, n, ρ, L, kr, kj, h => by simp only [deb, den, h.evB]; rfl
  | .op p xs k, R, lv, n, ρ, L, kr, kj, h => by
    simp only [deb, den, h.evB]; cases evs L xs with
    | none => rfl
    | some ds =>
      show evalPr Φ p ds _ = evalPr Φ p ds _
      congr 1
      funext out
      exact deb_den Φ k R lv _ _ _ kr kj (h.push out)
  | .ite c a b, R, lv, n, ρ, L, kr, kj, h => by
    simp only [deb, den, h.evC, deb_den Φ a R lv n ρ L kr kj h, deb_den Φ b R lv n ρ L kr kj h]; rfl
  | .loop init tys body, R, lv, n, ρ, L, kr, kj, h => by
    simp only [deb, den, h.evB]; cases evs L init with
    | none => rfl
    | some ds =>
      show (match toTup tys ds with | some s => iter _ s | none => none) = (match toTup tys ds with | some s => iter _ s | none => none)
      cases toTup tys ds with
      | none => rfl
      | some s =>
        show iter _ s = iter _ s
        congr 1
        funext s
        exact deb_den Φ body _ _ _ _ _ _ _ (h.push _)
  | .nilc c a b, R, lv, n, ρ, L, kr, kj, h => by
    simp only [deb, den, h.evC, deb_den Φ a R lv n ρ L kr kj h, deb_den Φ b R lv n ρ L kr kj h]; rfl
  | .fail, R, lv, n, ρ, L, kr, kj, h => rfl

theorem den_start (Φ : Nat → Cont) (ir : IR) (R : Type) (L : List D) (kr : List D → Option R) (kj : Nat → List D → Option R) : den Φ ir R 0 L kr kj = deb Φ ir R 0 L.length (pushL 0 [] L) kr kj := by
  have h0 : EnvB 0 [] [] := ⟨rfl, fun i => rfl⟩
  have := h0.push L
  simp only [Nat.zero_add, List.nil_append] at this; exact (deb_den Φ ir R 0 _ _ L kr kj this).symm

noncomputable def debP (Φ : Nat → Cont) (k : IR) (R : Type) (lv n : Nat) (ρ : List (Nat × D)) (out : List D) (kr : List D → Option R) (kj : Nat → List D → Option R) : Option R := deb Φ k R lv (n + out.length) (pushL n ρ out) kr kj
noncomputable def opD (Φ : Nat → Cont) (p : Pr) (ds : List D) (k : IR) (R : Type) (lv n : Nat) (ρ : List (Nat × D)) (kr : List D → Option R) (kj : Nat → List D → Option R) : Option R :=
  evalPr Φ p ds fun out => debP Φ k R lv n ρ out kr kj
noncomputable def opE (Φ : Nat → Cont) (p : Pr) (o : Option (List D)) (k : IR) (R : Type) (lv n : Nat) (ρ : List (Nat × D)) (kr : List D → Option R) (kj : Nat → List D → Option R) : Option R :=
  match o with | some ds => opD Φ p ds k R lv n ρ kr kj | none => none
noncomputable def nilE {R : Type} (c : Option D) (a b : Option R) : Option R := match c with | some ⟨.sl _, xs⟩ => if xs.isEmpty = true then eqO a b else b | _ => none
noncomputable def retE {R : Type} (o : Option (List D)) (kr : List D → Option R) : Option R := match o with | some ds => kr ds | none => none
noncomputable def iteE {R : Type} (c : Option D) (a b : Option R) : Option R := match c with | some ⟨.bool, x⟩ => if x = true then a else b | _ => none
noncomputable def consE (a : Option D) (b : Option (List D)) : Option (List D) := match a with | some d => (match b with | some ds => some (d :: ds) | none => none) | none => none
noncomputable def loopE {R : Type} (Φ : Nat → Cont) (o : Option (List D)) (tys : List Ty) (body : IR) (lv n : Nat) (ρ : List (Nat × D)) (kr : List D → Option R) (kj : Nat → List D → Option R) : Option R :=
  match o with
  | some ds => match toTup tys ds with
    | some s => iter (fun s => deb Φ body (LS (pairs tys).den R) (lv + 1) (n + (split (pairs tys) s).length) (pushL n ρ (split (pairs tys) s))
          (fun ds => (kr ds).map .out)
          (fun l ds => if l = lv then (toTup tys ds).map .again else (kj l ds).map .out)) s
    | none => none
  | none => none

section
variable {Φ : Nat → Cont} {R : Type} {lv n : Nat} {ρ : List (Nat × D)} {kr : List D → Option R} {kj : Nat → List D → Option R} {k : IR}

@[congr] theorem iteE_cg {c c' : Option D} {a b : Option R} (h : c = c') : iteE c a b = iteE c' a b := by rw [h]
@[congr] theorem nilE_cg {c c' : Option D} {a b : Option R} (h : c = c') : nilE c a b = nilE c' a b := by rw [h]
@[congr] theorem opE_cg {p : Pr} {o o' : Option (List D)} (h : o = o') : opE Φ p o k R lv n ρ kr kj = opE Φ p o' k R lv n ρ kr kj := by rw [h]
@[congr] theorem opD_cg {p : Pr} {ds ds' : List D} (h : ds = ds') : opD Φ p ds k R lv n ρ kr kj = opD Φ p ds' k R lv n ρ kr kj := by rw [h]
@[congr] theorem debP_cg {o o' : List D} (h : o = o') : debP Φ k R lv n ρ o kr kj = debP Φ k R lv n ρ o' kr kj := by rw [h]
@[congr] theorem retE_cg {o o' : Option (List D)} (h : o = o') : retE o kr = retE o' kr := by rw [h]
@[congr] theorem loopE_cg {o o' : Option (List D)} {tys : List Ty} {body : IR} (h : o = o') : loopE Φ o tys body lv n ρ kr kj = loopE Φ o' tys body lv n ρ kr kj := by rw [h]
theorem deb_op (p : Pr) (xs : List A) : deb Φ (.op p xs k) R lv n ρ kr kj = opE Φ p (evB ρ xs) k R lv n ρ kr kj := rfl
theorem deb_ret (xs : List A) : deb Φ (.ret xs) R lv n ρ kr kj = retE (evB ρ xs) kr := rfl
theorem deb_jump (l : Nat) (xs : List A) : deb Φ (.jump l xs) R lv n ρ kr kj = retE (evB ρ xs) (kj l) := rfl
theorem deb_itev (i : Nat) (a b : IR) : deb Φ (.ite (.v i) a b) R lv n ρ kr kj = iteE (lkE ρ i) (deb Φ a R lv n ρ kr kj) (deb Φ b R lv n ρ kr kj) := rfl
theorem deb_loop (init : List A) (tys : List Ty) (body : IR) : deb Φ (.loop init tys body) R lv n ρ kr kj = loopE Φ (evB ρ init) tys body lv n ρ kr kj := rfl
theorem deb_nilcv (i : Nat) (a b : IR) : deb Φ (.nilc (.v i) a b) R lv n ρ kr kj = nilE (lkE ρ i) (deb Φ a R lv n ρ kr kj) (deb Φ b R lv n ρ kr kj) := rfl
theorem nilE_some (e : Ty) (xs : List e.den) (a b : Option R) : nilE (some ⟨.sl e, xs⟩) a b = if xs = [] then eqO a b else b := by
  cases xs <;> simp [nilE]
theorem opE_some (p : Pr) (ds : List D) : opE Φ p (some ds) k R lv n ρ kr kj = opD Φ p ds k R lv n ρ kr kj := rfl
theorem debP_nil : debP Φ k R lv n ρ [] kr kj = deb Φ k R lv n ρ kr kj := rfl
theorem debP_cons (d : D) (out : List D) : debP Φ k R lv n ρ (d :: out) kr kj = debP Φ k R lv (n + 1) ((n, d) :: ρ) out kr kj := by
  simp only [debP, List.length_cons, pushL, Nat.add_assoc, Nat.add_comm 1]
theorem pushL_nil : pushL n ρ [] = ρ := rfl
theorem pushL_cons (d : D) (r : List D) : pushL n ρ (d :: r) = pushL (n + 1) ((n, d) :: ρ) r := rfl
theorem retE_some (ds : List D) : retE (some ds) kr = kr ds := rfl
theorem iteE_some (x : Bool) (a b : Option R) : iteE (some ⟨.bool, x⟩) a b = if x = true then a else b := rfl
theorem evB_nil : evB ρ [] = some [] := rfl
theorem evB_v (i : Nat) (r : List A) : evB ρ (.v i :: r) = consE (lkE ρ i) (evB ρ r) := rfl
theorem evB_l (c : L) (r : List A) : evB ρ (.l c :: r) = consE (some c.d) (evB ρ r) := rfl
theorem lkE_cons (j i : Nat) (d : D) : lkE ((j, d) :: ρ) i = if j = i then some d else lkE ρ i := rfl
theorem consE_some (d : D) (ds : List D) : consE (some d) (some ds) = some (d :: ds) := rfl
theorem d_int (i : IntKind) (n : Int) : (L.int i n).d = ⟨.int i, n⟩ := rfl
theorem d_bool (b : Bool) : (L.bool b).d = ⟨.bool, b⟩ := rfl
theorem d_str (l : List Int) : (L.str l).d = ⟨.str, l⟩ := rfl
theorem d_nil (e : Ty) : (L.nil e).d = ⟨.sl e, ([] : List e.den)⟩ := rfl

variable {k1 k2 k3 : IntKind}
theorem o_add (i : IntKind) (x y : Int) : opD Φ (.ibin .add i) [⟨.int k1, x⟩, ⟨.int k2, y⟩] k R lv n ρ kr kj = deb Φ k R lv (n + 1) ((n, ⟨.int i, i.wrap (x + y)⟩) :: ρ) kr kj := rfl
theorem o_sub (i : IntKind) (x y : Int) : opD Φ (.ibin .sub i) [⟨.int k1, x⟩, ⟨.int k2, y⟩] k R lv n ρ kr kj = deb Φ k R lv (n + 1) ((n, ⟨.int i, i.wrap (x - y)⟩) :: ρ) kr kj := rfl
theorem o_mul (i : IntKind) (x y : Int) : opD Φ (.ibin .mul i) [⟨.int k1, x⟩, ⟨.int k2, y⟩] k R lv n ρ kr kj = deb Φ k R lv (n + 1) ((n, ⟨.int i, i.wrap (x * y)⟩) :: ρ) kr kj := rfl
theorem o_and (i : IntKind) (x y : Int) : opD Φ (.ibin .and i) [⟨.int k1, x⟩, ⟨.int k2, y⟩] k R lv n ρ kr kj = deb Φ k R lv (n + 1) ((n, ⟨.int i, bAnd i x y⟩) :: ρ) kr kj := rfl
theorem o_or (i : IntKind) (x y : Int) : opD Φ (.ibin .or i) [⟨.int k1, x⟩, ⟨.int k2, y⟩] k R lv n ρ kr kj = deb Φ k R lv (n + 1) ((n, ⟨.int i, bOr i x y⟩) :: ρ) kr kj := rfl
theorem o_xor (i : IntKind) (x y : Int) : opD Φ (.ibin .xor i) [⟨.int k1, x⟩, ⟨.int k2, y⟩] k R lv n ρ kr kj = deb Φ k R lv (n + 1) ((n, ⟨.int i, bXor i x y⟩) :: ρ) kr kj := rfl
theorem o_andNot (i : IntKind) (x y : Int) : opD Φ (.ibin .andNot i) [⟨.int k1, x⟩, ⟨.int k2, y⟩] k R lv n ρ kr kj = deb Φ k R lv (n + 1) ((n, ⟨.int i, bAndNot i x y⟩) :: ρ) kr kj := rfl
theorem o_quo (i : IntKind) (x y : Int) : opD Φ (.ibin .quo i) [⟨.int k1, x⟩, ⟨.int k2, y⟩] k R lv n ρ kr kj = if y = 0 then none else deb Φ k R lv (n + 1) ((n, ⟨.int i, i.wrap (x.tdiv y)⟩) :: ρ) kr kj := rfl
theorem o_rem (i : IntKind) (x y : Int) : opD Φ (.ibin .rem i) [⟨.int k1, x⟩, ⟨.int k2, y⟩] k R lv n ρ kr kj = if y = 0 then none else deb Φ k R lv (n + 1) ((n, ⟨.int i, x.tmod y⟩) :: ρ) kr kj := rfl
theorem o_shl (i : IntKind) (x y : Int) : opD Φ (.ibin .shl i) [⟨.int k1, x⟩, ⟨.int k2, y⟩] k R lv n ρ kr kj = if y < 0 then none else deb Φ k R lv (n + 1) ((n, ⟨.int i, i.wrap (x * 2 ^ (Nat.min y.toNat i.bits))⟩) :: ρ) kr kj := rfl
theorem o_shr (i : IntKind) (x y : Int) : opD Φ (.ibin .shr i) [⟨.int k1, x⟩, ⟨.int k2, y⟩] k R lv n ρ kr kj = if y < 0 then none else deb Φ k R lv (n + 1) ((n, ⟨.int i, x.fdiv (2 ^ (Nat.min y.toNat i.bits))⟩) :: ρ) kr kj := rfl
theorem o_eql (x y : Int) : opD Φ (.icmp .eql) [⟨.int k1, x⟩, ⟨.int k2, y⟩] k R lv n ρ kr kj = deb Φ k R lv (n + 1) ((n, ⟨.bool, decide (x = y)⟩) :: ρ) kr kj := rfl
theorem o_neq (x y : Int) : opD Φ (.icmp .neq) [⟨.int k1, x⟩, ⟨.int k2, y⟩] k R lv n ρ kr kj = deb Φ k R lv (n + 1) ((n, ⟨.bool, !decide (x = y)⟩) :: ρ) kr kj := rfl
theorem o_lss (x y : Int) : opD Φ (.icmp .lss) [⟨.int k1, x⟩, ⟨.int k2, y⟩] k R lv n ρ kr kj = deb Φ k R lv (n + 1) ((n, ⟨.bool, decide (x < y)⟩) :: ρ) kr kj := rfl
theorem o_leq (x y : Int) : opD Φ (.icmp .leq) [⟨.int k1, x⟩, ⟨.int k2, y⟩] k R lv n ρ kr kj = deb Φ k R lv (n + 1) ((n, ⟨.bool, decide (x ≤ y)⟩) :: ρ) kr kj := rfl
theorem o_gtr (x y : Int) : opD Φ (.icmp .gtr) [⟨.int k1, x⟩, ⟨.int k2, y⟩] k R lv n ρ kr kj = deb Φ k R lv (n + 1) ((n, ⟨.bool, decide (y < x)⟩) :: ρ) kr kj := rfl
theorem o_geq (x y : Int) : opD Φ (.icmp .geq) [⟨.int k1, x⟩, ⟨.int k2, y⟩] k R lv n ρ kr kj = deb Φ k R lv (n + 1) ((n, ⟨.bool, decide (y ≤ x)⟩) :: ρ) kr kj := rfl
theorem o_sneq (x y : List Int) : opD Φ (.scmp .neq) [⟨.str, x⟩, ⟨.str, y⟩] k R lv n ρ kr kj = deb Φ k R lv (n + 1) ((n, ⟨.bool, !decide (x = y)⟩) :: ρ) kr kj := rfl
theorem o_not (x : Bool) : opD Φ .not [⟨.bool, x⟩] k R lv n ρ kr kj = deb Φ k R lv (n + 1) ((n, ⟨.bool, !x⟩) :: ρ) kr kj := rfl
theorem o_neg (i : IntKind) (x : Int) : opD Φ (.neg i) [⟨.int k1, x⟩] k R lv n ρ kr kj = deb Φ k R lv (n + 1) ((n, ⟨.int i, i.wrap (0 - x)⟩) :: ρ) kr kj := rfl
theorem o_com (i : IntKind) (x : Int) : opD Φ (.com i) [⟨.int k1, x⟩] k R lv n ρ kr kj = deb Φ k R lv (n + 1) ((n, ⟨.int i, bXor i (if i.signed then -1 else i.max) x⟩) :: ρ) kr kj := rfl
theorem o_conv (i : IntKind) (x : Int) : opD Φ (.conv i) [⟨.int k1, x⟩] k R lv n ρ kr kj = deb Φ k R lv (n + 1) ((n, ⟨.int i, i.wrap x⟩) :: ρ) kr kj := rfl
theorem o_b2s (x : List Int) : opD Φ .b2s [⟨.sl (.int .u8), x⟩] k R lv n ρ kr kj = deb Φ k R lv (n + 1) ((n, ⟨.str, x⟩) :: ρ) kr kj := rfl
theorem o_len (e : Ty) (xs : List e.den) : opD Φ .len [⟨.sl e, xs⟩] k R lv n ρ kr kj = deb Φ k R lv (n + 1) ((n, ⟨.int .i64, (xs.length : Int)⟩) :: ρ) kr kj := rfl
theorem o_slen (xs : List Int) : opD Φ .len [⟨.str, xs⟩] k R lv n ρ kr kj = deb Φ k R lv (n + 1) ((n, ⟨.int .i64, (xs.length : Int)⟩) :: ρ) kr kj := rfl
theorem o_inb (e : Ty) (xs : List e.den) (i : Int) : opD Φ .inb [⟨.sl e, xs⟩, ⟨.int k1, i⟩] k R lv n ρ kr kj = if 0 ≤ i ∧ i < (xs.length : Int) then deb Φ k R lv n ρ kr kj else none := rfl
theorem o_idx (e : Ty) (xs : List e.den) (i : Int) : opD Φ (.idx e) [⟨.sl e, xs⟩, ⟨.int k1, i⟩] k R lv n ρ kr kj = debP Φ k R lv n ρ (split e (xs.getD i.toNat (dflt e))) kr kj := by
  simp [opD, evalPr]
theorem o_sidx (xs : List Int) (i : Int) : opD Φ .sidx [⟨.str, xs⟩, ⟨.int k1, i⟩] k R lv n ρ kr kj = if 0 ≤ i ∧ i < (xs.length : Int) then deb Φ k R lv (n + 1) ((n, ⟨.int .u8, xs.getD i.toNat 0⟩) :: ρ) kr kj else none := rfl
theorem o_sub3 (e : Ty) (xs : List e.den) (lo hi : Int) : opD Φ .sub [⟨.sl e, xs⟩, ⟨.int k1, lo⟩, ⟨.int k2, hi⟩] k R lv n ρ kr kj =
    if 0 ≤ lo ∧ lo ≤ hi ∧ hi ≤ (xs.length : Int) then deb Φ k R lv (n + 1) ((n, ⟨.sl e, (xs.take hi.toNat).drop lo.toNat⟩) :: ρ) kr kj else none := rfl
theorem o_sub2 (e : Ty) (xs : List e.den) (lo : Int) : opD Φ .sub [⟨.sl e, xs⟩, ⟨.int k1, lo⟩] k R lv n ρ kr kj =
    if 0 ≤ lo ∧ lo ≤ (xs.length : Int) then deb Φ k R lv (n + 1) ((n, ⟨.sl e, xs.drop lo.toNat⟩) :: ρ) kr kj else none := rfl
theorem o_app (e : Ty) (xs ys : List e.den) : opD Φ .app [⟨.sl e, xs⟩, ⟨.sl e, ys⟩] k R lv n ρ kr kj =
    if xs.length + ys.length ≤ BIG then deb Φ k R lv (n + 1) ((n, ⟨.sl e, xs ++ ys⟩) :: ρ) kr kj else none := by
  simp only [opD, evalPr, D.get, dif_pos]; rfl
theorem o_mkz (e : Ty) (x : Int) : opD Φ (.mkz e) [⟨.int k1, x⟩] k R lv n ρ kr kj =
    if 0 ≤ x ∧ x ≤ 1099511627776 then deb Φ k R lv (n + 1) ((n, ⟨.sl e, List.replicate x.toNat (dflt e)⟩) :: ρ) kr kj else none := rfl
def mkD (e : Ty) (n : Nat) (ds : List D) : Option D := (mkRows e n ds).map (D.mk (.sl e))
noncomputable def mkE (Φ : Nat → Cont) (o : Option D) (k : IR) (R : Type) (lv n : Nat) (ρ : List (Nat × D)) (kr : List D → Option R) (kj : Nat → List D → Option R) : Option R :=
  match o with | some d => deb Φ k R lv (n + 1) ((n, d) :: ρ) kr kj | none => none
theorem o_mk (e : Ty) (m : Nat) (ds : List D) : opD Φ (.mk e m) ds k R lv n ρ kr kj = mkE Φ (mkD e m ds) k R lv n ρ kr kj := by
  simp only [opD, evalPr, mkE, mkD]; cases mkRows e m ds <;> rfl
@[congr] theorem mkE_cg {o o' : Option D} (h : o = o') : mkE Φ o k R lv n ρ kr kj = mkE Φ o' k R lv n ρ kr kj := by rw [h]
theorem mkE_some (d : D) : mkE Φ (some d) k R lv n ρ kr kj = deb Φ k R lv (n + 1) ((n, d) :: ρ) kr kj := rfl
def consD (e : Ty) (x : e.den) (o : Option D) : Option D := match o with
  | some d => (d.get (.sl e)).map fun xs => ⟨.sl e, x :: xs⟩
  | none => none
theorem consD_some (e : Ty) (x : e.den) (xs : List e.den) : consD e x (some ⟨.sl e, xs⟩) = some ⟨.sl e, x :: xs⟩ := by simp [consD, D.get]
theorem mkD_zero (e : Ty) : mkD e 0 [] = some ⟨.sl e, ([] : List e.den)⟩ := rfl
theorem mkD_int (i : IntKind) (n : Nat) (x : Int) (r : List D) : mkD (.int i) (n + 1) (⟨.int i, x⟩ :: r) = consD (.int i) x (mkD (.int i) n r) := by
  simp only [mkD, mkRows, join, join1, D.get, dif_pos]; cases mkRows (.int i) n r <;> simp [consD, D.get]
theorem mkD_sl (e : Ty) (n : Nat) (x : List e.den) (r : List D) : mkD (.sl e) (n + 1) (⟨.sl e, x⟩ :: r) = consD (.sl e) x (mkD (.sl e) n r) := by
  simp only [mkD, mkRows, join, join1, D.get, dif_pos]; cases mkRows (.sl e) n r <;> simp [consD, D.get]
def mkpD (e : Ty) (ds : List D) : Option D := (toE e ds).map fun y => ⟨.pt e, some y⟩
theorem o_mkp (e : Ty) (ds : List D) : opD Φ (.mkp e) ds k R lv n ρ kr kj = mkE Φ (mkpD e ds) k R lv n ρ kr kj := by
  simp only [opD, evalPr, mkE, mkpD]; cases toE e ds <;> rfl
theorem o_imin (x y : Int) : opD Φ .min [⟨.int k1, x⟩, ⟨.int k2, y⟩] k R lv n ρ kr kj = deb Φ k R lv (n + 1) ((n, ⟨.int k1, if y < x then y else x⟩) :: ρ) kr kj := rfl
theorem o_imax (x y : Int) : opD Φ .max [⟨.int k1, x⟩, ⟨.int k2, y⟩] k R lv n ρ kr kj = deb Φ k R lv (n + 1) ((n, ⟨.int k1, if x < y then y else x⟩) :: ρ) kr kj := rfl
noncomputable def eqsE (Φ : Nat → Cont) (neg : Bool) (o : Option Bool) (k : IR) (R : Type) (lv n : Nat) (ρ : List (Nat × D)) (kr : List D → Option R) (kj : Nat → List D → Option R) : Option R :=
  match o with | some b => deb Φ k R lv (n + 1) ((n, ⟨.bool, if neg then !b else b⟩) :: ρ) kr kj | none => none
theorem o_eqs (neg : Bool) (m : Nat) (ds : List D) : opD Φ (.eqs neg m) ds k R lv n ρ kr kj = eqsE Φ neg (eqCells (ds.take m) (ds.drop m)) k R lv n ρ kr kj := rfl
@[congr] theorem eqsE_cg {neg : Bool} {o o' : Option Bool} (h : o = o') : eqsE Φ neg o k R lv n ρ kr kj = eqsE Φ neg o' k R lv n ρ kr kj := by rw [h]
theorem eqsE_some (neg b : Bool) : eqsE Φ neg (some b) k R lv n ρ kr kj = deb Φ k R lv (n + 1) ((n, ⟨.bool, if neg then !b else b⟩) :: ρ) kr kj := rfl
theorem eqC_nil : eqCells [] [] = some true := rfl
noncomputable def andE (b : Bool) (o : Option Bool) : Option Bool := match o with | some c => some (b && c) | none => none
theorem andE_some (b c : Bool) : andE b (some c) = some (b && c) := rfl
theorem eqC_int (x y : Int) (r s : List D) : eqCells (⟨.int k1, x⟩ :: r) (⟨.int k2, y⟩ :: s) = andE (decide (x = y)) (eqCells r s) := rfl
theorem j1 (t : Ty) (x : t.den) (l : List D) : join1 t (⟨t, x⟩ :: l) = some (x, l) := by simp [join1, D.get]
class Sg (t : Ty) : Prop where
  h : t.single = true
instance (i : IntKind) : Sg (.int i) := ⟨rfl⟩
instance : Sg .bool := ⟨rfl⟩
instance : Sg .str := ⟨rfl⟩
instance (e : Ty) : Sg (.sl e) := ⟨rfl⟩
instance (e : Ty) : Sg (.pt e) := ⟨rfl⟩
instance (e : Ty) : Sg (.nd e) := ⟨rfl⟩
instance (k : Nat) : Sg (.ref k) := ⟨rfl⟩
theorem join_sg {t : Ty} (h : t.single = true) (x : t.den) (l : List D) : join t (⟨t, x⟩ :: l) = some (x, l) := by
  cases t <;> simp [Ty.single] at h <;> simp [join, join1, D.get]
theorem split_sg {t : Ty} (h : t.single = true) (x : t.den) : split t x = [⟨t, x⟩] := by
  cases t <;> simp [Ty.single] at h <;> rfl
noncomputable def agE (R : Type) (tys : List Ty) (ds : List D) : Option (LS (pairs tys).den R) := (toTup tys ds).map .again
noncomputable def outE {S R : Type} (o : Option R) : Option (LS S R) := o.map .out
theorem outE_some {S R : Type} (r : R) : outE (S := S) (some r) = some (.out r) := rfl
theorem outE_none {S R : Type} : outE (S := S) (none : Option R) = none := rfl
theorem outE_ite {S R : Type} (c : Prop) [Decidable c] (a b : Option R) : outE (S := S) (if c then a else b) = if c then outE a else outE b := by split <;> rfl
theorem agE_1 {t0 : Ty} [h0 : Sg t0] (x0 : t0.den) : agE R [t0] [⟨t0, x0⟩] = (some (.again x0) : Option (LS t0.den R)) := by
  simp [agE, toTup, pairs, join, join_sg h0.h]
theorem loopE_1 {t0 : Ty} [h0 : Sg t0] (x0 : t0.den) (body : IR) : loopE Φ (some [⟨t0, x0⟩]) [t0] body lv n ρ kr kj =
    iter (fun s : t0.den => deb Φ body (LS t0.den R) (lv + 1) (n + 1) ((n, ⟨t0, s⟩) :: ρ) (fun ds => outE (kr ds)) (fun l ds => if l = lv then agE R [t0] ds else outE (kj l ds))) x0 := by
  simp only [loopE, toTup, pairs, join, join_sg h0.h, split, split_sg h0.h]; rfl
theorem agE_2 {t0 t1 : Ty} [h0 : Sg t0] [h1 : Sg t1] (x0 : t0.den) (x1 : t1.den) : agE R [t0, t1] [⟨t0, x0⟩, ⟨t1, x1⟩] = (some (.again (x0, x1)) : Option (LS (t0.den × t1.den) R)) := by
  simp [agE, toTup, pairs, join, join_sg h0.h, join_sg h1.h]
theorem loopE_2 {t0 t1 : Ty} [h0 : Sg t0] [h1 : Sg t1] (x0 : t0.den) (x1 : t1.den) (body : IR) : loopE Φ (some [⟨t0, x0⟩, ⟨t1, x1⟩]) [t0, t1] body lv n ρ kr kj =
    iter (fun s : (t0.den × t1.den) => deb Φ body (LS (t0.den × t1.den) R) (lv + 1) (n + 2) ((n + 1, ⟨t1, s.2⟩) :: (n, ⟨t0, s.1⟩) :: ρ) (fun ds => outE (kr ds)) (fun l ds => if l = lv then agE R [t0, t1] ds else outE (kj l ds))) (x0, x1) := by
  simp only [loopE, toTup, pairs, join, join_sg h0.h, join_sg h1.h, split, split_sg h0.h, split_sg h1.h]; rfl
theorem agE_3 {t0 t1 t2 : Ty} [h0 : Sg t0] [h1 : Sg t1] [h2 : Sg t2] (x0 : t0.den) (x1 : t1.den) (x2 : t2.den) : agE R [t0, t1, t2] [⟨t0, x0⟩, ⟨t1, x1⟩, ⟨t2, x2⟩] = (some (.again (x0, x1, x2)) : Option (LS (t0.den × t1.den × t2.den) R)) := by
  simp [agE, toTup, pairs, join, join_sg h0.h, join_sg h1.h, join_sg h2.h]
theorem loopE_3 {t0 t1 t2 : Ty} [h0 : Sg t0] [h1 : Sg t1] [h2 : Sg t2] (x0 : t0.den) (x1 : t1.den) (x2 : t2.den) (body : IR) : loopE Φ (some [⟨t0, x0⟩, ⟨t1, x1⟩, ⟨t2, x2⟩]) [t0, t1, t2] body lv n ρ kr kj =
    iter (fun s : (t0.den × t1.den × t2.den) => deb Φ body (LS (t0.den × t1.den × t2.den) R) (lv + 1) (n + 3) ((n + 2, ⟨t2, s.2.2⟩) :: (n + 1, ⟨t1, s.2.1⟩) :: (n, ⟨t0, s.1⟩) :: ρ) (fun ds => outE (kr ds)) (fun l ds => if l = lv then agE R [t0, t1, t2] ds else outE (kj l ds))) (x0, x1, x2) := by
  simp only [loopE, toTup, pairs, join, join_sg h0.h, join_sg h1.h, join_sg h2.h, split, split_sg h0.h, split_sg h1.h, split_sg h2.h]; rfl
theorem agE_4 {t0 t1 t2 t3 : Ty} [h0 : Sg t0] [h1 : Sg t1] [h2 : Sg t2] [h3 : Sg t3] (x0 : t0.den) (x1 : t1.den) (x2 : t2.den) (x3 : t3.den) : agE R [t0, t1, t2, t3] [⟨t0, x0⟩, ⟨t1, x1⟩, ⟨t2, x2⟩, ⟨t3, x3⟩] = (some (.again (x0, x1, x2, x3)) : Option (LS (t0.den × t1.den × t2.den × t3.den) R)) := by
  simp [agE, toTup, pairs, join, join_sg h0.h, join_sg h1.h, join_sg h2.h, join_sg h3.h]
theorem loopE_4 {t0 t1 t2 t3 : Ty} [h0 : Sg t0] [h1 : Sg t1] [h2 : Sg t2] [h3 : Sg t3] (x0 : t0.den) (x1 : t1.den) (x2 : t2.den) (x3 : t3.den) (body : IR) : loopE Φ (some [⟨t0, x0⟩, ⟨t1, x1⟩, ⟨t2, x2⟩, ⟨t3, x3⟩]) [t0, t1, t2, t3] body lv n ρ kr kj =
    iter (fun s : (t0.den × t1.den × t2.den × t3.den) => deb Φ body (LS (t0.den × t1.den × t2.den × t3.den) R) (lv + 1) (n + 4) ((n + 3, ⟨t3, s.2.2.2⟩) :: (n + 2, ⟨t2, s.2.2.1⟩) :: (n + 1, ⟨t1, s.2.1⟩) :: (n, ⟨t0, s.1⟩) :: ρ) (fun ds => outE (kr ds)) (fun l ds => if l = lv then agE R [t0, t1, t2, t3] ds else outE (kj l ds))) (x0, x1, x2, x3) := by
  simp only [loopE, toTup, pairs, join, join_sg h0.h, join_sg h1.h, join_sg h2.h, join_sg h3.h, split, split_sg h0.h, split_sg h1.h, split_sg h2.h, split_sg h3.h]; rfl
theorem agE_5 {t0 t1 t2 t3 t4 : Ty} [h0 : Sg t0] [h1 : Sg t1] [h2 : Sg t2] [h3 : Sg t3] [h4 : Sg t4] (x0 : t0.den) (x1 : t1.den) (x2 : t2.den) (x3 : t3.den) (x4 : t4.den) : agE R [t0, t1, t2, t3, t4] [⟨t0, x0⟩, ⟨t1, x1⟩, ⟨t2, x2⟩, ⟨t3, x3⟩, ⟨t4, x4⟩] = (some (.again (x0, x1, x2, x3, x4)) : Option (LS (t0.den × t1.den × t2.den × t3.den × t4.den) R)) := by
  simp [agE, toTup, pairs, join, join_sg h0.h, join_sg h1.h, join_sg h2.h, join_sg h3.h, join_sg h4.h]
theorem loopE_5 {t0 t1 t2 t3 t4 : Ty} [h0 : Sg t0] [h1 : Sg t1] [h2 : Sg t2] [h3 : Sg t3] [h4 : Sg t4] (x0 : t0.den) (x1 : t1.den) (x2 : t2.den) (x3 : t3.den) (x4 : t4.den) (body : IR) : loopE Φ (some [⟨t0, x0⟩, ⟨t1, x1⟩, ⟨t2, x2⟩, ⟨t3, x3⟩, ⟨t4, x4⟩]) [t0, t1, t2, t3, t4] body lv n ρ kr kj =
    iter (fun s : (t0.den × t1.den × t2.den × t3.den × t4.den) => deb Φ body (LS (t0.den × t1.den × t2.den × t3.den × t4.den) R) (lv + 1) (n + 5) ((n + 4, ⟨t4, s.2.2.2.2⟩) :: (n + 3, ⟨t3, s.2.2.2.1⟩) :: (n + 2, ⟨t2, s.2.2.1⟩) :: (n + 1, ⟨t1, s.2.1⟩) :: (n, ⟨t0, s.1⟩) :: ρ) (fun ds => outE (kr ds)) (fun l ds => if l = lv then agE R [t0, t1, t2, t3, t4] ds else outE (kj l ds))) (x0, x1, x2, x3, x4) := by
  simp only [loopE, toTup, pairs, join, join_sg h0.h, join_sg h1.h, join_sg h2.h, join_sg h3.h, join_sg h4.h, split, split_sg h0.h, split_sg h1.h, split_sg h2.h, split_sg h3.h, split_sg h4.h]; rfl
theorem agE_6 {t0 t1 t2 t3 t4 t5 : Ty} [h0 : Sg t0] [h1 : Sg t1] [h2 : Sg t2] [h3 : Sg t3] [h4 : Sg t4] [h5 : Sg t5] (x0 : t0.den) (x1 : t1.den) (x2 : t2.den) (x3 : t3.den) (x4 : t4.den) (x5 : t5.den) : agE R [t0, t1, t2, t3, t4, t5] [⟨t0, x0⟩, ⟨t1, x1⟩, ⟨t2, x2⟩, ⟨t3, x3⟩, ⟨t4, x4⟩, ⟨t5, x5⟩] = (some (.again (x0, x1, x2, x3, x4, x5)) : Option (LS (t0.den × t1.den × t2.den × t3.den × t4.den × t5.den) R)) := by
  simp [agE, toTup, pairs, join, join_sg h0.h, join_sg h1.h, join_sg h2.h, join_sg h3.h, join_sg h4.h, join_sg h5.h]
theorem loopE_6 {t0 t1 t2 t3 t4 t5 : Ty} [h0 : Sg t0] [h1 : Sg t1] [h2 : Sg t2] [h3 : Sg t3] [h4 : Sg t4] [h5 : Sg t5] (x0 : t0.den) (x1 : t1.den) (x2 : t2.den) (x3 : t3.den) (x4 : t4.den) (x5 : t5.den) (body : IR) : loopE Φ (some [⟨t0, x0⟩, ⟨t1, x1⟩, ⟨t2, x2⟩, ⟨t3, x3⟩, ⟨t4, x4⟩, ⟨t5, x5⟩]) [t0, t1, t2, t3, t4, t5] body lv n ρ kr kj =
    iter (fun s : (t0.den × t1.den × t2.den × t3.den × t4.den × t5.den) => deb Φ body (LS (t0.den × t1.den × t2.den × t3.den × t4.den × t5.den) R) (lv + 1) (n + 6) ((n + 5, ⟨t5, s.2.2.2.2.2⟩) :: (n + 4, ⟨t4, s.2.2.2.2.1⟩) :: (n + 3, ⟨t3, s.2.2.2.1⟩) :: (n + 2, ⟨t2, s.2.2.1⟩) :: (n + 1, ⟨t1, s.2.1⟩) :: (n, ⟨t0, s.1⟩) :: ρ) (fun ds => outE (kr ds)) (fun l ds => if l = lv then agE R [t0, t1, t2, t3, t4, t5] ds else outE (kj l ds))) (x0, x1, x2, x3, x4, x5) := by
  simp only [loopE, toTup, pairs, join, join_sg h0.h, join_sg h1.h, join_sg h2.h, join_sg h3.h, join_sg h4.h, join_sg h5.h, split, split_sg h0.h, split_sg h1.h, split_sg h2.h, split_sg h3.h, split_sg h4.h, split_sg h5.h]; rfl
abbrev Does1 (Φ : Nat → Cont) (id : Nat) (ds rs : List D) : Prop := ∀ (k : IR) (R : Type) (lv n : Nat) (ρ : List (Nat × D)) (kr : List D → Option R) (kj : Nat → List D → Option R),
  opD Φ (.call id) ds k R lv n ρ kr kj = debP Φ k R lv n ρ rs kr kj

theorem Does1.of {l : List Ct} {id : Nat} {c : Ct} (hl : look (l.map fun c => (c.sig.id, c)) id = some c) {ds rs : List D} (hF : c.F ds = some rs) (ht : rs.map (·.t) = outT c.sig) :
    Does1 (Phi l) id ds rs := letI : Arn := ⟨fun _ => none⟩; fun k R lv n ρ kr kj => Phi_call hl hF ht
end

theorem ds_cons {T : Ty} {Ts : List Ty} {ds : List D} (h : ds.map (·.t) = T :: Ts) : ∃ (x : T.den) (ds' : List D), ds = ⟨T, x⟩ :: ds' ∧ ds'.map (·.t) = Ts := by
  cases ds with
  | nil => cases h
  | cons d ds =>
    obtain ⟨t, x⟩ := d; simp only [List.map_cons, List.cons.injEq] at h; obtain ⟨rfl, h⟩ := h; exact ⟨x, ds, rfl, h⟩
theorem ds_nil {ds : List D} (h : ds.map (·.t) = []) : ds = [] := by simpa using h
attribute [simp ↓] den_start deb_op deb_ret deb_jump deb_itev deb_loop deb_nilcv
attribute [simp] nilE_some opE_some debP_nil debP_cons pushL_nil pushL_cons retE_some iteE_some evB_nil evB_v evB_l lkE_cons consE_some d_int d_bool d_str d_nil o_add o_sub o_mul o_and o_or o_xor o_andNot o_quo o_rem o_shl o_shr o_eql o_neq o_lss o_leq o_gtr o_geq o_sneq o_not o_neg o_com o_conv o_b2s o_len o_slen o_inb o_idx o_sidx o_sub3 o_sub2 o_app o_mkz o_mk mkE_some consD_some mkD_zero mkD_int mkD_sl o_mkp o_imin o_imax o_eqs eqsE_some eqC_nil andE_some eqC_int j1 outE_some outE_none outE_ite agE_1 loopE_1 agE_2 loopE_2 agE_3 loopE_3 agE_4 loopE_4 agE_5 loopE_5 agE_6 loopE_6 split
end Go.Proofs.Ytmglkddddpipgaa.Sx

namespace Go.Proofs.Ytmglkddddpipgaa.Sx
open Go.RowKit

theorem fdiv_pos (x d : Int) (h : 0 < d) : x.fdiv d = x / d := Int.fdiv_eq_ediv_of_nonneg x (Int.le_of_lt h)
theorem wu8 (n : Int) : IntKind.u8.wrap n = n % 256 := IntKind.wrap_u8 n
theorem wu64 (n : Int) (h : 0 ≤ n) (h' : n < 18446744073709551616) : IntKind.u64.wrap n = n := IntWalk.u64_in n ⟨h, by omega⟩
theorem wu32 (n : Int) (h : 0 ≤ n) (h' : n < 4294967296) : IntKind.u32.wrap n = n := IntWalk.u32_in n ⟨h, by omega⟩
theorem wi64 (n : Int) (h : -9223372036854775808 ≤ n) (h' : n < 9223372036854775808) : IntKind.i64.wrap n = n := IntWalk.i64_in n ⟨h, by omega⟩

theorem ofInt_nat (n : Nat) (x : Nat) : (BitVec.ofInt n (x : Int)).toNat = x % 2 ^ n := by
  rw [BitVec.ofInt_natCast, BitVec.toNat_ofNat]

theorem or128 (u : Int) (h : 0 ≤ u) : bOr .u8 (u % 256) 128 = u % 128 + 128 := by
  obtain ⟨n, rfl⟩ := Int.eq_ofNat_of_zero_le h; have e1 : ((n : Int) % 256) = ((n % 256 : Nat) : Int) := by omega
  rw [e1]; unfold bOr; rw [wu8, BitVec.toNat_or, ofInt_nat]; have e2 : (BitVec.ofInt IntKind.u8.bits 128).toNat = 128 := by decide
  rw [e2]; have key : ∀ m : Nat, m < 256 → (m % 2 ^ 8 ||| 128) = m % 128 + 128 := by decide +kernel
  have := key (n % 256) (Nat.mod_lt _ (by omega))
  rw [show IntKind.u8.bits = 8 from rfl, this]; omega

def one (u : Nat) : List Int := if u < 128 then [(u : Int)] else ((u % 128 + 128 : Nat) : Int) :: one (u / 128)
termination_by u
decreasing_by omega

theorem one_small {u : Nat} (h : u < 128) : one u = [(u : Int)] := by rw [one, if_pos h]
theorem one_big {u : Nat} (h : ¬ u < 128) : one u = ((u % 128 + 128 : Nat) : Int) :: one (u / 128) := by rw [one, if_neg h]

theorem one_len : ∀ (k u : Nat), u < 128 ^ (k + 1) → (one u).length ≤ k + 1
  | 0, u, h => by rw [one_small (by omega)]; simp
  | k + 1, u, h => by
    by_cases hu : u < 128
    · rw [one_small hu]; simp
    · rw [one_big hu, List.length_cons]; have := one_len k (u / 128) (by rw [Nat.div_lt_iff_lt_mul (by omega)]; rw [Nat.pow_succ] at h; exact h)
      omega

theorem one_len10 (u : Nat) (h : u < 18446744073709551616) : (one u).length ≤ 10 := one_len 9 u (by omega)

theorem one_pos (u : Nat) : 1 ≤ (one u).length := by
  rw [one]; split <;> simp

theorem one_byte (u : Nat) : ∀ c ∈ one u, 0 ≤ c ∧ c ≤ 255 := by
  intro c hc; induction u using Nat.strongRecOn with
  | ind u ih =>
    by_cases hu : u < 128
    · rw [one_small hu] at hc; simp only [List.mem_singleton] at hc; omega
    · rw [one_big hu] at hc; rcases List.mem_cons.1 hc with rfl | hc
      · omega
      · exact ih (u / 128) (by omega) hc

def putL (l : List Int) : List Int := (l.map fun u => one u.toNat).flatten

theorem putL_nil : putL [] = [] := rfl
theorem putL_cons (u : Int) (l : List Int) : putL (u :: l) = one u.toNat ++ putL l := by simp [putL]
def sum4 (s : Int) : List Int := [s % 256, s / 256 % 256, s / 65536 % 256, s / 16777216 % 256]

def pOk (a b c : Int) : Bool := decide (1 ≤ a ∧ a ≤ 2147483647 ∧ 0 ≤ b ∧ b ≤ 2147483647 ∧ 0 ≤ c ∧ c ≤ 4096)

theorem fdiv7 (x : Int) : x.fdiv (2 ^ Nat.min 7 IntKind.u64.bits) = x / 128 := fdiv_pos x 128 (by omega)

theorem getI {l : List Int} {i : Int} {d : Int} (h0 : 0 ≤ i) (h1 : i < l.length) : l[i.toNat]?.getD d = l[i.toNat]'(by omega) := by
  rw [List.getElem?_eq_getElem (by omega)]; rfl
theorem dropI {α : Type} {l : List α} {i : Int} (h0 : 0 ≤ i) (h1 : i < l.length) : l.drop i.toNat = l[i.toNat]'(by omega) :: l.drop (i + 1).toNat := by
  rw [show (i + 1).toNat = i.toNat + 1 by omega]; exact List.drop_eq_getElem_cons (by omega)
theorem td (x d : Int) (h : 0 ≤ x) : x.tdiv d = x / d := Int.tdiv_eq_ediv_of_nonneg h
theorem fdiv8 (x : Int) : x.fdiv (2 ^ Nat.min 8 IntKind.u32.bits) = x / 256 := fdiv_pos x 256 (by omega)
theorem fdiv16 (x : Int) : x.fdiv (2 ^ Nat.min 16 IntKind.u32.bits) = x / 65536 := fdiv_pos x 65536 (by omega)
theorem fdiv24 (x : Int) : x.fdiv (2 ^ Nat.min 24 IntKind.u32.bits) = x / 16777216 := fdiv_pos x 16777216 (by omega)
end Go.Proofs.Ytmglkddddpipgaa.Sx

namespace Go.Proofs.Ytmglkddddpipgaa.Sx
def sig68 : Sig := { id := 68, ins := [(true, (Ty.int .i64).pair ((Ty.int .i64).pair ((Ty.int .i64).pair (Ty.int .u32))))], outs := [(false, [(Ty.int .i64, none)])] }
def ir68 : IR := .op (.icmp .lss) [.v 0, .l (.int .i64 1)] (.ite (.v 4) (.ret [.l (.int .i64 1)]) (.op (.icmp .gtr) [.v 0, .l (.int .i64 2147483647)] (.ite (.v 5) (.ret [.l (.int .i64 1)]) (.op (.icmp .lss) [.v 1, .l (.int .i64 0)] (.ite (.v 6) (.ret [.l (.int .i64 1)]) (.op (.icmp .gtr) [.v 1, .l (.int .i64 2147483647)] (.ite (.v 7) (.ret [.l (.int .i64 1)]) (.op (.icmp .lss) [.v 2, .l (.int .i64 0)] (.ite (.v 8) (.ret [.l (.int .i64 1)]) (.op (.icmp .gtr) [.v 2, .l (.int .i64 4096)] (.ite (.v 9) (.ret [.l (.int .i64 1)]) (.ret [.l (.int .i64 0)]))))))))))))
def sig20 : Sig := { id := 20, ins := [(true, Ty.bool.pair ((Ty.int .u8).sl.pair ((Ty.int .i64).pair ((Ty.int .i64).pair ((Ty.int .i64).pair (Ty.int .u32))))))], outs := [(false, [(Ty.int .i64, none)])] }
def ir20 : IR := .ite (.v 0) (.op .len [.v 1] (.op (.icmp .gtr) [.v 6, .l (.int .i64 0)] (.ite (.v 7) (.ret [.l (.int .i64 1)]) (.op (.call 68) [.v 2, .v 3, .v 4, .v 5] (.ret [.v 8]))))) (.op .len [.v 1] (.op (.icmp .gtr) [.v 6, .l (.int .i64 32)] (.ite (.v 7) (.ret [.l (.int .i64 1)]) (.op (.eqs true 4) [.v 2, .v 3, .v 4, .v 5, .l (.int .i64 0), .l (.int .i64 0), .l (.int .i64 0), .l (.int .u32 0)] (.ite (.v 8) (.ret [.l (.int .i64 1)]) (.ret [.l (.int .i64 0)]))))))
def sig66 : Sig := { id := 66, ins := [(false, (Ty.int .u64).sl)], outs := [(false, [((Ty.int .u8).sl, some 5)])] }
def ir66 : IR := .op .len [.v 0] (.loop [.l (.nil (Ty.int .u8)), .l (.int .i64 0)] [(Ty.int .u8).sl, Ty.int .i64] (.op (.icmp .lss) [.v 3, .v 1] (.ite (.v 4) (.op .inb [.v 0, .v 3] (.op (.idx (Ty.int .u64)) [.v 0, .v 3] (.loop [.v 2, .v 5] [(Ty.int .u8).sl, Ty.int .u64] (.op (.icmp .geq) [.v 7, .l (.int .u64 128)] (.ite (.v 8) (.op (.conv .u8) [.v 7] (.op (.ibin .or .u8) [.v 9, .l (.int .u8 128)] (.op (.mk (Ty.int .u8) 1) [.v 10] (.op .app [.v 6, .v 11] (.op (.ibin .shr .u64) [.v 7, .l (.int .u64 7)] (.jump 1 [.v 12, .v 13])))))) (.op (.conv .u8) [.v 7] (.op (.mk (Ty.int .u8) 1) [.v 9] (.op .app [.v 6, .v 10] (.op (.ibin .add .i64) [.v 3, .l (.int .i64 1)] (.jump 0 [.v 11, .v 12])))))))))) (.ret [.v 2]))))
noncomputable def F68 : List D → Option (List D) := Fof [] ir68
noncomputable def c68 : Ct := ⟨sig68, F68⟩
noncomputable def F20 : List D → Option (List D) := Fof [c68] ir20
noncomputable def c20 : Ct := ⟨sig20, F20⟩
noncomputable def F66 : List D → Option (List D) := Fof [] ir66
noncomputable def c66 : Ct := ⟨sig66, F66⟩
end Go.Proofs.Ytmglkddddpipgaa.Sx

namespace Go.Proofs.Ytmglkddddpipgaa.Sx

theorem f68 (x0 x1 x2 x3 : Int) : F68 [⟨.int .i64, x0⟩, ⟨.int .i64, x1⟩, ⟨.int .i64, x2⟩, ⟨.int .u32, x3⟩] = some [⟨.int .i64, if pOk x0 x1 x2 = true then 0 else 1⟩] := by
  simp only [F68, Fof, ir68]; simp -implicitDefEqProofs [pOk]
  by_cases h : 1 ≤ x0 ∧ x0 ≤ 2147483647 ∧ 0 ≤ x1 ∧ x1 ≤ 2147483647 ∧ 0 ≤ x2 ∧ x2 ≤ 4096
  · rw [if_pos h]; repeat rw [if_neg (by omega)]
  · rw [if_neg h]
    repeat' split
    all_goals first | rfl | omega

theorem s68 {lc : List Ct} (h : look (lc.map fun c => (c.sig.id, c)) 68 = some c68) : ∀ x0 x1 x2 x3 : Int, Does1 (Phi lc) 68 [⟨.int .i64, x0⟩, ⟨.int .i64, x1⟩, ⟨.int .i64, x2⟩, ⟨.int .u32, x3⟩] [⟨.int .i64, if pOk x0 x1 x2 = true then 0 else 1⟩] :=
  fun x0 x1 x2 x3 => Does1.of h (f68 x0 x1 x2 x3) rfl

def cErr (far : Bool) (b : List Int) (s a n m : Int) : Int :=
  if far = true then (if 0 < b.length then 1 else if pOk s a n = true then 0 else 1) else if 32 < b.length ∨ s ≠ 0 ∨ a ≠ 0 ∨ n ≠ 0 ∨ m ≠ 0 then 1 else 0

theorem f20 (x0 : Bool) (x1 : List Int) (x2 x3 x4 x5 : Int) : F20 [⟨.bool, x0⟩, ⟨.sl (.int .u8), x1⟩, ⟨.int .i64, x2⟩, ⟨.int .i64, x3⟩, ⟨.int .i64, x4⟩, ⟨.int .u32, x5⟩] = some [⟨.int .i64, cErr x0 x1 x2 x3 x4 x5⟩] := by
  have h68 := s68 (lc := [c68]) rfl
  simp only [F20, Fof, ir20]; simp -implicitDefEqProofs [h68, cErr]
  cases x0
  · simp only [Bool.false_eq_true, if_false]; by_cases h : 32 < x1.length
    · rw [if_pos (by omega), if_pos (by omega)]
    · rw [if_neg (by omega)]; split <;> rename_i h2
      · rw [if_pos (by omega)]
      · rw [if_neg (by omega)]
  · simp only [if_true]; split <;> rfl

theorem f66 (l : List Int) (h : ∀ u ∈ l, 0 ≤ u ∧ u < 18446744073709551616) (hl : l.length ≤ 1000000) : F66 [⟨.sl (.int .u64), l⟩] = some [⟨.sl (.int .u8), putL l⟩] := by
  simp only [F66, Fof, ir66]; simp -implicitDefEqProofs
  refine (iter_meas (fun s : List Int × Int => (l.length - s.2).toNat) (fun s => [⟨.sl (.int .u8), s.1 ++ putL (l.drop s.2.toNat)⟩])
    (fun s => 0 ≤ s.2 ∧ s.2 ≤ l.length ∧ s.1.length ≤ 10 * s.2.toNat) ⟨by simp, by simp, by simp⟩ ?_).trans (by simp)
  rintro ⟨b, i⟩ ⟨h1, h2, h3⟩
  simp only at h1 h2 h3 ⊢
  by_cases hi : i < l.length
  · refine .inl ⟨(b ++ one (l[i.toNat]'(by omega)).toNat, i + 1), ?_, ⟨by simp; omega, by simp; omega, ?_⟩, by simp; omega, ?_⟩
    · rw [if_pos hi, if_pos ⟨h1, hi⟩, getI h1 hi]; have hu := h (l[i.toNat]'(by omega)) (List.getElem_mem _)
      generalize l[i.toNat]'(by omega) = u at hu
      refine (iter_meas (fun t : List Int × Int => t.2.toNat) (fun t => LS.again (t.1 ++ one t.2.toNat, i + 1)) (fun t => 0 ≤ t.2 ∧ t.2 < 18446744073709551616 ∧ t.1.length + (one t.2.toNat).length ≤ 10 * l.length + 10) ⟨hu.1, hu.2, ?_⟩ ?_)
      · have := one_len10 u.toNat (by omega); simp only; omega
      · rintro ⟨c, v⟩ ⟨k1, k2, k3⟩
        simp only at k1 k2 k3 ⊢
        have hb : c.length + 1 ≤ BIG := by have := one_pos v.toNat; simp only [BIG]; omega
        by_cases hv : 128 ≤ v
        · refine .inl ⟨(c ++ [v % 128 + 128], v / 128), ?_, ⟨by simp; omega, by simp; omega, ?_⟩, by simp; omega, ?_⟩
          · rw [if_pos hv, if_pos hb, wu8, or128 v k1, fdiv7]
          · rw [one_big (by omega)] at k3; simp only [List.length_cons, List.length_append, List.length_nil] at k3 ⊢; rw [show (v / 128).toNat = v.toNat / 128 by omega]; omega
          · have e : one v.toNat = (v % 128 + 128) :: one (v / 128).toNat := by
              rw [one_big (by omega), show (v / 128).toNat = v.toNat / 128 by omega]; congr 1; omega
            simp only [e, List.append_assoc, List.cons_append, List.nil_append]
        · refine .inr ?_
          rw [if_neg hv, if_pos hb, wu8, wi64 (i + 1) (by omega) (by omega), one_small (by omega)]; rw [show v % 256 = v by omega, show ((v.toNat : Nat) : Int) = v by omega]
    · have := one_len10 (l[i.toNat]'(by omega)).toNat (by have := h (l[i.toNat]'(by omega)) (List.getElem_mem _); omega)
      simp only [List.length_append]; omega
    · rw [dropI h1 hi, putL_cons, List.append_assoc]
  · refine .inr ?_
    rw [if_neg hi, List.drop_eq_nil_of_le (by omega), putL_nil, List.append_nil]
end Go.Proofs.Ytmglkddddpipgaa.Sx

namespace Go.Proofs.Ytmglkddddpipgaa.Sx
theorem s20 {lc : List Ct} (hl0 : look (lc.map fun c => (c.sig.id, c)) 20 = some c20) : ∀ (x0 : Bool) (x1 : List Int) (x2 x3 x4 x5 : Int), Does1 (Phi lc) 20 [⟨.bool, x0⟩, ⟨.sl (.int .u8), x1⟩, ⟨.int .i64, x2⟩, ⟨.int .i64, x3⟩, ⟨.int .i64, x4⟩, ⟨.int .u32, x5⟩] [⟨.int .i64, cErr x0 x1 x2 x3 x4 x5⟩] :=
  fun x0 x1 x2 x3 x4 x5 => Does1.of hl0 (f20 x0 x1 x2 x3 x4 x5) rfl
theorem s66 {lc : List Ct} (hl0 : look (lc.map fun c => (c.sig.id, c)) 66 = some c66) : ∀ (x : List Int) (h : ∀ u ∈ x, 0 ≤ u ∧ u < 18446744073709551616) (hl : x.length ≤ 1000000), Does1 (Phi lc) 66 [⟨.sl (.int .u64), x⟩] [⟨.sl (.int .u8), putL x⟩] :=
  fun x h hl => Does1.of hl0 (f66 x h hl) rfl
end Go.Proofs.Ytmglkddddpipgaa.Sx

namespace Go.Proofs.Ytmglkddddpipgaa.Sx
def sig72 : Sig := { id := 72, ins := [(false, (Ty.int .u8).sl)], outs := [(false, [((Ty.int .u8).sl, some 5)])] }
def ir72 : IR := .nilc (.v 0) (.ret [.l (.nil (Ty.int .u8))]) (.op (.mk (Ty.int .u8) 0) [] (.op .app [.v 1, .v 0] (.ret [.v 2])))
def sig122 : Sig := { id := 122, ins := [(false, Ty.int .u32), (false, (Ty.int .u8).sl)], outs := [(false, [(Ty.int .u32, none)])] }
def ir122 : IR := .op (.com .u32) [.v 0] (.op .len [.v 1] (.loop [.v 2, .l (.int .i64 0)] [Ty.int .u32, Ty.int .i64] (.op (.icmp .lss) [.v 5, .v 3] (.ite (.v 6) (.op .inb [.v 1, .v 5] (.op (.idx (Ty.int .u8)) [.v 1, .v 5] (.op (.conv .u32) [.v 7] (.op (.ibin .xor .u32) [.v 4, .v 8] (.loop [.v 9, .l (.int .i64 0)] [Ty.int .u32, Ty.int .i64] (.op (.icmp .lss) [.v 11, .l (.int .i64 8)] (.ite (.v 12) (.op (.ibin .and .u32) [.v 10, .l (.int .u32 1)] (.op (.ibin .shr .u32) [.v 10, .l (.int .u64 1)] (.op (.neg .u32) [.v 13] (.op (.ibin .and .u32) [.l (.int .u32 2197175160), .v 15] (.op (.ibin .xor .u32) [.v 14, .v 16] (.op (.ibin .add .i64) [.v 11, .l (.int .i64 1)] (.jump 1 [.v 17, .v 18]))))))) (.op (.ibin .add .i64) [.v 5, .l (.int .i64 1)] (.jump 0 [.v 10, .v 13]))))))))) (.op (.com .u32) [.v 4] (.ret [.v 7]))))))
def sig73 : Sig := { id := 73, ins := [(false, (Ty.int .u8).sl)], outs := [(false, [(Ty.int .u32, none)])] }
def ir73 : IR := .op (.call 122) [.l (.int .u32 0), .v 0] (.ret [.v 1])
def sig24 : Sig := { id := 24, ins := [(true, (Ty.int .i64).pair ((Ty.int .i64).pair ((Ty.int .i64).pair (Ty.int .u32)))), (false, (Ty.int .u8).sl)], outs := [(false, [(Ty.bool, none)])] }
def ir24 : IR := .op .len [.v 4] (.op (.icmp .eql) [.v 2, .v 5] (.ite (.v 6) (.op (.call 73) [.v 4] (.op (.icmp .eql) [.v 3, .v 7] (.ret [.v 8]))) (.ret [.l (.bool false)])))
def sig26 : Sig := { id := 26, ins := [(false, Ty.int .i64), (false, Ty.int .i64), (false, (Ty.int .u8).sl)], outs := [(true, [(Ty.bool, none), ((Ty.int .u8).sl, some 5), (Ty.int .i64, none), (Ty.int .i64, none), (Ty.int .i64, none), (Ty.int .u32, none)]), (false, [(Ty.int .i64, none)])] }
def ir26 : IR := .op .len [.v 2] (.op (.call 73) [.v 2] (.op (.call 20) [.l (.bool true), .l (.nil (Ty.int .u8)), .v 0, .v 1, .v 3, .v 4] (.op (.icmp .neq) [.v 5, .l (.int .i64 0)] (.ite (.v 6) (.ret [.l (.bool false), .l (.nil (Ty.int .u8)), .l (.int .i64 0), .l (.int .i64 0), .l (.int .i64 0), .l (.int .u32 0), .v 5]) (.ret [.l (.bool true), .l (.nil (Ty.int .u8)), .v 0, .v 1, .v 3, .v 4, .l (.int .i64 0)])))))
def sig90 : Sig := { id := 90, ins := [(false, (Ty.int .u8).sl)], outs := [(false, [(Ty.int .u64, none)]), (false, [(Ty.int .i64, none)]), (false, [(Ty.int .i64, none)])] }
def ir90 : IR := .loop [.l (.int .u64 0), .l (.int .i64 0)] [Ty.int .u64, Ty.int .i64] (.op .len [.v 0] (.op (.icmp .lss) [.v 2, .v 3] (.ite (.v 4) (.op (.icmp .lss) [.v 2, .l (.int .i64 10)] (.ite (.v 5) (.op .inb [.v 0, .v 2] (.op (.idx (Ty.int .u8)) [.v 0, .v 2] (.op (.conv .u64) [.v 6] (.op (.icmp .eql) [.v 2, .l (.int .i64 9)] (.ite (.v 8) (.op (.icmp .gtr) [.v 7, .l (.int .u64 1)] (.ite (.v 9) (.ret [.l (.int .u64 0), .l (.int .i64 0), .l (.int .i64 2)]) (.op (.ibin .andNot .u64) [.v 7, .l (.int .u64 128)] (.op (.ibin .mul .i64) [.l (.int .i64 7), .v 2] (.op (.ibin .shl .u64) [.v 10, .v 11] (.op (.ibin .or .u64) [.v 1, .v 12] (.op (.icmp .lss) [.v 7, .l (.int .u64 128)] (.ite (.v 14) (.op (.icmp .eql) [.v 7, .l (.int .u64 0)] (.ite (.v 15) (.op (.icmp .gtr) [.v 2, .l (.int .i64 0)] (.ite (.v 16) (.ret [.l (.int .u64 0), .l (.int .i64 0), .l (.int .i64 2)]) (.op (.ibin .add .i64) [.v 2, .l (.int .i64 1)] (.ret [.v 13, .v 17, .l (.int .i64 0)])))) (.op (.ibin .add .i64) [.v 2, .l (.int .i64 1)] (.ret [.v 13, .v 16, .l (.int .i64 0)])))) (.op (.ibin .add .i64) [.v 2, .l (.int .i64 1)] (.jump 0 [.v 13, .v 15])))))))))) (.op (.ibin .andNot .u64) [.v 7, .l (.int .u64 128)] (.op (.ibin .mul .i64) [.l (.int .i64 7), .v 2] (.op (.ibin .shl .u64) [.v 9, .v 10] (.op (.ibin .or .u64) [.v 1, .v 11] (.op (.icmp .lss) [.v 7, .l (.int .u64 128)] (.ite (.v 13) (.op (.icmp .eql) [.v 7, .l (.int .u64 0)] (.ite (.v 14) (.op (.icmp .gtr) [.v 2, .l (.int .i64 0)] (.ite (.v 15) (.ret [.l (.int .u64 0), .l (.int .i64 0), .l (.int .i64 2)]) (.op (.ibin .add .i64) [.v 2, .l (.int .i64 1)] (.ret [.v 12, .v 16, .l (.int .i64 0)])))) (.op (.ibin .add .i64) [.v 2, .l (.int .i64 1)] (.ret [.v 12, .v 15, .l (.int .i64 0)])))) (.op (.ibin .add .i64) [.v 2, .l (.int .i64 1)] (.jump 0 [.v 12, .v 14]))))))))))))) (.ret [.l (.int .u64 0), .l (.int .i64 0), .l (.int .i64 2)]))) (.ret [.l (.int .u64 0), .l (.int .i64 0), .l (.int .i64 2)]))))
noncomputable def F72 : List D → Option (List D) := Fof [] ir72
noncomputable def c72 : Ct := ⟨sig72, F72⟩
noncomputable def F122 : List D → Option (List D) := Fof [] ir122
noncomputable def c122 : Ct := ⟨sig122, F122⟩
noncomputable def F73 : List D → Option (List D) := Fof [c122] ir73
noncomputable def c73 : Ct := ⟨sig73, F73⟩
noncomputable def F24 : List D → Option (List D) := Fof [c73] ir24
noncomputable def c24 : Ct := ⟨sig24, F24⟩
noncomputable def F26 : List D → Option (List D) := Fof [c73, c20] ir26
noncomputable def c26 : Ct := ⟨sig26, F26⟩
noncomputable def F90 : List D → Option (List D) := Fof [] ir90
noncomputable def c90 : Ct := ⟨sig90, F90⟩
end Go.Proofs.Ytmglkddddpipgaa.Sx

namespace Go.Proofs.Ytmglkddddpipgaa.Sx

def val (b : BitVec 32) : Int := (b.toNat : Int)
def V (x : Int) : BitVec 32 := BitVec.ofInt 32 x
def Mx : BitVec 32 := 4294967295#32
def Po : BitVec 32 := 2197175160#32

theorem val_lt (b : BitVec 32) : 0 ≤ val b ∧ val b < 4294967296 := by unfold val; have := b.isLt; omega
theorem V_val (b : BitVec 32) : V (val b) = b := by unfold V val; simp
theorem val_V (x : Int) (h0 : 0 ≤ x) (h1 : x < 4294967296) : val (V x) = x := by
  obtain ⟨n, rfl⟩ := Int.eq_ofNat_of_zero_le h0; unfold V val; simp [BitVec.ofInt_natCast]; omega
theorem xor_val (a b : BitVec 32) : bXor .u32 (val a) (val b) = val (a ^^^ b) := by
  unfold bXor val; have e : ∀ c : BitVec 32, BitVec.ofInt IntKind.u32.bits (c.toNat : Int) = c := fun c => by show BitVec.ofInt 32 _ = c; simp
  rw [e, e]; show IntKind.u32.wrap ((a ^^^ b : BitVec 32).toNat : Int) = _
  have h : (a ^^^ b).toNat < 4294967296 := (a ^^^ b).isLt
  exact wu32 _ (by omega) (by omega)
theorem and_val (a b : BitVec 32) : bAnd .u32 (val a) (val b) = val (a &&& b) := by
  unfold bAnd val; have e : ∀ c : BitVec 32, BitVec.ofInt IntKind.u32.bits (c.toNat : Int) = c := fun c => by show BitVec.ofInt 32 _ = c; simp
  rw [e, e]; show IntKind.u32.wrap ((a &&& b : BitVec 32).toNat : Int) = _
  have h : (a &&& b).toNat < 4294967296 := (a &&& b).isLt
  exact wu32 _ (by omega) (by omega)
theorem half_val (a : BitVec 32) : val a / (2 : Int) = val (a >>> 1) := by
  unfold val; rw [BitVec.toNat_ushiftRight, Nat.shiftRight_eq_div_pow]; omega

def st (r : BitVec 32) : BitVec 32 := (r >>> 1) ^^^ (if r.toNat % 2 = 1 then Po else 0#32)
def stN : Nat → BitVec 32 → BitVec 32
  | 0, r => r
  | n + 1, r => stN n (st r)
def crcL (r : BitVec 32) : List Int → BitVec 32
  | [] => r
  | c :: l => crcL (stN 8 (r ^^^ V c)) l
def crcOf (l : List Int) : Int := val (Mx ^^^ crcL Mx l)

theorem st_val (r : BitVec 32) : bXor .u32 (val r / 2) (bAnd .u32 2197175160 (IntKind.u32.wrap (-bAnd .u32 (val r) 1))) = val (st r) := by
  have h1 : bAnd .u32 (val r) 1 = ((r.toNat % 2 : Nat) : Int) := by
    rw [show (1 : Int) = val 1#32 from rfl, and_val]; unfold val; rw [BitVec.toNat_and]; show ((r.toNat &&& 1 : Nat) : Int) = _
    rw [Nat.and_one_is_mod]
  rw [h1, half_val]; unfold st; rcases Nat.mod_two_eq_zero_or_one r.toNat with h | h
  · rw [h, if_neg (by omega)]; rw [show IntKind.u32.wrap (-((0 : Nat) : Int)) = val 0#32 by decide, show (2197175160 : Int) = val Po from rfl, and_val, xor_val]; simp
  · rw [h, if_pos rfl]; rw [show IntKind.u32.wrap (-((1 : Nat) : Int)) = val Mx by decide, show (2197175160 : Int) = val Po from rfl, and_val, xor_val, show Po &&& Mx = Po by decide]

theorem fdiv1 (x : Int) : x.fdiv (2 ^ Nat.min 1 IntKind.u32.bits) = x / 2 := fdiv_pos x 2 (by omega)

theorem inv_val (x : Int) (h0 : 0 ≤ x) (h1 : x < 4294967296) : bXor .u32 (if IntKind.u32.signed = true then -1 else IntKind.u32.max) x = val (Mx ^^^ V x) := by
  rw [show (if IntKind.u32.signed = true then (-1 : Int) else IntKind.u32.max) = val Mx by decide, ← xor_val, val_V x h0 h1]

theorem f122 (x0 : Int) (x1 : List Int) (h0 : 0 ≤ x0) (h1 : x0 < 4294967296) (hb : ∀ c ∈ x1, 0 ≤ c ∧ c < 256) (hl : x1.length < 1000000000000000) : F122 [⟨.int .u32, x0⟩, ⟨.sl (.int .u8), x1⟩] = some [⟨.int .u32, val (Mx ^^^ crcL (Mx ^^^ V x0) x1)⟩] := by
  simp only [F122, Fof, ir122]; simp -implicitDefEqProofs
  rw [inv_val x0 h0 h1]; generalize Mx ^^^ V x0 = r0
  refine (iter_meas (fun s : Int × Int => (x1.length - s.2).toNat) (fun s => [⟨.int .u32, val (Mx ^^^ crcL (V s.1) (x1.drop s.2.toNat))⟩])
    (fun s => 0 ≤ s.2 ∧ s.2 ≤ x1.length ∧ 0 ≤ s.1 ∧ s.1 < 4294967296) (by have h1 := (val_lt r0).1; have h2 := (val_lt r0).2; exact ⟨by simp, by simp, h1, h2⟩) ?_).trans (by simp [V_val])
  rintro ⟨r, i⟩ ⟨k1, k2, k3, k4⟩
  simp only at k1 k2 k3 k4 ⊢
  by_cases hi : i < x1.length
  · rw [if_pos hi, if_pos ⟨k1, hi⟩, getI k1 hi, dropI k1 hi]; have hc := hb (x1[i.toNat]'(by omega)) (List.getElem_mem _)
    generalize x1[i.toNat]'(by omega) = c at hc
    refine .inl ⟨(val (stN 8 (V r ^^^ V c)), i + 1), ?_, ⟨by simp; omega, by simp; omega, (val_lt (stN 8 (V r ^^^ V c))).1, (val_lt (stN 8 (V r ^^^ V c))).2⟩, by simp; omega, by simp only [V_val, crcL]⟩
    rw [wu32 c (by omega) (by omega), show bXor .u32 r c = val (V r ^^^ V c) by rw [← xor_val, val_V r k3 k4, val_V c (by omega) (by omega)]]
    generalize V r ^^^ V c = q0
    refine (iter_meas (fun t : Int × Int => (8 - t.2).toNat) (fun t => LS.again (val (stN (8 - t.2).toNat (V t.1)), i + 1)) (fun t => 0 ≤ t.2 ∧ t.2 ≤ 8 ∧ 0 ≤ t.1 ∧ t.1 < 4294967296)
      (by have h1 := (val_lt q0).1; have h2 := (val_lt q0).2; exact ⟨by simp, by simp, h1, h2⟩) ?_).trans (by simp [V_val])
    rintro ⟨q, k⟩ ⟨j1, j2, j3, j4⟩
    simp only at j1 j2 j3 j4 ⊢
    by_cases hk : k < 8
    · refine .inl ⟨(val (st (V q)), k + 1), ?_, ⟨by simp; omega, by simp; omega, (val_lt (st (V q))).1, (val_lt (st (V q))).2⟩, by simp; omega, ?_⟩
      · rw [if_pos hk, fdiv1, wi64 (k + 1) (by omega) (by omega), ← st_val, val_V q j3 j4]
      · simp only [V_val]; rw [show (8 - k).toNat = (8 - (k + 1)).toNat + 1 by omega, stN]
    · refine .inr ?_
      rw [if_neg hk, wi64 (i + 1) (by omega) (by omega), show (8 - k).toNat = 0 by omega, stN, val_V q j3 j4]
  · refine .inr ?_
    rw [if_neg hi, List.drop_eq_nil_of_le (by omega), crcL, inv_val r k3 k4]
theorem s122 {lc : List Ct} (hl0 : Sx.look (lc.map fun c => (c.sig.id, c)) 122 = some c122) : ∀ (x0 : Int) (x1 : List Int) (h0 : 0 ≤ x0) (h1 : x0 < 4294967296) (hb : ∀ c ∈ x1, 0 ≤ c ∧ c < 256) (hl : x1.length < 1000000000000000), Does1 (Phi lc) 122 [⟨.int .u32, x0⟩, ⟨.sl (.int .u8), x1⟩] [⟨.int .u32, val (Mx ^^^ crcL (Mx ^^^ V x0) x1)⟩] :=
  fun x0 x1 h0 h1 hb hl => by
    have eFc : c122.F = F122 := rfl
    have eFh := f122 x0 x1 h0 h1 hb hl
    rw [← eFc] at eFh; exact Does1.of hl0 eFh rfl
theorem f73 (x : List Int) (hb : ∀ c ∈ x, 0 ≤ c ∧ c < 256) (hl : x.length < 1000000000000000) : F73 [⟨.sl (.int .u8), x⟩] = some [⟨.int .u32, crcOf x⟩] := by
  have h122 := s122 (lc := [c122]) rfl
  simp only [F73, Fof, ir73]; generalize Phi [c122] = Φ at *
  have k := h122 0 x (by omega) (by omega) hb hl
  rw [show Mx ^^^ V 0 = Mx by decide] at k; simp -implicitDefEqProofs [k, crcOf]
theorem s73 {lc : List Ct} (hl0 : Sx.look (lc.map fun c => (c.sig.id, c)) 73 = some c73) : ∀ (x : List Int) (hb : ∀ c ∈ x, 0 ≤ c ∧ c < 256) (hl : x.length < 1000000000000000), Does1 (Phi lc) 73 [⟨.sl (.int .u8), x⟩] [⟨.int .u32, crcOf x⟩] :=
  fun x hb hl => by
    have eFc : c73.F = F73 := rfl
    have eFh := f73 x hb hl
    rw [← eFc] at eFh; exact Does1.of hl0 eFh rfl
theorem f24 (x0 x1 x2 x3 : Int) (x4 : List Int) (hb : ∀ c ∈ x4, 0 ≤ c ∧ c < 256) (hl : x4.length < 1000000000000000) : F24 [⟨.int .i64, x0⟩, ⟨.int .i64, x1⟩, ⟨.int .i64, x2⟩, ⟨.int .u32, x3⟩, ⟨.sl (.int .u8), x4⟩] = some [⟨.bool, decide (x2 = x4.length ∧ x3 = crcOf x4)⟩] := by
  have h73 := s73 (lc := [c73]) rfl
  simp only [F24, Fof, ir24]; generalize Phi [c73] = Φ at *
  have k := h73 x4 hb hl
  by_cases h : x2 = x4.length <;> simp -implicitDefEqProofs [k, h]
theorem s24 {lc : List Ct} (hl0 : Sx.look (lc.map fun c => (c.sig.id, c)) 24 = some c24) : ∀ (x0 x1 x2 x3 : Int) (x4 : List Int) (hb : ∀ c ∈ x4, 0 ≤ c ∧ c < 256) (hl : x4.length < 1000000000000000), Does1 (Phi lc) 24 [⟨.int .i64, x0⟩, ⟨.int .i64, x1⟩, ⟨.int .i64, x2⟩, ⟨.int .u32, x3⟩, ⟨.sl (.int .u8), x4⟩] [⟨.bool, decide (x2 = x4.length ∧ x3 = crcOf x4)⟩] :=
  fun x0 x1 x2 x3 x4 hb hl => by
    have eFc : c24.F = F24 := rfl
    have eFh := f24 x0 x1 x2 x3 x4 hb hl
    rw [← eFc] at eFh; exact Does1.of hl0 eFh rfl
theorem f26 (x0 x1 : Int) (x : List Int) (hb : ∀ c ∈ x, 0 ≤ c ∧ c < 256) (hl : x.length < 1000000000000000) : F26 [⟨.int .i64, x0⟩, ⟨.int .i64, x1⟩, ⟨.sl (.int .u8), x⟩] = some [⟨.bool, pOk x0 x1 x.length⟩, ⟨.sl (.int .u8), []⟩, ⟨.int .i64, if pOk x0 x1 x.length = true then x0 else 0⟩, ⟨.int .i64, if pOk x0 x1 x.length = true then x1 else 0⟩, ⟨.int .i64, if pOk x0 x1 x.length = true then x.length else 0⟩, ⟨.int .u32, if pOk x0 x1 x.length = true then crcOf x else 0⟩, ⟨.int .i64, if pOk x0 x1 x.length = true then 0 else 1⟩] := by
  have h73 := s73 (lc := [c73, c20]) rfl
  have h20 := s20 (lc := [c73, c20]) rfl
  simp only [F26, Fof, ir26]; generalize Phi [c73, c20] = Φ at *
  have k := h73 x hb hl
  have k2 := h20 true [] x0 x1 x.length (crcOf x)
  have e : cErr true [] x0 x1 x.length (crcOf x) = if pOk x0 x1 x.length = true then 0 else 1 := by simp [cErr]
  rw [e] at k2; by_cases hp : pOk x0 x1 x.length = true
  · rw [if_pos hp] at k2; simp -implicitDefEqProofs [k, k2, hp]
  · rw [if_neg hp] at k2; simp -implicitDefEqProofs [k, k2, hp]
theorem s26 {lc : List Ct} (hl0 : Sx.look (lc.map fun c => (c.sig.id, c)) 26 = some c26) : ∀ (x0 x1 : Int) (x : List Int) (hb : ∀ c ∈ x, 0 ≤ c ∧ c < 256) (hl : x.length < 1000000000000000), Does1 (Phi lc) 26 [⟨.int .i64, x0⟩, ⟨.int .i64, x1⟩, ⟨.sl (.int .u8), x⟩] [⟨.bool, pOk x0 x1 x.length⟩, ⟨.sl (.int .u8), []⟩, ⟨.int .i64, if pOk x0 x1 x.length = true then x0 else 0⟩, ⟨.int .i64, if pOk x0 x1 x.length = true then x1 else 0⟩, ⟨.int .i64, if pOk x0 x1 x.length = true then x.length else 0⟩, ⟨.int .u32, if pOk x0 x1 x.length = true then crcOf x else 0⟩, ⟨.int .i64, if pOk x0 x1 x.length = true then 0 else 1⟩] :=
  fun x0 x1 x hb hl => by
    have eFc : c26.F = F26 := rfl
    have eFh := f26 x0 x1 x hb hl
    rw [← eFc] at eFh; exact Does1.of hl0 eFh rfl
theorem f72 (x : List Int) (hl : x.length < 100000000000) : F72 [⟨.sl (.int .u8), x⟩] = some [⟨.sl (.int .u8), x⟩] := by
  simp only [F72, Fof, ir72]; have hb : x.length ≤ BIG := by simp only [BIG]; omega
  by_cases hx : x = []
  · subst hx; simp -implicitDefEqProofs [eqO, BIG]
  · simp -implicitDefEqProofs [hb, hx]
theorem s72 {lc : List Ct} (hl0 : Sx.look (lc.map fun c => (c.sig.id, c)) 72 = some c72) : ∀ (x : List Int) (hl : x.length < 100000000000), Does1 (Phi lc) 72 [⟨.sl (.int .u8), x⟩] [⟨.sl (.int .u8), x⟩] :=
  fun x hl => by
    have eFc : c72.F = F72 := rfl
    have eFh := f72 x hl
    rw [← eFc] at eFh; exact Does1.of hl0 eFh rfl
end Go.Proofs.Ytmglkddddpipgaa.Sx

namespace Go.Proofs.Ytmglkddddpipgaa.Sx

theorem crcOf_lt (l : List Int) : 0 ≤ crcOf l ∧ crcOf l < 4294967296 := val_lt _

end Go.Proofs.Ytmglkddddpipgaa.Sx

namespace Go.Proofs.Ytmglkddddpipgaa.Sx

def dec : Nat → List Int → Option (Nat × Nat)
  | 0, _ => none
  | _, [] => none
  | k + 1, c :: l => if c < 128 then some (c.toNat, 1) else match dec k l with
    | some (v, n) => if v = 0 then none else some ((c % 128).toNat + 128 * v, n + 1)
    | none => none

def getv (b : List Int) : Option (Nat × Nat) := match dec 10 b with
  | some (v, n) => if v < 18446744073709551616 then some (v, n) else none
  | none => none
def gvV (b : List Int) : Int := match getv b with | some (v, _) => v | none => 0
def gvN (b : List Int) : Nat := match getv b with | some (_, n) => n | none => 0

theorem dec_one : ∀ (k v : Nat) (r : List Int), (one v).length ≤ k → dec k (one v ++ r) = some (v, (one v).length)
  | 0, v, r, h => by have := one_pos v; omega
  | k + 1, v, r, h => by
    by_cases hv : v < 128
    · rw [one_small hv]; simp only [List.cons_append, List.nil_append, dec, List.length_cons, List.length_nil]; rw [if_pos (by omega)]; simp
    · rw [one_big hv] at h ⊢; simp only [List.cons_append, dec, List.length_cons] at h ⊢; rw [if_neg (by omega), dec_one k (v / 128) r (by omega)]; simp only
      rw [if_neg (by omega)]; congr 2
      omega

theorem dec_inv : ∀ (k : Nat) (b : List Int) (v n : Nat), (∀ c ∈ b, 0 ≤ c ∧ c < 256) → dec k b = some (v, n) → b.take n = one v ∧ n = (one v).length ∧ n ≤ k ∧ n ≤ b.length
  | 0, b, v, n, _, h => by simp [dec] at h
  | k + 1, [], v, n, _, h => by simp [dec] at h
  | k + 1, c :: l, v, n, hb, h => by
    obtain ⟨c0, c1⟩ := hb c (by simp)
    simp only [dec] at h; split at h
    · simp only [oi, Prod.mk.injEq] at h; obtain ⟨rfl, rfl⟩ := h; rw [one_small (by omega)]
      simp; omega
    · split at h
      · rename_i v' n' hd; split at h
        · cases h
        · simp only [oi, Prod.mk.injEq] at h; obtain ⟨rfl, rfl⟩ := h; obtain ⟨k1, k2, k3, k4⟩ := dec_inv k l v' n' (fun c hc => hb c (by simp [hc])) hd
          have hbig : ¬ ((c % 128).toNat + 128 * v' < 128) := by omega
          rw [one_big hbig]; have e1 : ((c % 128).toNat + 128 * v') / 128 = v' := by omega
          rw [e1]; simp only [List.take_succ_cons, List.length_cons, k1]; refine ⟨?_, by omega, by omega, by omega⟩
          congr 1
          omega
      · cases h

theorem getv_inv {b : List Int} (hb : ∀ c ∈ b, 0 ≤ c ∧ c < 256) {v n : Nat} (h : getv b = some (v, n)) : v < 18446744073709551616 ∧ b.take n = one v ∧ n = (one v).length ∧ n ≤ 10 ∧ n ≤ b.length ∧ 1 ≤ n := by
  unfold getv at h; split at h
  · rename_i v' n' hd; split at h
    · rename_i hv; simp only [oi, Prod.mk.injEq] at h; obtain ⟨rfl, rfl⟩ := h; obtain ⟨h1, h2, h3, h4⟩ := dec_inv 10 b v' n' hb hd; exact ⟨hv, h1, h2, h3, h4, by rw [h2]; exact one_pos _⟩
    · cases h
  · cases h

theorem getv_one (v : Nat) (r : List Int) (h : v < 18446744073709551616) : getv (one v ++ r) = some (v, (one v).length) := by
  unfold getv; rw [dec_one 10 v r (one_len10 v h)]; simp only [if_pos h]

theorem gv_none {b : List Int} (h : getv b = none) : gvV b = 0 ∧ gvN b = 0 := by simp [gvV, gvN, h]
theorem gv_some {b : List Int} {v n : Nat} (h : getv b = some (v, n)) : gvV b = v ∧ gvN b = n := by simp [gvV, gvN, h]
theorem gv_range {b : List Int} (hb : ∀ c ∈ b, 0 ≤ c ∧ c < 256) : 0 ≤ gvV b ∧ gvV b < 18446744073709551616 ∧ gvN b ≤ 10 ∧ gvN b ≤ b.length := by
  cases h : getv b with
  | none => obtain ⟨h1, h2⟩ := gv_none h; rw [h1, h2]; simp
  | some x =>
    obtain ⟨v, n⟩ := x; obtain ⟨h1, h2⟩ := gv_some h; obtain ⟨k1, k2, k3, k4, k5, k6⟩ := getv_inv hb h; rw [h1, h2]; omega

theorem andNot128 (c : Int) (h0 : 0 ≤ c) (h1 : c < 256) : bAndNot .u64 c 128 = c % 128 := by
  obtain ⟨n, rfl⟩ := Int.eq_ofNat_of_zero_le h0; have key : ∀ m : Nat, m < 256 → bAndNot .u64 (m : Int) 128 = (m : Int) % 128 := by decide +kernel
  exact key n (by omega)

theorem or_pow (x y : Int) (k : Nat) (h0 : 0 ≤ x) (h1 : x < 2 ^ k) (h2 : 0 ≤ y) (h3 : x + y * 2 ^ k < 18446744073709551616) : bOr .u64 x (IntKind.u64.wrap (y * 2 ^ k)) = x + y * 2 ^ k := by
  obtain ⟨a, rfl⟩ := Int.eq_ofNat_of_zero_le h0; obtain ⟨b, rfl⟩ := Int.eq_ofNat_of_zero_le h2; have hy : (0 : Int) ≤ (b : Int) * 2 ^ k := Int.mul_nonneg (by omega) (Int.le_of_lt (Int.pow_pos (by omega)))
  have e1 : ((b : Int) * 2 ^ k) = ((b * 2 ^ k : Nat) : Int) := by push_cast; rfl
  have ha : a < 2 ^ k := by
    have : ((a : Int)) < ((2 ^ k : Nat) : Int) := by push_cast; exact h1
    omega
  rw [wu64 _ hy (by omega)]; rw [e1] at h3 ⊢; unfold bOr; rw [BitVec.toNat_or, ofInt_nat, ofInt_nat]; show IntKind.u64.wrap ((a % 18446744073709551616 ||| b * 2 ^ k % 18446744073709551616 : Nat) : Int) = _
  rw [Nat.mod_eq_of_lt (by omega), Nat.mod_eq_of_lt (by omega), Nat.or_comm, Nat.mul_comm b, ← Nat.two_pow_add_eq_or_of_lt ha]; rw [wu64 _ (by omega) (by rw [Nat.mul_comm] at h3; omega)]
  push_cast
  omega

theorem ite9 {α : Type} {p q : Prop} [Decidable p] [Decidable q] (h : ¬ (p ∧ q)) (F B : α) : (if p then (if q then F else B) else B) = B := by
  by_cases hp : p
  · rw [if_pos hp, if_neg (fun hq => h ⟨hp, hq⟩)]
  · rw [if_neg hp]

theorem pow7 : ∀ j : Nat, j < 9 → (2 : Int) ^ (7 * j) ≤ 72057594037927936 := by decide

def res90 (o : Option (Nat × Nat)) (u i : Int) : List D := match o with
  | some (v, n) => if (i ≤ 0 ∨ v ≠ 0) ∧ u + (v : Int) * 2 ^ (7 * i.toNat) < 18446744073709551616 then [⟨.int .u64, u + (v : Int) * 2 ^ (7 * i.toNat)⟩, ⟨.int .i64, i + n⟩, ⟨.int .i64, 0⟩] else [⟨.int .u64, 0⟩, ⟨.int .i64, 0⟩, ⟨.int .i64, 2⟩]
  | none => [⟨.int .u64, 0⟩, ⟨.int .i64, 0⟩, ⟨.int .i64, 2⟩]

theorem f90 (x : List Int) (hb : ∀ c ∈ x, 0 ≤ c ∧ c < 256) : F90 [⟨.sl (.int .u8), x⟩] = some [⟨.int .u64, gvV x⟩, ⟨.int .i64, gvN x⟩, ⟨.int .i64, if gvN x = 0 then 2 else 0⟩] := by
  simp only [F90, Fof, ir90]; simp -implicitDefEqProofs
  refine (iter_meas (fun s : Int × Int => (10 - s.2).toNat) (fun s => res90 (dec (10 - s.2).toNat (x.drop s.2.toNat)) s.1 s.2)
    (fun s => 0 ≤ s.2 ∧ s.2 ≤ 10 ∧ s.2 ≤ x.length ∧ 0 ≤ s.1 ∧ s.1 < 2 ^ (7 * s.2.toNat)) (by exact ⟨by simp, by simp, by simp, by simp, by simp⟩) ?_).trans ?_
  · rintro ⟨u, i⟩ ⟨h1, h2, h3, h4, h5⟩
    simp only at h1 h2 h3 h4 h5 ⊢
    by_cases hi : i < x.length
    · by_cases hk : i < 10
      · have hg := getI (d := dflt (Ty.int IntKind.u8)) h1 hi
        have hc := hb (x[i.toNat]'(by omega)) (List.getElem_mem _)
        rw [dropI h1 hi, if_pos hi, if_pos hk, if_pos ⟨h1, hi⟩]; simp only [hg]; generalize x[i.toNat]'(by omega) = c at hc
        have e7 : IntKind.i64.wrap (7 * i) = 7 * i := wi64 _ (by omega) (by omega)
        have em : (7 * i).toNat.min IntKind.u64.bits = 7 * i.toNat := by
          show min (7 * i).toNat 64 = _
          omega
        have ei : IntKind.i64.wrap (i + 1) = i + 1 := wi64 _ (by omega) (by omega)
        rw [show (10 - i).toNat = (10 - (i + 1)).toNat + 1 by omega]; simp only [wu64 c hc.1 (by omega), e7, em, ei, andNot128 c hc.1 hc.2, show ¬ (7 * i < 0) by omega, if_false]; have hP : (0 : Int) < 2 ^ (7 * i.toNat) := Int.pow_pos (by omega)
        by_cases hA : i = 9 ∧ 1 < c
        · obtain ⟨rfl, hc1⟩ := hA; refine .inr ?_
          rw [if_pos rfl, if_pos hc1]; have hd : dec ((10 - (9 + 1) : Int).toNat + 1) (c :: x.drop (9 + 1 : Int).toNat) = if c < 128 then some (c.toNat, 1) else none := by simp [dec]
          rw [hd]; split
          · simp only [res90]; rw [if_neg]; intro hh; have : (9 : Int).toNat = 9 := rfl
            rw [this] at hh h5; omega
          · rfl
        · rw [ite9 hA]; have hle : c * 2 ^ (7 * i.toNat) ≤ 127 * 2 ^ (7 * i.toNat) ∨ 128 ≤ c := by
            by_cases h : 128 ≤ c
            · exact .inr h
            · exact .inl (Int.mul_le_mul_of_nonneg_right (by omega) (Int.le_of_lt hP))
          have hsum : c < 128 → u + c * 2 ^ (7 * i.toNat) < 18446744073709551616 := by
            intro hc'; by_cases h9 : i = 9
            · have hc1 : c ≤ 1 := by omega
              subst h9; have : (9 : Int).toNat = 9 := rfl
              rw [this] at h5 ⊢; omega
            · have hp7 := pow7 i.toNat (by omega)
              generalize (2 : Int) ^ (7 * i.toNat) = P at *
              have : c * P ≤ 127 * P := by rcases hle with h | h <;> omega
              omega
          by_cases hc8 : c < 128
          · have e128 : c % 128 = c := by omega
            have hs := hsum hc8
            rw [if_pos hc8, e128, or_pow u c (7 * i.toNat) h4 h5 hc.1 hs]; refine .inr ?_
            have hd : dec ((10 - (i + 1)).toNat + 1) (c :: x.drop (i + 1).toNat) = some (c.toNat, 1) := by simp [dec, hc8]
            rw [hd]; have ec : ((c.toNat : Nat) : Int) = c := by omega
            by_cases hc0 : c = 0
            · rw [if_pos hc0]; by_cases hi0 : 0 < i
              · rw [if_pos hi0]; simp only [res90]; rw [if_neg (by omega)]
              · rw [if_neg hi0]; simp only [res90]; rw [ec, if_pos ⟨by omega, hs⟩]; rfl
            · rw [if_neg hc0]; simp only [res90]; rw [ec, if_pos ⟨by omega, hs⟩]; rfl
          · rw [if_neg hc8]; have h9 : i ≠ 9 := by omega
            have hp7 := pow7 i.toNat (by omega)
            have hmul : c % 128 * 2 ^ (7 * i.toNat) ≤ 127 * 2 ^ (7 * i.toNat) := Int.mul_le_mul_of_nonneg_right (by omega) (Int.le_of_lt hP)
            have hmul0 : 0 ≤ c % 128 * 2 ^ (7 * i.toNat) := Int.mul_nonneg (by omega) (Int.le_of_lt hP)
            have hP1 : (2 : Int) ^ (7 * (i + 1).toNat) = 128 * 2 ^ (7 * i.toNat) := by
              rw [show 7 * (i + 1).toNat = 7 + 7 * i.toNat by omega, Int.pow_add]; rfl
            rw [or_pow u (c % 128) (7 * i.toNat) h4 h5 (by omega) (by omega)]; refine .inl ⟨(u + c % 128 * 2 ^ (7 * i.toNat), i + 1), rfl, ⟨by simp; omega, by simp; omega, by simp; omega, by simp only; omega, by simp only [hP1]; omega⟩, by simp only; omega, ?_⟩
            simp only
            simp only [dec, if_neg hc8]; cases hd : dec (10 - (i + 1)).toNat (x.drop (i + 1).toNat) with
            | none => rfl
            | some y =>
              obtain ⟨v, n⟩ := y; simp only [res90]; by_cases hv : v = 0
              · rw [if_pos hv, if_neg (by omega)]
              · rw [if_neg hv]; simp only [hP1]; have e1 : (((c % 128).toNat + 128 * v : Nat) : Int) = c % 128 + 128 * (v : Int) := by omega
                have e2 : u + c % 128 * 2 ^ (7 * i.toNat) + (v : Int) * (128 * 2 ^ (7 * i.toNat)) = u + (c % 128 + 128 * (v : Int)) * 2 ^ (7 * i.toNat) := by
                  rw [Int.add_mul, ← Int.add_assoc, ← Int.mul_assoc, Int.mul_comm (v : Int) 128]
                rw [e1, e2]; have hne : (c % 128).toNat + 128 * v ≠ 0 := by omega
                have e3 : i + 1 + (n : Int) = i + ((n + 1 : Nat) : Int) := by omega
                rw [e3]; simp only [hv, hne, ne_eq, not_false_eq_true, or_true, true_and]
      · refine .inr ?_
        rw [if_pos hi, if_neg hk, show (10 - i).toNat = 0 by omega]; simp [dec, res90]
    · refine .inr ?_
      rw [if_neg hi, List.drop_eq_nil_of_le (by omega)]; cases (10 - i).toNat <;> simp [dec, res90]
  · simp only [Int.sub_zero, show (10 : Int).toNat = 10 from rfl, Int.toNat_zero, List.drop_zero]; cases hd : dec 10 x with
    | none => simp [res90, gvV, gvN, getv, hd]
    | some y =>
      obtain ⟨v, n⟩ := y; obtain ⟨k1, k2, k3, k4⟩ := dec_inv 10 x v n hb hd; have k5 := one_pos v
      by_cases hv : v < 18446744073709551616
      · have : (v : Int) < 18446744073709551616 := by omega
        have hn : n ≠ 0 := by omega
        simp [res90, gvV, gvN, getv, hd, hv, this, hn]
      · have : ¬ (v : Int) < 18446744073709551616 := by omega
        simp [res90, gvV, gvN, getv, hd, hv, this]
theorem s90 {lc : List Ct} (hl0 : Sx.look (lc.map fun c => (c.sig.id, c)) 90 = some c90) : ∀ (x : List Int) (hb : ∀ c ∈ x, 0 ≤ c ∧ c < 256), Does1 (Phi lc) 90 [⟨.sl (.int .u8), x⟩] [⟨.int .u64, gvV x⟩, ⟨.int .i64, gvN x⟩, ⟨.int .i64, if gvN x = 0 then 2 else 0⟩] :=
  fun x hb => by
    have eFc : c90.F = F90 := rfl
    have eFh := f90 x hb
    rw [← eFc] at eFh; exact Does1.of hl0 eFh rfl
end Go.Proofs.Ytmglkddddpipgaa.Sx
