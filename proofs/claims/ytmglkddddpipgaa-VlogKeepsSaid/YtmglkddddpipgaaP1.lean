/-
  The disk's methods as functions of the disk's state.
-/
import Derived.Test.YtmglkddddpipgaaN3
set_option linter.unusedVariables false
set_option linter.unusedSimpArgs false
namespace Go.Proofs.Ytmglkddddpipgaa
open Sx Go.RowKit

abbrev MpT : Ty := .pair .str (.int .i64)
abbrev FmT : Ty := .pair (.int .i64) (.ref 2)
abbrev TnT : Ty := .pair .str (.pair .str (.int .i64))
abbrev DkT : Ty := .pair (.int .i64) (.pair (.ref 3) (.pair (.ref 1) (.pair (.ref 1) (.pair (.sl TnT) (.pair (.int .i64) (.pair (.int .i64) (.pair (.int .i64) .bool)))))))
abbrev FlT : Ty := .pair (.sl (.int .u8)) (.int .i64)

abbrev Mp : Type := List (List Int × Int)
abbrev Fm : Type := List (Int × Option Nat)

section
variable {Φ : Nat → Cont} {k : IR} {R : Type} {lv n : Nat} {ρ : List (Nat × D)} {kr : List D → Option R} {kj : Nat → List D → Option R}

noncomputable def getE {α : Type} (Φ : Nat → Cont) (f : α → List D) (o : Option α) (k : IR) (R : Type) (lv n : Nat) (ρ : List (Nat × D)) (kr : List D → Option R) (kj : Nat → List D → Option R) : Option R :=
  match o with | some y => debP Φ k R lv n ρ (f y) kr kj | none => none
theorem getE_some {α : Type} (f : α → List D) (y : α) : getE Φ f (some y) k R lv n ρ kr kj = debP Φ k R lv n ρ (f y) kr kj := rfl
@[congr] theorem getE_cg {α : Type} {f : α → List D} {o o' : Option α} (h : o = o') : getE Φ f o k R lv n ρ kr kj = getE Φ f o' k R lv n ρ kr kj := by rw [h]
def splD (y : DiskD) : List D := [⟨.int .i64, y.1⟩, ⟨.ref 3, y.2.1⟩, ⟨.ref 1, y.2.2.1⟩, ⟨.ref 1, y.2.2.2.1⟩, ⟨.sl TnT, y.2.2.2.2.1⟩, ⟨.int .i64, y.2.2.2.2.2.1⟩, ⟨.int .i64, y.2.2.2.2.2.2.1⟩, ⟨.int .i64, y.2.2.2.2.2.2.2.1⟩, ⟨.bool, y.2.2.2.2.2.2.2.2⟩]
def splF (y : FileD) : List D := [⟨.sl (.int .u8), y.1⟩, ⟨.int .i64, y.2⟩]
theorem splD_mk (q : Int) (a b c : Option Nat) (ts : List TurnD) (x y z : Int) (d : Bool) : splD (q, a, b, c, ts, x, y, z, d) = [⟨.int .i64, q⟩, ⟨.ref 3, a⟩, ⟨.ref 1, b⟩, ⟨.ref 1, c⟩, ⟨.sl TnT, ts⟩, ⟨.int .i64, x⟩, ⟨.int .i64, y⟩, ⟨.int .i64, z⟩, ⟨.bool, d⟩] := rfl
theorem splF_mk (f : FileD) : splF f = [⟨.sl (.int .u8), f.1⟩, ⟨.int .i64, f.2⟩] := rfl
theorem o_hgetD (j : Nat) (xs : List DiskD) : opD Φ (.hget DkT 0) [⟨.sl DkT, xs⟩, ⟨.ref 0, some j⟩] k R lv n ρ kr kj = getE Φ splD (xs[j]?) k R lv n ρ kr kj := by
  simp only [opD, evalPr, and_self, if_true, getE]; cases xs[j]? <;> rfl
theorem o_hgetF (j : Nat) (xs : List FileD) : opD Φ (.hget FlT 2) [⟨.sl FlT, xs⟩, ⟨.ref 2, some j⟩] k R lv n ρ kr kj = getE Φ splF (xs[j]?) k R lv n ρ kr kj := by
  simp only [opD, evalPr, and_self, if_true, getE]; cases xs[j]? <;> rfl
theorem o_hsetD (j : Nat) (xs : List DiskD) (q : Int) (a b c : Option Nat) (ts : List TurnD) (x y z : Int) (d : Bool) :
    opD Φ (.hset DkT 0) [⟨.sl DkT, xs⟩, ⟨.ref 0, some j⟩, ⟨.int .i64, q⟩, ⟨.ref 3, a⟩, ⟨.ref 1, b⟩, ⟨.ref 1, c⟩, ⟨.sl TnT, ts⟩, ⟨.int .i64, x⟩, ⟨.int .i64, y⟩, ⟨.int .i64, z⟩, ⟨.bool, d⟩] k R lv n ρ kr kj =
      if j < xs.length then deb Φ k R lv (n + 1) ((n, ⟨.sl DkT, xs.set j (q, a, b, c, ts, x, y, z, d)⟩) :: ρ) kr kj else none := rfl
theorem o_hsetF (j : Nat) (xs : List FileD) (b : List Int) (s : Int) :
    opD Φ (.hset FlT 2) [⟨.sl FlT, xs⟩, ⟨.ref 2, some j⟩, ⟨.sl (.int .u8), b⟩, ⟨.int .i64, s⟩] k R lv n ρ kr kj =
      if j < xs.length then deb Φ k R lv (n + 1) ((n, ⟨.sl FlT, xs.set j (b, s)⟩) :: ρ) kr kj else none := rfl
theorem o_hnewM (m : Nat) (xs : List Mp) (y : Mp) : opD Φ (.hnew (.sl MpT) m) [⟨.sl (.sl MpT), xs⟩, ⟨.sl MpT, y⟩] k R lv n ρ kr kj =
    deb Φ k R lv (n + 2) ((n + 1, ⟨.ref m, some xs.length⟩) :: (n, ⟨.sl (.sl MpT), xs ++ [y]⟩) :: ρ) kr kj := rfl
theorem o_hnewFm (m : Nat) (xs : List Fm) (y : Fm) : opD Φ (.hnew (.sl FmT) m) [⟨.sl (.sl FmT), xs⟩, ⟨.sl FmT, y⟩] k R lv n ρ kr kj =
    deb Φ k R lv (n + 2) ((n + 1, ⟨.ref m, some xs.length⟩) :: (n, ⟨.sl (.sl FmT), xs ++ [y]⟩) :: ρ) kr kj := rfl
theorem o_hnewF (xs : List FileD) (b : List Int) (s : Int) : opD Φ (.hnew FlT 2) [⟨.sl FlT, xs⟩, ⟨.sl (.int .u8), b⟩, ⟨.int .i64, s⟩] k R lv n ρ kr kj =
    deb Φ k R lv (n + 2) ((n + 1, ⟨.ref 2, some xs.length⟩) :: (n, ⟨.sl FlT, xs ++ [(b, s)]⟩) :: ρ) kr kj := rfl
theorem o_hnewD (xs : List DiskD) (q : Int) (a b c : Option Nat) (ts : List TurnD) (x y z : Int) (d : Bool) :
    opD Φ (.hnew DkT 0) [⟨.sl DkT, xs⟩, ⟨.int .i64, q⟩, ⟨.ref 3, a⟩, ⟨.ref 1, b⟩, ⟨.ref 1, c⟩, ⟨.sl TnT, ts⟩, ⟨.int .i64, x⟩, ⟨.int .i64, y⟩, ⟨.int .i64, z⟩, ⟨.bool, d⟩] k R lv n ρ kr kj =
      deb Φ k R lv (n + 2) ((n + 1, ⟨.ref 0, some xs.length⟩) :: (n, ⟨.sl DkT, xs ++ [(q, a, b, c, ts, x, y, z, d)]⟩) :: ρ) kr kj := rfl
theorem o_isr (m : Nat) (x : Option Nat) (neg : Bool) : opD Φ (.isr neg) [⟨.ref m, x⟩] k R lv n ρ kr kj = deb Φ k R lv (n + 1) ((n, ⟨.bool, x.isNone != neg⟩) :: ρ) kr kj := by
  cases x <;> cases neg <;> rfl

noncomputable def mapE {K V : Ty} (Φ : Nat → Cont) (o : Option (List (K.den × V.den))) (f : List (K.den × V.den) → List D) (k : IR) (R : Type) (lv n : Nat) (ρ : List (Nat × D)) (kr : List D → Option R) (kj : Nat → List D → Option R) : Option R :=
  match o with | some y => debP Φ k R lv n ρ (f y) kr kj | none => none
def mgO (V : Ty) (ok : Bool) : Option V.den → List D
  | some v => ⟨V, v⟩ :: (if ok = true then [⟨.bool, true⟩] else [])
  | none => ⟨V, dflt V⟩ :: (if ok = true then [⟨.bool, false⟩] else [])
theorem o_mget (K V : Ty) (m : Nat) (ok : Bool) (xs : List (List (K.den × V.den))) (r : Option Nat) (key : K.den) : opD Φ (.mget K V m ok) [⟨.sl (.sl (.pair K V)), xs⟩, ⟨.ref m, r⟩, ⟨K, key⟩] k R lv n ρ kr kj =
    mapE (K := K) (V := V) Φ (mapAt xs r) (fun y => mgO V ok (findM K key y)) k R lv n ρ kr kj := by
  simp only [opD, evalPr, if_true, D.get_self, mapE]; cases h : mapAt xs r with
  | none => rfl
  | some y =>
    simp only
    cases findM K key y <;> rfl
theorem o_mput (K V : Ty) (m j : Nat) (xs : List (List (K.den × V.den))) (key : K.den) (v : V.den) : opD Φ (.mput K V m) [⟨.sl (.sl (.pair K V)), xs⟩, ⟨.ref m, some j⟩, ⟨K, key⟩, ⟨V, v⟩] k R lv n ρ kr kj =
    mapE (K := K) (V := V) Φ (xs[j]?) (fun y => [⟨.sl (.sl (.pair K V)), xs.set j (setM K key v y)⟩]) k R lv n ρ kr kj := by
  simp only [opD, evalPr, if_true, D.get_self, mapE]; cases h : xs[j]? <;> rfl
theorem o_mdel (K V : Ty) (m j : Nat) (xs : List (List (K.den × V.den))) (key : K.den) : opD Φ (.mdel K V m) [⟨.sl (.sl (.pair K V)), xs⟩, ⟨.ref m, some j⟩, ⟨K, key⟩] k R lv n ρ kr kj =
    mapE (K := K) (V := V) Φ (xs[j]?) (fun y => [⟨.sl (.sl (.pair K V)), xs.set j (delM K key y)⟩]) k R lv n ρ kr kj := by
  simp only [opD, evalPr, if_true, D.get_self, mapE]; cases h : xs[j]? <;> rfl
noncomputable def mlE' {K V : Ty} (Φ : Nat → Cont) (o : Option (List (K.den × V.den))) (k : IR) (R : Type) (lv n : Nat) (ρ : List (Nat × D)) (kr : List D → Option R) (kj : Nat → List D → Option R) : Option R :=
  match o with | some y => if y.length ≤ BIG then deb Φ k R lv (n + 1) ((n, ⟨.int .i64, (y.length : Int)⟩) :: ρ) kr kj else none | none => none
theorem o_mlen (K V : Ty) (m : Nat) (xs : List (List (K.den × V.den))) (r : Option Nat) : opD Φ (.mlen K V m) [⟨.sl (.sl (.pair K V)), xs⟩, ⟨.ref m, r⟩] k R lv n ρ kr kj =
    mlE' (K := K) (V := V) Φ (mapAt xs r) k R lv n ρ kr kj := by
  simp only [opD, evalPr, if_true, D.get_self, mlE']; cases h : mapAt xs r <;> rfl
def mgS (ok : Bool) : Option Int → List D
  | some v => ⟨.int .i64, v⟩ :: (if ok = true then [⟨.bool, true⟩] else [])
  | none => ⟨.int .i64, (0 : Int)⟩ :: (if ok = true then [⟨.bool, false⟩] else [])
theorem mgS_st (v : Int) : mgS true (some v) = [⟨.int .i64, v⟩, ⟨.bool, true⟩] := rfl
theorem mgS_sf (v : Int) : mgS false (some v) = [⟨.int .i64, v⟩] := rfl
theorem mgS_nt : mgS true none = [⟨.int .i64, (0 : Int)⟩, ⟨.bool, false⟩] := rfl
def mgF (ok : Bool) : Option (Option Nat) → List D
  | some v => ⟨.ref 2, v⟩ :: (if ok = true then [⟨.bool, true⟩] else [])
  | none => ⟨.ref 2, (none : Option Nat)⟩ :: (if ok = true then [⟨.bool, false⟩] else [])
theorem mgF_sf (v : Option Nat) : mgF false (some v) = [⟨.ref 2, v⟩] := rfl
def findS (key : List Int) : Mp → Option Int := findM .str key
def findF (key : Int) : Fm → Option (Option Nat) := findM (.int .i64) key
def setS (key : List Int) (v : Int) : Mp → Mp := setM .str key v
def setF (key : Int) (v : Option Nat) : Fm → Fm := setM (.int .i64) key v
def delS (key : List Int) : Mp → Mp := delM .str key
theorem o_mgetS (m : Nat) (ok : Bool) (xs : List Mp) (r : Option Nat) (key : List Int) : opD Φ (.mget .str (.int .i64) m ok) [⟨.sl (.sl MpT), xs⟩, ⟨.ref m, r⟩, ⟨.str, key⟩] k R lv n ρ kr kj =
    getE Φ (fun y => mgS ok (findS key y)) (mapAt xs r) k R lv n ρ kr kj := by
  refine (o_mget .str (.int .i64) m ok xs r key).trans ?_
  show mapE (K := .str) (V := (.int .i64)) Φ (mapAt (α := List Int × Int) xs r) _ k R lv n ρ kr kj = _
  generalize mapAt (α := List Int × Int) xs r = o
  cases o with
  | none => rfl
  | some y =>
    show debP Φ k R lv n ρ (mgO (.int .i64) ok (findS key y)) kr kj = debP Φ k R lv n ρ (mgS ok (findS key y)) kr kj
    generalize findS key y = u
    cases u <;> rfl
theorem o_mgetF (m : Nat) (ok : Bool) (xs : List Fm) (r : Option Nat) (key : Int) : opD Φ (.mget (.int .i64) (.ref 2) m ok) [⟨.sl (.sl FmT), xs⟩, ⟨.ref m, r⟩, ⟨.int .i64, key⟩] k R lv n ρ kr kj =
    getE Φ (fun y => mgF ok (findF key y)) (mapAt xs r) k R lv n ρ kr kj := by
  refine (o_mget (.int .i64) (.ref 2) m ok xs r key).trans ?_
  show mapE (K := (.int .i64)) (V := (.ref 2)) Φ (mapAt (α := Int × Option Nat) xs r) _ k R lv n ρ kr kj = _
  generalize mapAt (α := Int × Option Nat) xs r = o
  cases o with
  | none => rfl
  | some y =>
    show debP Φ k R lv n ρ (mgO (.ref 2) ok (findF key y)) kr kj = debP Φ k R lv n ρ (mgF ok (findF key y)) kr kj
    generalize findF key y = u
    cases u <;> rfl
theorem o_mputS (m j : Nat) (xs : List Mp) (key : List Int) (v : Int) : opD Φ (.mput .str (.int .i64) m) [⟨.sl (.sl MpT), xs⟩, ⟨.ref m, some j⟩, ⟨.str, key⟩, ⟨.int .i64, v⟩] k R lv n ρ kr kj =
    getE Φ (fun y => [⟨.sl (.sl MpT), xs.set j (setS key v y)⟩]) (xs[j]?) k R lv n ρ kr kj := by
  refine (o_mput .str (.int .i64) m j xs key v).trans ?_
  show mapE (K := .str) (V := (.int .i64)) Φ (GetElem?.getElem? (coll := List (List (List Int × Int))) xs j) _ k R lv n ρ kr kj = getE Φ _ (GetElem?.getElem? (coll := List (List (List Int × Int))) xs j) k R lv n ρ kr kj
  generalize (GetElem?.getElem? (coll := List (List (List Int × Int))) xs j) = o
  cases o <;> rfl
theorem o_mputF (m j : Nat) (xs : List Fm) (key : Int) (v : Option Nat) : opD Φ (.mput (.int .i64) (.ref 2) m) [⟨.sl (.sl FmT), xs⟩, ⟨.ref m, some j⟩, ⟨.int .i64, key⟩, ⟨.ref 2, v⟩] k R lv n ρ kr kj =
    getE Φ (fun y => [⟨.sl (.sl FmT), xs.set j (setF key v y)⟩]) (xs[j]?) k R lv n ρ kr kj := by
  refine (o_mput (.int .i64) (.ref 2) m j xs key v).trans ?_
  show mapE (K := (.int .i64)) (V := (.ref 2)) Φ (GetElem?.getElem? (coll := List (List (Int × Option Nat))) xs j) _ k R lv n ρ kr kj = getE Φ _ (GetElem?.getElem? (coll := List (List (Int × Option Nat))) xs j) k R lv n ρ kr kj
  generalize (GetElem?.getElem? (coll := List (List (Int × Option Nat))) xs j) = o
  cases o <;> rfl
theorem o_mdelS (m j : Nat) (xs : List Mp) (key : List Int) : opD Φ (.mdel .str (.int .i64) m) [⟨.sl (.sl MpT), xs⟩, ⟨.ref m, some j⟩, ⟨.str, key⟩] k R lv n ρ kr kj =
    getE Φ (fun y => [⟨.sl (.sl MpT), xs.set j (delS key y)⟩]) (xs[j]?) k R lv n ρ kr kj := by
  refine (o_mdel .str (.int .i64) m j xs key).trans ?_
  show mapE (K := .str) (V := (.int .i64)) Φ (GetElem?.getElem? (coll := List (List (List Int × Int))) xs j) _ k R lv n ρ kr kj = getE Φ _ (GetElem?.getElem? (coll := List (List (List Int × Int))) xs j) k R lv n ρ kr kj
  generalize (GetElem?.getElem? (coll := List (List (List Int × Int))) xs j) = o
  cases o <;> rfl
theorem mapAt_some {α : Type} (xs : List (List α)) (j : Nat) : mapAt xs (some j) = xs[j]? := rfl
noncomputable def mlE (Φ : Nat → Cont) (o : Option Mp) (k : IR) (R : Type) (lv n : Nat) (ρ : List (Nat × D)) (kr : List D → Option R) (kj : Nat → List D → Option R) : Option R :=
  match o with | some y => if y.length ≤ BIG then deb Φ k R lv (n + 1) ((n, ⟨.int .i64, (y.length : Int)⟩) :: ρ) kr kj else none | none => none
theorem mlE_some (y : Mp) : mlE Φ (some y) k R lv n ρ kr kj = if y.length ≤ BIG then deb Φ k R lv (n + 1) ((n, ⟨.int .i64, (y.length : Int)⟩) :: ρ) kr kj else none := rfl
@[congr] theorem mlE_cg {o o' : Option Mp} (h : o = o') : mlE Φ o k R lv n ρ kr kj = mlE Φ o' k R lv n ρ kr kj := by rw [h]
theorem o_mlenS (m : Nat) (xs : List Mp) (r : Option Nat) : opD Φ (.mlen .str (.int .i64) m) [⟨.sl (.sl MpT), xs⟩, ⟨.ref m, r⟩] k R lv n ρ kr kj = mlE Φ (mapAt xs r) k R lv n ρ kr kj := by
  refine (o_mlen .str (.int .i64) m xs r).trans ?_
  show mlE' (K := .str) (V := .int .i64) Φ (mapAt (α := List Int × Int) xs r) k R lv n ρ kr kj = mlE Φ (mapAt (α := List Int × Int) xs r) k R lv n ρ kr kj
  generalize (mapAt (α := List Int × Int) xs r) = o
  cases o <;> rfl
theorem d_nr (m : Nat) : (L.nr m).d = ⟨.ref m, none⟩ := rfl
theorem mkD_turn (a b : List Int) (c : Int) : mkD TnT 1 [⟨.str, a⟩, ⟨.str, b⟩, ⟨.int .i64, c⟩] = some ⟨.sl TnT, [(a, b, c)]⟩ := rfl
end
attribute [simp] o_hgetD o_hgetF getE_some splD_mk splF_mk o_hsetD o_hsetF o_hnewM o_hnewFm o_hnewF o_hnewD o_isr mgS_st mgS_sf mgS_nt mgF_sf mapAt_some o_mgetS o_mgetF o_mputS o_mputF o_mdelS mlE_some o_mlenS d_nr mkD_turn
end Go.Proofs.Ytmglkddddpipgaa

namespace Go.Proofs.Ytmglkddddpipgaa
open Sx
def sig57 : Sig := { id := 57, ins := [(false, Ty.str)], outs := [(false, [(Ty.bool, none)])] }
def ir57 : IR := .op (.scmp .neq) [.v 0, .l (.str [])] (.ite (.v 1) (.op .len [.v 0] (.op (.icmp .leq) [.v 2, .l (.int .i64 16)] (.ret [.v 3]))) (.ret [.l (.bool false)]))
def sig54 : Sig := { id := 54, ins := [(false, (Ty.int .u8).sl)], outs := [(false, [((Ty.int .u8).sl, some 5)])] }
def ir54 : IR := .nilc (.v 0) (.ret [.l (.nil (Ty.int .u8))]) (.op (.mk (Ty.int .u8) 0) [] (.op .app [.v 1, .v 0] (.ret [.v 2])))
def sig55 : Sig := { id := 55, ins := [(false, Ty.ref 0)], outs := [(false, [(Ty.bool, none)])], ars := [(0, T0)] }
def ir55 : IR := .op (.isr false) [.v 0] (.ite (.v 2) (.ret [.l (.bool true), .v 1]) (.op (.hget DkT 0) [.v 1, .v 0] (.op (.isr false) [.v 4] (.ite (.v 12) (.op (.hset DkT 0) [.v 1, .v 0, .v 3, .v 4, .v 5, .v 6, .v 7, .v 8, .v 9, .v 10, .v 11] (.ret [.l (.bool true), .v 13])) (.op (.hset DkT 0) [.v 1, .v 0, .v 3, .v 4, .v 5, .v 6, .v 7, .v 8, .v 9, .v 10, .v 11] (.ret [.v 11, .v 13]))))))
def sig58 : Sig := { id := 58, ins := [(false, Ty.ref 0)], outs := [(false, [(Ty.int .i64, none)])], ars := [(0, T0)] }
def ir58 : IR := .op (.hget DkT 0) [.v 1, .v 0] (.op (.icmp .eql) [.v 8, .l (.int .i64 0)] (.ite (.v 11) (.op (.hset DkT 0) [.v 1, .v 0, .v 2, .v 3, .v 4, .v 5, .v 6, .v 7, .v 8, .v 9, .l (.bool true)] (.ret [.l (.int .i64 9), .v 12])) (.op (.icmp .gtr) [.v 8, .l (.int .i64 0)] (.ite (.v 12) (.op (.ibin .sub .i64) [.v 8, .l (.int .i64 1)] (.op (.icmp .gtr) [.v 9, .l (.int .i64 0)] (.ite (.v 14) (.op (.ibin .sub .i64) [.v 9, .l (.int .i64 1)] (.op (.icmp .eql) [.v 15, .l (.int .i64 0)] (.ite (.v 16) (.op (.hset DkT 0) [.v 1, .v 0, .v 2, .v 3, .v 4, .v 5, .v 6, .v 7, .v 13, .v 15, .v 10] (.ret [.l (.int .i64 8), .v 17])) (.op (.hset DkT 0) [.v 1, .v 0, .v 2, .v 3, .v 4, .v 5, .v 6, .v 7, .v 13, .v 15, .v 10] (.ret [.l (.int .i64 0), .v 17]))))) (.op (.hset DkT 0) [.v 1, .v 0, .v 2, .v 3, .v 4, .v 5, .v 6, .v 7, .v 13, .v 9, .v 10] (.ret [.l (.int .i64 0), .v 15]))))) (.op (.icmp .gtr) [.v 9, .l (.int .i64 0)] (.ite (.v 13) (.op (.ibin .sub .i64) [.v 9, .l (.int .i64 1)] (.op (.icmp .eql) [.v 14, .l (.int .i64 0)] (.ite (.v 15) (.op (.hset DkT 0) [.v 1, .v 0, .v 2, .v 3, .v 4, .v 5, .v 6, .v 7, .v 8, .v 14, .v 10] (.ret [.l (.int .i64 8), .v 16])) (.op (.hset DkT 0) [.v 1, .v 0, .v 2, .v 3, .v 4, .v 5, .v 6, .v 7, .v 8, .v 14, .v 10] (.ret [.l (.int .i64 0), .v 16]))))) (.op (.hset DkT 0) [.v 1, .v 0, .v 2, .v 3, .v 4, .v 5, .v 6, .v 7, .v 8, .v 9, .v 10] (.ret [.l (.int .i64 0), .v 14]))))))))
def sig56 : Sig := { id := 56, ins := [(false, Ty.ref 0), (false, Ty.str)], outs := [(false, [(Ty.int .i64, none)]), (false, [(Ty.ref 2, none)]), (false, [(Ty.bool, none)])], ars := [(0, T0), (1, T1), (3, T3)] }
def ir56 : IR := .op (.hget DkT 0) [.v 2, .v 0] (.op (.mget Ty.str (Ty.int .i64) 1 true) [.v 3, .v 7, .v 1] (.op .not [.v 15] (.ite (.v 16) (.op (.hset DkT 0) [.v 2, .v 0, .v 5, .v 6, .v 7, .v 8, .v 9, .v 10, .v 11, .v 12, .v 13] (.ret [.l (.int .i64 0), .l (L.nr 2), .l (.bool false), .v 17, .v 3, .v 4])) (.op (.mget (Ty.int .i64) (Ty.ref 2) 3 false) [.v 4, .v 6, .v 14] (.op (.hset DkT 0) [.v 2, .v 0, .v 5, .v 6, .v 7, .v 8, .v 9, .v 10, .v 11, .v 12, .v 13] (.ret [.v 14, .v 17, .l (.bool true), .v 18, .v 3, .v 4]))))))
def sig51 : Sig := { id := 51, ins := [(true, Ty.str.pair (Ty.str.pair (Ty.int .i64))), (false, Ty.ref 1)], outs := [], ars := [(1, T1)] }
def ir51 : IR := .op (.scmp .neq) [.v 0, .l (.str [])] (.ite (.v 5) (.op (.mdel Ty.str (Ty.int .i64) 1) [.v 4, .v 3, .v 0] (.op (.scmp .neq) [.v 1, .l (.str [])] (.ite (.v 7) (.op (.mput Ty.str (Ty.int .i64) 1) [.v 6, .v 3, .v 1, .v 2] (.ret [.v 8])) (.ret [.v 6])))) (.op (.scmp .neq) [.v 1, .l (.str [])] (.ite (.v 6) (.op (.mput Ty.str (Ty.int .i64) 1) [.v 4, .v 3, .v 1, .v 2] (.ret [.v 7])) (.ret [.v 4]))))
def sig16 : Sig := { id := 16, ins := [(false, Ty.int .i64)], outs := [(false, [(Ty.ref 0, none)]), (false, [(Ty.int .i64, none)])], ars := [(0, T0), (1, T1), (2, T2), (3, T3)] }
def ir16 : IR := .op (.icmp .lss) [.v 0, .l (.int .i64 0)] (.ite (.v 5) (.ret [.l (L.nr 0), .l (.int .i64 1), .v 1, .v 2, .v 3, .v 4]) (.op (.icmp .gtr) [.v 0, .l (.int .i64 4194304)] (.ite (.v 6) (.ret [.l (L.nr 0), .l (.int .i64 1), .v 1, .v 2, .v 3, .v 4]) (.op (.hnew ((Ty.int .i64).pair (Ty.ref 2)).sl 3) [.v 4, .l (.nil ((Ty.int .i64).pair (Ty.ref 2)))] (.op (.hnew (Ty.str.pair (Ty.int .i64)).sl 1) [.v 2, .l (.nil (Ty.str.pair (Ty.int .i64)))] (.op (.hnew (Ty.str.pair (Ty.int .i64)).sl 1) [.v 9, .l (.nil (Ty.str.pair (Ty.int .i64)))] (.op (.hnew DkT 0) [.v 1, .v 0, .v 8, .v 10, .v 12, .l (.nil (Ty.str.pair (Ty.str.pair (Ty.int .i64)))), .l (.int .i64 0), .l (.int .i64 (-1)), .l (.int .i64 0), .l (.bool false)] (.ret [.v 14, .l (.int .i64 0), .v 13, .v 11, .v 3, .v 7]))))))))
def sig31 : Sig := { id := 31, ins := [(false, Ty.ref 0), (false, Ty.int .i64)], outs := [], ars := [(0, T0)] }
def ir31 : IR := .op (.isr true) [.v 0] (.ite (.v 3) (.op .max [.v 1, .l (.int .i64 (-1))] (.op (.hget DkT 0) [.v 2, .v 0] (.op (.hset DkT 0) [.v 2, .v 0, .v 5, .v 6, .v 7, .v 8, .v 9, .v 10, .v 4, .v 12, .v 13] (.ret [.v 14])))) (.ret [.v 2]))
def sig22 : Sig := { id := 22, ins := [(false, Ty.ref 0), (false, Ty.str), (false, (Ty.int .u8).sl)], outs := [(false, [(Ty.int .i64, none)])], ars := [(0, T0), (1, T1), (2, T2), (3, T3)] }
def ir22 : IR := .op (.call 55) [.v 0, .v 3] (.ite (.v 7) (.ret [.l (.int .i64 9), .v 8, .v 4, .v 5, .v 6]) (.op (.call 56) [.v 0, .v 1, .v 8, .v 4, .v 6] (.op (.call 57) [.v 1] (.op .not [.v 15] (.ite (.v 16) (.ret [.l (.int .i64 1), .v 12, .v 13, .v 5, .v 14]) (.op .not [.v 11] (.ite (.v 17) (.op (.hget DkT 0) [.v 12, .v 0] (.op (.mlen Ty.str (Ty.int .i64) 1) [.v 13, .v 20] (.op (.icmp .geq) [.v 27, .l (.int .i64 5000)] (.ite (.v 28) (.op (.hset DkT 0) [.v 12, .v 0, .v 18, .v 19, .v 20, .v 21, .v 22, .v 23, .v 24, .v 25, .v 26] (.ret [.l (.int .i64 7), .v 29, .v 13, .v 5, .v 14])) (.op .len [.v 2] (.op (.hset DkT 0) [.v 12, .v 0, .v 18, .v 19, .v 20, .v 21, .v 22, .v 23, .v 24, .v 25, .v 26] (.op (.call 19) [.v 0, .v 30, .v 5, .v 14] (.op (.icmp .gtr) [.v 29, .v 31] (.ite (.v 35) (.ret [.l (.int .i64 7), .v 32, .v 13, .v 33, .v 34]) (.op (.call 58) [.v 0, .v 32] (.op (.icmp .neq) [.v 36, .l (.int .i64 0)] (.ite (.v 38) (.ret [.v 36, .v 37, .v 13, .v 33, .v 34]) (.op .not [.v 11] (.ite (.v 39) (.op (.hnew FlT 2) [.v 33, .l (.nil (Ty.int .u8)), .l (.int .i64 0)] (.op (.hget DkT 0) [.v 37, .v 0] (.op (.ibin .add .i64) [.v 47, .l (.int .i64 1)] (.op (.mput (Ty.int .i64) (Ty.ref 2) 3) [.v 34, .v 43, .v 51, .v 41] (.op (.mput Ty.str (Ty.int .i64) 1) [.v 13, .v 44, .v 1, .v 51] (.op (.mk (Ty.str.pair (Ty.str.pair (Ty.int .i64))) 1) [.l (.str []), .v 1, .v 51] (.op .app [.v 46, .v 54] (.op (.hget FlT 2) [.v 40, .v 41] (.op .app [.v 56, .v 2] (.op (.hset FlT 2) [.v 40, .v 41, .v 58, .v 57] (.op (.hset DkT 0) [.v 37, .v 0, .v 42, .v 43, .v 44, .v 45, .v 55, .v 51, .v 48, .v 49, .v 50] (.ret [.l (.int .i64 0), .v 60, .v 53, .v 59, .v 52])))))))))))) (.op (.hget FlT 2) [.v 33, .v 10] (.op .app [.v 40, .v 2] (.op (.hset FlT 2) [.v 33, .v 10, .v 42, .v 41] (.ret [.l (.int .i64 0), .v 37, .v 13, .v 43, .v 34])))))))))))))))))) (.op .len [.v 2] (.op (.call 19) [.v 0, .v 12, .v 5, .v 14] (.op (.icmp .gtr) [.v 18, .v 19] (.ite (.v 23) (.ret [.l (.int .i64 7), .v 20, .v 13, .v 21, .v 22]) (.op (.call 58) [.v 0, .v 20] (.op (.icmp .neq) [.v 24, .l (.int .i64 0)] (.ite (.v 26) (.ret [.v 24, .v 25, .v 13, .v 21, .v 22]) (.op .not [.v 11] (.ite (.v 27) (.op (.hnew FlT 2) [.v 21, .l (.nil (Ty.int .u8)), .l (.int .i64 0)] (.op (.hget DkT 0) [.v 25, .v 0] (.op (.ibin .add .i64) [.v 35, .l (.int .i64 1)] (.op (.mput (Ty.int .i64) (Ty.ref 2) 3) [.v 22, .v 31, .v 39, .v 29] (.op (.mput Ty.str (Ty.int .i64) 1) [.v 13, .v 32, .v 1, .v 39] (.op (.mk (Ty.str.pair (Ty.str.pair (Ty.int .i64))) 1) [.l (.str []), .v 1, .v 39] (.op .app [.v 34, .v 42] (.op (.hget FlT 2) [.v 28, .v 29] (.op .app [.v 44, .v 2] (.op (.hset FlT 2) [.v 28, .v 29, .v 46, .v 45] (.op (.hset DkT 0) [.v 25, .v 0, .v 30, .v 31, .v 32, .v 33, .v 43, .v 39, .v 36, .v 37, .v 38] (.ret [.l (.int .i64 0), .v 48, .v 41, .v 47, .v 40])))))))))))) (.op (.hget FlT 2) [.v 21, .v 10] (.op .app [.v 28, .v 2] (.op (.hset FlT 2) [.v 21, .v 10, .v 30, .v 29] (.ret [.l (.int .i64 0), .v 25, .v 13, .v 31, .v 22]))))))))))))))))))))
def sig23 : Sig := { id := 23, ins := [(false, Ty.ref 0), (false, Ty.str)], outs := [(false, [(Ty.int .i64, none)]), (false, [(Ty.bool, none)])], ars := [(0, T0), (1, T1), (2, T2), (3, T3)] }
def ir23 : IR := .op (.isr false) [.v 0] (.ite (.v 6) (.ret [.l (.int .i64 0), .l (.bool false), .v 2, .v 3, .v 4, .v 5]) (.op (.call 56) [.v 0, .v 1, .v 2, .v 3, .v 5] (.op .not [.v 9] (.ite (.v 13) (.ret [.l (.int .i64 0), .l (.bool false), .v 10, .v 11, .v 4, .v 12]) (.op (.hget FlT 2) [.v 4, .v 8] (.op .len [.v 14] (.op (.hset FlT 2) [.v 4, .v 8, .v 14, .v 15] (.ret [.v 16, .l (.bool true), .v 10, .v 11, .v 17, .v 12]))))))))
def sig25 : Sig := { id := 25, ins := [(false, Ty.ref 0), (false, Ty.str)], outs := [(false, [(Ty.int .i64, none)])], ars := [(0, T0), (1, T1), (2, T2), (3, T3)] }
def ir25 : IR := .op (.call 55) [.v 0, .v 2] (.ite (.v 6) (.ret [.l (.int .i64 9), .v 7, .v 3, .v 4, .v 5]) (.op (.call 56) [.v 0, .v 1, .v 7, .v 3, .v 5] (.op .not [.v 10] (.ite (.v 14) (.ret [.l (.int .i64 3), .v 11, .v 12, .v 4, .v 13]) (.op (.call 58) [.v 0, .v 11] (.op (.icmp .neq) [.v 15, .l (.int .i64 0)] (.ite (.v 17) (.ret [.v 15, .v 16, .v 12, .v 4, .v 13]) (.op (.hget FlT 2) [.v 4, .v 9] (.op .len [.v 18] (.op (.hset FlT 2) [.v 4, .v 9, .v 18, .v 20] (.ret [.l (.int .i64 0), .v 16, .v 12, .v 21, .v 13])))))))))))
def sig26 : Sig := { id := 26, ins := [(false, Ty.ref 0)], outs := [(false, [(Ty.int .i64, none)])], ars := [(0, T0), (1, T1), (2, T2), (3, T3)] }
def ir26 : IR := .op (.call 55) [.v 0, .v 1] (.ite (.v 5) (.ret [.l (.int .i64 9), .v 6, .v 2, .v 3, .v 4]) (.op (.call 58) [.v 0, .v 6] (.op (.icmp .neq) [.v 7, .l (.int .i64 0)] (.ite (.v 9) (.ret [.v 7, .v 8, .v 2, .v 3, .v 4]) (.op (.hget DkT 0) [.v 8, .v 0] (.op (.call 50) [.v 12, .v 2] (.op (.hset DkT 0) [.v 8, .v 0, .v 10, .v 11, .v 12, .v 19, .l (.nil (Ty.str.pair (Ty.str.pair (Ty.int .i64)))), .v 15, .v 16, .v 17, .v 18] (.op (.call 52) [.v 0, .v 21, .v 20, .v 3, .v 4] (.ret [.l (.int .i64 0), .v 22, .v 23, .v 24, .v 25])))))))))
def sig44 : Sig := { id := 44, ins := [(false, Ty.ref 0), (false, Ty.str), (false, Ty.int .i64)], outs := [(false, [(Ty.int .i64, none)])], ars := [(0, T0), (1, T1), (2, T2), (3, T3)] }
def ir44 : IR := .op (.call 55) [.v 0, .v 3] (.ite (.v 7) (.ret [.l (.int .i64 9), .v 8, .v 4, .v 5, .v 6]) (.op (.call 56) [.v 0, .v 1, .v 8, .v 4, .v 6] (.op .not [.v 11] (.ite (.v 15) (.ret [.l (.int .i64 3), .v 12, .v 13, .v 5, .v 14]) (.op (.icmp .lss) [.v 2, .l (.int .i64 0)] (.ite (.v 16) (.ret [.l (.int .i64 1), .v 12, .v 13, .v 5, .v 14]) (.op (.hget FlT 2) [.v 5, .v 10] (.op .len [.v 17] (.op (.icmp .gtr) [.v 2, .v 19] (.ite (.v 20) (.op (.hset FlT 2) [.v 5, .v 10, .v 17, .v 18] (.ret [.l (.int .i64 1), .v 12, .v 13, .v 21, .v 14])) (.op (.call 58) [.v 0, .v 12] (.op (.icmp .neq) [.v 21, .l (.int .i64 0)] (.ite (.v 23) (.op (.hset FlT 2) [.v 5, .v 10, .v 17, .v 18] (.ret [.v 21, .v 22, .v 13, .v 24, .v 14])) (.op .sub [.v 17, .l (.int .i64 0), .v 2] (.op (.call 54) [.v 24] (.op .min [.v 18, .v 2] (.op (.hset FlT 2) [.v 5, .v 10, .v 25, .v 26] (.ret [.l (.int .i64 0), .v 22, .v 13, .v 27, .v 14]))))))))))))))))))
def sig21 : Sig := { id := 21, ins := [(false, Ty.ref 0), (true, (Ty.int .i64).pair (Ty.int .i64).sl)], outs := [], ars := [(0, T0), (1, T1), (2, T2), (3, T3)] }
def ir21 : IR := .op (.isr false) [.v 0] (.ite (.v 7) (.ret [.v 3, .v 4, .v 5, .v 6]) (.op (.hget DkT 0) [.v 3, .v 0] (.op (.isr false) [.v 9] (.ite (.v 17) (.op (.hset DkT 0) [.v 3, .v 0, .v 8, .v 9, .v 10, .v 11, .v 12, .v 13, .v 14, .v 15, .v 16] (.ret [.v 18, .v 4, .v 5, .v 6])) (.op (.call 50) [.v 11, .v 4] (.op .max [.v 1, .l (.int .i64 0)] (.op .len [.v 12] (.op .min [.v 20, .v 21] (.op .sub [.v 12, .l (.int .i64 0), .v 22] (.op .len [.v 23] (.op (.hset DkT 0) [.v 3, .v 0, .v 8, .v 9, .v 10, .v 11, .v 12, .v 13, .v 14, .v 15, .v 16] (.loop [.l (.int .i64 0), .v 19] [Ty.int .i64, (Ty.str.pair (Ty.int .i64)).sl.sl] (.op (.icmp .lss) [.v 26, .v 24] (.ite (.v 28) (.op .inb [.v 23, .v 26] (.op (.idx (Ty.str.pair (Ty.str.pair (Ty.int .i64)))) [.v 23, .v 26] (.op (.call 51) [.v 29, .v 30, .v 31, .v 18, .v 27] (.op (.ibin .add .i64) [.v 26, .l (.int .i64 1)] (.jump 0 [.v 33, .v 32]))))) (.op (.call 50) [.v 18, .v 27] (.op (.hget DkT 0) [.v 25, .v 0] (.op (.hset DkT 0) [.v 25, .v 0, .v 31, .v 32, .v 18, .v 29, .l (.nil (Ty.str.pair (Ty.str.pair (Ty.int .i64)))), .v 36, .v 37, .v 38, .v 39] (.op (.call 52) [.v 0, .v 40, .v 30, .v 5, .v 6] (.op (.call 53) [.v 0, .v 41, .v 42] (.op .len [.v 45] (.loop [.l (.int .i64 0), .l (.int .i64 0), .v 43, .v 46] [Ty.int .i64, Ty.int .i64, FlT.sl, DkT.sl] (.op (.icmp .lss) [.v 50, .v 48] (.ite (.v 53) (.op .inb [.v 45, .v 50] (.op (.idx Ty.str) [.v 45, .v 50] (.op (.hget DkT 0) [.v 52, .v 0] (.op (.mget Ty.str (Ty.int .i64) 1 false) [.v 47, .v 57, .v 54] (.op (.mget (Ty.int .i64) (Ty.ref 2) 3 false) [.v 44, .v 56, .v 64] (.op (.hget FlT 2) [.v 51, .v 65] (.op .len [.v 66] (.op (.icmp .eql) [.v 68, .v 67] (.ite (.v 69) (.op (.ibin .add .i64) [.v 50, .l (.int .i64 1)] (.op (.hset FlT 2) [.v 51, .v 65, .v 66, .v 67] (.op (.hset DkT 0) [.v 52, .v 0, .v 55, .v 56, .v 57, .v 58, .v 59, .v 60, .v 61, .v 62, .v 63] (.jump 1 [.v 49, .v 70, .v 71, .v 72])))) (.op .len [.v 2] (.op (.icmp .lss) [.v 49, .v 70] (.ite (.v 71) (.op .inb [.v 2, .v 49] (.op (.idx (Ty.int .i64)) [.v 2, .v 49] (.op .max [.v 72, .l (.int .i64 0)] (.op .len [.v 66] (.op (.ibin .sub .i64) [.v 74, .v 67] (.op .min [.v 73, .v 75] (.op (.ibin .add .i64) [.v 49, .l (.int .i64 1)] (.op (.ibin .add .i64) [.v 67, .v 76] (.op .sub [.v 66, .l (.int .i64 0), .v 78] (.op (.call 54) [.v 79] (.op .len [.v 80] (.op (.ibin .add .i64) [.v 50, .l (.int .i64 1)] (.op (.hset FlT 2) [.v 51, .v 65, .v 80, .v 81] (.op (.hset DkT 0) [.v 52, .v 0, .v 55, .v 56, .v 57, .v 58, .v 59, .v 60, .v 61, .v 62, .v 63] (.jump 1 [.v 77, .v 82, .v 83, .v 84]))))))))))))))) (.op (.ibin .add .i64) [.v 49, .l (.int .i64 1)] (.op (.ibin .add .i64) [.v 67, .l (.int .i64 0)] (.op .sub [.v 66, .l (.int .i64 0), .v 73] (.op (.call 54) [.v 74] (.op .len [.v 75] (.op (.ibin .add .i64) [.v 50, .l (.int .i64 1)] (.op (.hset FlT 2) [.v 51, .v 65, .v 75, .v 76] (.op (.hset DkT 0) [.v 52, .v 0, .v 55, .v 56, .v 57, .v 58, .v 59, .v 60, .v 61, .v 62, .v 63] (.jump 1 [.v 72, .v 77, .v 78, .v 79]))))))))))))))))))))) (.op (.hget DkT 0) [.v 52, .v 0] (.op (.hset DkT 0) [.v 52, .v 0, .v 54, .v 55, .v 56, .v 57, .v 58, .v 59, .l (.int .i64 (-1)), .l (.int .i64 0), .l (.bool false)] (.ret [.v 63, .v 47, .v 51, .v 44]))))))))))))))))))))))))))
def c18 : Ct := ⟨sig18, F18⟩
def c19 : Ct := ⟨sig19, F19⟩
def c50 : Ct := ⟨sig50, F50⟩
def c52 : Ct := ⟨sig52, F52⟩
def c53 : Ct := ⟨sig53, F53⟩
noncomputable def F57 : List D → Option (List D) := Fof [] ir57
noncomputable def c57 : Ct := ⟨sig57, F57⟩
noncomputable def F54 : List D → Option (List D) := Fof [] ir54
noncomputable def c54 : Ct := ⟨sig54, F54⟩
noncomputable def F55 : List D → Option (List D) := Fof [] ir55
noncomputable def c55 : Ct := ⟨sig55, F55⟩
noncomputable def F58 : List D → Option (List D) := Fof [] ir58
noncomputable def c58 : Ct := ⟨sig58, F58⟩
noncomputable def F56 : List D → Option (List D) := Fof [] ir56
noncomputable def c56 : Ct := ⟨sig56, F56⟩
noncomputable def F51 : List D → Option (List D) := Fof [] ir51
noncomputable def c51 : Ct := ⟨sig51, F51⟩
noncomputable def F16 : List D → Option (List D) := Fof [] ir16
noncomputable def c16 : Ct := ⟨sig16, F16⟩
noncomputable def F31 : List D → Option (List D) := Fof [] ir31
noncomputable def c31 : Ct := ⟨sig31, F31⟩
noncomputable def F22 : List D → Option (List D) := Fof [c55, c56, c57, c19, c58] ir22
noncomputable def c22 : Ct := ⟨sig22, F22⟩
noncomputable def F23 : List D → Option (List D) := Fof [c56] ir23
noncomputable def c23 : Ct := ⟨sig23, F23⟩
noncomputable def F25 : List D → Option (List D) := Fof [c55, c56, c58] ir25
noncomputable def c25 : Ct := ⟨sig25, F25⟩
noncomputable def F26 : List D → Option (List D) := Fof [c55, c58, c50, c52] ir26
noncomputable def c26 : Ct := ⟨sig26, F26⟩
noncomputable def F44 : List D → Option (List D) := Fof [c55, c56, c58, c54] ir44
noncomputable def c44 : Ct := ⟨sig44, F44⟩
noncomputable def F21 : List D → Option (List D) := Fof [c50, c51, c52, c53, c54] ir21
noncomputable def c21 : Ct := ⟨sig21, F21⟩
end Go.Proofs.Ytmglkddddpipgaa

namespace Go.Proofs.Ytmglkddddpipgaa
open Sx Go.RowKit

theorem set_same {α : Type} {l : List α} {j : Nat} {x : α} (h : l[j]? = some x) : l.set j x = l := by
  obtain ⟨h1, h2⟩ := List.getElem?_eq_some_iff.1 h
  rw [← h2, List.set_getElem_self]

def mayB (a : List Int) : Bool := if a = [] then false else decide ((a.length : Int) ≤ 16)

theorem f57 (a : List Int) : F57 [⟨.str, a⟩] = some [⟨.bool, mayB a⟩] := by
  simp only [F57, Fof, ir57]; simp -implicitDefEqProofs
  unfold mayB; split <;> rfl
theorem s57 {lc : List Ct} (hl0 : Sx.look (lc.map fun c => (c.sig.id, c)) 57 = some c57) : ∀ (a : List Int), Does1 (Phi lc) 57 [⟨.str, a⟩] [⟨.bool, mayB a⟩] :=
  fun a => by
    have eFc : c57.F = F57 := rfl
    have eFh := f57 a
    rw [← eFc] at eFh; exact Does1.of hl0 eFh rfl

theorem f54 (a : List Int) (h : a.length ≤ BIG) : F54 [⟨.sl (.int .u8), a⟩] = some [⟨.sl (.int .u8), a⟩] := by
  simp only [F54, Fof, ir54]; cases a with
  | nil => simp -implicitDefEqProofs [eqO]
  | cons x a =>
    simp -implicitDefEqProofs
    simpa using h
theorem s54 {lc : List Ct} (hl0 : Sx.look (lc.map fun c => (c.sig.id, c)) 54 = some c54) : ∀ (a : List Int) (h : a.length ≤ BIG), Does1 (Phi lc) 54 [⟨.sl (.int .u8), a⟩] [⟨.sl (.int .u8), a⟩] :=
  fun a h => by
    have eFc : c54.F = F54 := rfl
    have eFh := f54 a h
    rw [← eFc] at eFh; exact Does1.of hl0 eFh rfl

abbrev dk (q : Int) (jn js : Nat) (ts : List TurnD) (nx st fa : Int) (de : Bool) : DiskD := (q, some 0, some jn, some js, ts, nx, st, fa, de)

theorem f55 (q : Int) (jn js : Nat) (ts : List TurnD) (nx st fa : Int) (de : Bool) : F55 [⟨.ref 0, some 0⟩, ⟨.sl DkT, [dk q jn js ts nx st fa de]⟩] = some [⟨.bool, de⟩, ⟨.sl DkT, [dk q jn js ts nx st fa de]⟩] := by
  simp only [F55, Fof, ir55]; simp -implicitDefEqProofs
theorem s55 {lc : List Ct} (hl0 : Sx.look (lc.map fun c => (c.sig.id, c)) 55 = some c55) : ∀ (q : Int) (jn js : Nat) (ts : List TurnD) (nx st fa : Int) (de : Bool), Does1 (Phi lc) 55 [⟨.ref 0, some 0⟩, ⟨.sl DkT, [dk q jn js ts nx st fa de]⟩] [⟨.bool, de⟩, ⟨.sl DkT, [dk q jn js ts nx st fa de]⟩] :=
  fun q jn js ts nx st fa de => by
    have eFc : c55.F = F55 := rfl
    have eFh := f55 q jn js ts nx st fa de
    rw [← eFc] at eFh; exact Does1.of hl0 eFh rfl

def actM (st fa : Int) (de : Bool) : Int × Int × Int × Bool :=
  if st = 0 then (9, st, fa, true) else
    let st' := if st > 0 then st - 1 else st
    if fa > 0 then (if fa - 1 = 0 then (8, st', fa - 1, de) else (0, st', fa - 1, de)) else (0, st', fa, de)

theorem f58 (q : Int) (jn js : Nat) (ts : List TurnD) (nx st fa : Int) (de : Bool) (h1 : -1 ≤ st) (h2 : st < 9223372036854775808) (h3 : 0 ≤ fa) (h4 : fa < 9223372036854775808) : F58 [⟨.ref 0, some 0⟩, ⟨.sl DkT, [dk q jn js ts nx st fa de]⟩] = some [⟨.int .i64, (actM st fa de).1⟩, ⟨.sl DkT, [dk q jn js ts nx (actM st fa de).2.1 (actM st fa de).2.2.1 (actM st fa de).2.2.2]⟩] := by
  simp only [F58, Fof, ir58]; have w0 := wi64 0 (by omega) (by omega)
  by_cases s0 : st = 0
  · simp -implicitDefEqProofs [s0, actM]
  · by_cases s1 : st > 0
    · have w1 := wi64 (st - 1) (by omega) (by omega)
      by_cases g1 : fa > 0
      · have w2 := wi64 (fa - 1) (by omega) (by omega)
        by_cases g2 : fa - 1 = 0
        · simp -implicitDefEqProofs [s0, s1, g1, g2, w1, w2, w0, actM]
        · simp -implicitDefEqProofs [s0, s1, g1, g2, w1, w2, w0, actM]
      · simp -implicitDefEqProofs [s0, s1, g1, w1, actM]
    · by_cases g1 : fa > 0
      · have w2 := wi64 (fa - 1) (by omega) (by omega)
        by_cases g2 : fa - 1 = 0
        · simp -implicitDefEqProofs [s0, s1, g1, g2, w2, w0, actM]
        · simp -implicitDefEqProofs [s0, s1, g1, g2, w2, w0, actM]
      · simp -implicitDefEqProofs [s0, s1, g1, actM]
theorem s58 {lc : List Ct} (hl0 : Sx.look (lc.map fun c => (c.sig.id, c)) 58 = some c58) : ∀ (q : Int) (jn js : Nat) (ts : List TurnD) (nx st fa : Int) (de : Bool) (h1 : -1 ≤ st) (h2 : st < 9223372036854775808) (h3 : 0 ≤ fa) (h4 : fa < 9223372036854775808), Does1 (Phi lc) 58 [⟨.ref 0, some 0⟩, ⟨.sl DkT, [dk q jn js ts nx st fa de]⟩] [⟨.int .i64, (actM st fa de).1⟩, ⟨.sl DkT, [dk q jn js ts nx (actM st fa de).2.1 (actM st fa de).2.2.1 (actM st fa de).2.2.2]⟩] :=
  fun q jn js ts nx st fa de h1 h2 h3 h4 => by
    have eFc : c58.F = F58 := rfl
    have eFh := f58 q jn js ts nx st fa de h1 h2 h3 h4
    rw [← eFc] at eFh; exact Does1.of hl0 eFh rfl

theorem f56n (q : Int) (jn js : Nat) (ts : List TurnD) (nx st fa : Int) (de : Bool) (A1 : List Mp) (fm : Fm) (nm : Mp) (a : List Int) (hn : A1[jn]? = some nm) (hf : findS a nm = none) : F56 [⟨.ref 0, some 0⟩, ⟨.str, a⟩, ⟨.sl DkT, [dk q jn js ts nx st fa de]⟩, ⟨.sl (.sl MpT), A1⟩, ⟨.sl (.sl FmT), [fm]⟩] = some [⟨.int .i64, (0 : Int)⟩, ⟨.ref 2, (none : Option Nat)⟩, ⟨.bool, false⟩, ⟨.sl DkT, [dk q jn js ts nx st fa de]⟩, ⟨.sl (.sl MpT), A1⟩, ⟨.sl (.sl FmT), [fm]⟩] := by
  simp only [F56, Fof, ir56]; simp -implicitDefEqProofs [hn, hf]
theorem s56n {lc : List Ct} (hl0 : Sx.look (lc.map fun c => (c.sig.id, c)) 56 = some c56) : ∀ (q : Int) (jn js : Nat) (ts : List TurnD) (nx st fa : Int) (de : Bool) (A1 : List Mp) (fm : Fm) (nm : Mp) (a : List Int) (hn : A1[jn]? = some nm) (hf : findS a nm = none), Does1 (Phi lc) 56 [⟨.ref 0, some 0⟩, ⟨.str, a⟩, ⟨.sl DkT, [dk q jn js ts nx st fa de]⟩, ⟨.sl (.sl MpT), A1⟩, ⟨.sl (.sl FmT), [fm]⟩] [⟨.int .i64, (0 : Int)⟩, ⟨.ref 2, (none : Option Nat)⟩, ⟨.bool, false⟩, ⟨.sl DkT, [dk q jn js ts nx st fa de]⟩, ⟨.sl (.sl MpT), A1⟩, ⟨.sl (.sl FmT), [fm]⟩] :=
  fun q jn js ts nx st fa de A1 fm nm a hn hf => by
    have eFc : c56.F = F56 := rfl
    have eFh := f56n q jn js ts nx st fa de A1 fm nm a hn hf
    rw [← eFc] at eFh; exact Does1.of hl0 eFh rfl

theorem f56s (q : Int) (jn js : Nat) (ts : List TurnD) (nx st fa : Int) (de : Bool) (A1 : List Mp) (fm : Fm) (nm : Mp) (a : List Int) (i : Int) (k : Option Nat) (hn : A1[jn]? = some nm) (hf : findS a nm = some i) (hi : findF i fm = some k) : F56 [⟨.ref 0, some 0⟩, ⟨.str, a⟩, ⟨.sl DkT, [dk q jn js ts nx st fa de]⟩, ⟨.sl (.sl MpT), A1⟩, ⟨.sl (.sl FmT), [fm]⟩] = some [⟨.int .i64, i⟩, ⟨.ref 2, k⟩, ⟨.bool, true⟩, ⟨.sl DkT, [dk q jn js ts nx st fa de]⟩, ⟨.sl (.sl MpT), A1⟩, ⟨.sl (.sl FmT), [fm]⟩] := by
  simp only [F56, Fof, ir56]; simp -implicitDefEqProofs [hn, hf, hi]
theorem s56s {lc : List Ct} (hl0 : Sx.look (lc.map fun c => (c.sig.id, c)) 56 = some c56) : ∀ (q : Int) (jn js : Nat) (ts : List TurnD) (nx st fa : Int) (de : Bool) (A1 : List Mp) (fm : Fm) (nm : Mp) (a : List Int) (i : Int) (k : Option Nat) (hn : A1[jn]? = some nm) (hf : findS a nm = some i) (hi : findF i fm = some k), Does1 (Phi lc) 56 [⟨.ref 0, some 0⟩, ⟨.str, a⟩, ⟨.sl DkT, [dk q jn js ts nx st fa de]⟩, ⟨.sl (.sl MpT), A1⟩, ⟨.sl (.sl FmT), [fm]⟩] [⟨.int .i64, i⟩, ⟨.ref 2, k⟩, ⟨.bool, true⟩, ⟨.sl DkT, [dk q jn js ts nx st fa de]⟩, ⟨.sl (.sl MpT), A1⟩, ⟨.sl (.sl FmT), [fm]⟩] :=
  fun q jn js ts nx st fa de A1 fm nm a i k hn hf hi => by
    have eFc : c56.F = F56 := rfl
    have eFh := f56s q jn js ts nx st fa de A1 fm nm a i k hn hf hi
    rw [← eFc] at eFh; exact Does1.of hl0 eFh rfl

def turnM (t : TurnD) (nm : Mp) : Mp :=
  let x := if t.1 = [] then nm else delS t.1 nm
  if t.2.1 = [] then x else setS t.2.1 t.2.2 x

theorem f51 (A1 : List Mp) (jn : Nat) (nm : Mp) (a b : List Int) (i : Int) (hn : A1[jn]? = some nm) : F51 [⟨.str, a⟩, ⟨.str, b⟩, ⟨.int .i64, i⟩, ⟨.ref 1, some jn⟩, ⟨.sl (.sl MpT), A1⟩] = some [⟨.sl (.sl MpT), A1.set jn (turnM (a, b, i) nm)⟩] := by
  simp only [F51, Fof, ir51]; have hl := (List.getElem?_eq_some_iff.1 hn).1
  by_cases h1 : a = []
  · by_cases h2 : b = []
    · simp -implicitDefEqProofs [h1, h2, turnM]
      rw [set_same hn]
    · simp -implicitDefEqProofs [h1, h2, turnM, hn]
  · by_cases h2 : b = []
    · simp -implicitDefEqProofs [h1, h2, turnM, hn]
    · have hv : A1[jn] = nm := by obtain ⟨_, h⟩ := List.getElem?_eq_some_iff.1 hn; exact h
      simp -implicitDefEqProofs [h1, h2, turnM, hn, hl, hv]
theorem s51 {lc : List Ct} (hl0 : Sx.look (lc.map fun c => (c.sig.id, c)) 51 = some c51) : ∀ (A1 : List Mp) (jn : Nat) (nm : Mp) (a b : List Int) (i : Int) (hn : A1[jn]? = some nm), Does1 (Phi lc) 51 [⟨.str, a⟩, ⟨.str, b⟩, ⟨.int .i64, i⟩, ⟨.ref 1, some jn⟩, ⟨.sl (.sl MpT), A1⟩] [⟨.sl (.sl MpT), A1.set jn (turnM (a, b, i) nm)⟩] :=
  fun A1 jn nm a b i hn => by
    have eFc : c51.F = F51 := rfl
    have eFh := f51 A1 jn nm a b i hn
    rw [← eFc] at eFh; exact Does1.of hl0 eFh rfl

theorem f19 (q : Int) (jn js : Nat) (ts : List TurnD) (nx st fa : Int) (de : Bool) (A2 : List FileD) (fm : Fm) (n : Nat) (hl : lens A2 fm = some n) (hn : n ≤ BIG) (hq : 0 ≤ q) (hq2 : q ≤ BIG) : F19 [⟨.ref 0, some 0⟩, ⟨.sl DkT, [dk q jn js ts nx st fa de]⟩, ⟨.sl FlT, A2⟩, ⟨.sl (.sl FmT), [fm]⟩] = some [⟨.int .i64, q - n⟩, ⟨.sl DkT, [dk q jn js ts nx st fa de]⟩, ⟨.sl FlT, A2⟩, ⟨.sl (.sl FmT), [fm]⟩] := by
  have hu : usedOf [dk q jn js ts nx st fa de] A2 [fm] (some 0) = some n := by simp [usedOf, hl, hn]
  have hr : roomOf [dk q jn js ts nx st fa de] A2 [fm] (some 0) = some (q - n) := by
    simp only [roomOf, hu, List.getElem?_cons_zero, if_pos (And.intro hq hq2)]
  have g0 : (D0 [dk q jn js ts nx st fa de]).get (.sl T0.t) = some [dk q jn js ts nx st fa de] := D.get_self _ _
  have g2 : (D2 A2).get (.sl T2.t) = some A2 := D.get_self _ _
  have g3 : (D3 [fm]).get (.sl T3.t) = some [fm] := D.get_self _ _
  show F19 [⟨.ref 0, some 0⟩, D0 [dk q jn js ts nx st fa de], D2 A2, D3 [fm]] = _
  simp only [F19, g0, g2, g3, hr]; rfl
theorem s19 {lc : List Ct} (hl0 : Sx.look (lc.map fun c => (c.sig.id, c)) 19 = some c19) : ∀ (q : Int) (jn js : Nat) (ts : List TurnD) (nx st fa : Int) (de : Bool) (A2 : List FileD) (fm : Fm) (n : Nat) (hl : lens A2 fm = some n) (hn : n ≤ BIG) (hq : 0 ≤ q) (hq2 : q ≤ BIG), Does1 (Phi lc) 19 [⟨.ref 0, some 0⟩, ⟨.sl DkT, [dk q jn js ts nx st fa de]⟩, ⟨.sl FlT, A2⟩, ⟨.sl (.sl FmT), [fm]⟩] [⟨.int .i64, q - n⟩, ⟨.sl DkT, [dk q jn js ts nx st fa de]⟩, ⟨.sl FlT, A2⟩, ⟨.sl (.sl FmT), [fm]⟩] :=
  fun q jn js ts nx st fa de A2 fm n hl hn hq hq2 => by
    have eFc : c19.F = F19 := rfl
    have eFh := f19 q jn js ts nx st fa de A2 fm n hl hn hq hq2
    rw [← eFc] at eFh; exact Does1.of hl0 eFh rfl

theorem f50 (A1 : List Mp) (j : Nat) (m : Mp) (h : A1[j]? = some m) : F50 [⟨.ref 1, some j⟩, ⟨.sl (.sl MpT), A1⟩] = some [⟨.ref 1, some A1.length⟩, ⟨.sl (.sl MpT), A1 ++ [m]⟩] := by
  show (match A1[j]? with | some y => some [(⟨.ref 1, some A1.length⟩ : D), ⟨.sl (.sl (.pair .str (.int .i64))), A1 ++ [y]⟩] | none => none) = _
  rw [h]
theorem s50 {lc : List Ct} (hl0 : Sx.look (lc.map fun c => (c.sig.id, c)) 50 = some c50) : ∀ (A1 : List Mp) (j : Nat) (m : Mp) (h : A1[j]? = some m), Does1 (Phi lc) 50 [⟨.ref 1, some j⟩, ⟨.sl (.sl MpT), A1⟩] [⟨.ref 1, some A1.length⟩, ⟨.sl (.sl MpT), A1 ++ [m]⟩] :=
  fun A1 j m h => by
    have eFc : c50.F = F50 := rfl
    have eFh := f50 A1 j m h
    rw [← eFc] at eFh; exact Does1.of hl0 eFh rfl

def keepF (nm sm : Mp) (ts : List TurnD) (fm : Fm) : Fm := fm.filter fun x => keepB nm sm ts x.1

theorem f52 (q : Int) (jn js : Nat) (ts : List TurnD) (nx st fa : Int) (de : Bool) (A1 : List Mp) (A2 : List FileD) (fm : Fm) (nm sm : Mp) (h1 : A1[jn]? = some nm) (h2 : A1[js]? = some sm) (h3 : ts.length ≤ BIG) : F52 [⟨.ref 0, some 0⟩, ⟨.sl DkT, [dk q jn js ts nx st fa de]⟩, ⟨.sl (.sl MpT), A1⟩, ⟨.sl FlT, A2⟩, ⟨.sl (.sl FmT), [fm]⟩] = some [⟨.sl DkT, [dk q jn js ts nx st fa de]⟩, ⟨.sl (.sl MpT), A1⟩, ⟨.sl FlT, A2⟩, ⟨.sl (.sl FmT), [keepF nm sm ts fm]⟩] := by
  have hu : forgetOf [dk q jn js ts nx st fa de] A1 [fm] (some 0) = some [keepF nm sm ts fm] := by
    simp only [forgetOf, keepF, List.getElem?_cons_zero, h1, h2, if_pos h3, List.set_cons_zero]
  have g0 : (D0 [dk q jn js ts nx st fa de]).get (.sl T0.t) = some [dk q jn js ts nx st fa de] := D.get_self _ _
  have g1 : (D1 A1).get (.sl T1.t) = some A1 := D.get_self _ _
  have g2 : (D2 A2).get (.sl T2.t) = some A2 := D.get_self _ _
  have g3 : (D3 [fm]).get (.sl T3.t) = some [fm] := D.get_self _ _
  show F52 [⟨.ref 0, some 0⟩, D0 [dk q jn js ts nx st fa de], D1 A1, D2 A2, D3 [fm]] = _
  simp only [F52, g0, g1, g2, g3, hu]; rfl
theorem s52 {lc : List Ct} (hl0 : Sx.look (lc.map fun c => (c.sig.id, c)) 52 = some c52) : ∀ (q : Int) (jn js : Nat) (ts : List TurnD) (nx st fa : Int) (de : Bool) (A1 : List Mp) (A2 : List FileD) (fm : Fm) (nm sm : Mp) (h1 : A1[jn]? = some nm) (h2 : A1[js]? = some sm) (h3 : ts.length ≤ BIG), Does1 (Phi lc) 52 [⟨.ref 0, some 0⟩, ⟨.sl DkT, [dk q jn js ts nx st fa de]⟩, ⟨.sl (.sl MpT), A1⟩, ⟨.sl FlT, A2⟩, ⟨.sl (.sl FmT), [fm]⟩] [⟨.sl DkT, [dk q jn js ts nx st fa de]⟩, ⟨.sl (.sl MpT), A1⟩, ⟨.sl FlT, A2⟩, ⟨.sl (.sl FmT), [keepF nm sm ts fm]⟩] :=
  fun q jn js ts nx st fa de A1 A2 fm nm sm h1 h2 h3 => by
    have eFc : c52.F = F52 := rfl
    have eFh := f52 q jn js ts nx st fa de A1 A2 fm nm sm h1 h2 h3
    rw [← eFc] at eFh; exact Does1.of hl0 eFh rfl

theorem f53 (q : Int) (jn js : Nat) (ts : List TurnD) (nx st fa : Int) (de : Bool) (A1 : List Mp) (nm : Mp) (h1 : A1[jn]? = some nm) (h3 : nm.length ≤ BIG) : F53 [⟨.ref 0, some 0⟩, ⟨.sl DkT, [dk q jn js ts nx st fa de]⟩, ⟨.sl (.sl MpT), A1⟩] = some [⟨.sl .str, namesOf nm⟩, ⟨.sl DkT, [dk q jn js ts nx st fa de]⟩, ⟨.sl (.sl MpT), A1⟩] := by
  have hu : namesOfD [dk q jn js ts nx st fa de] A1 (some 0) = some (namesOf nm) := by
    simp only [namesOfD, List.getElem?_cons_zero, h1, if_pos h3]
  have g0 : (D0 [dk q jn js ts nx st fa de]).get (.sl T0.t) = some [dk q jn js ts nx st fa de] := D.get_self _ _
  have g1 : (D1 A1).get (.sl T1.t) = some A1 := D.get_self _ _
  show F53 [⟨.ref 0, some 0⟩, D0 [dk q jn js ts nx st fa de], D1 A1] = _
  simp only [F53, g0, g1, hu]; rfl
theorem s53 {lc : List Ct} (hl0 : Sx.look (lc.map fun c => (c.sig.id, c)) 53 = some c53) : ∀ (q : Int) (jn js : Nat) (ts : List TurnD) (nx st fa : Int) (de : Bool) (A1 : List Mp) (nm : Mp) (h1 : A1[jn]? = some nm) (h3 : nm.length ≤ BIG), Does1 (Phi lc) 53 [⟨.ref 0, some 0⟩, ⟨.sl DkT, [dk q jn js ts nx st fa de]⟩, ⟨.sl (.sl MpT), A1⟩] [⟨.sl .str, namesOf nm⟩, ⟨.sl DkT, [dk q jn js ts nx st fa de]⟩, ⟨.sl (.sl MpT), A1⟩] :=
  fun q jn js ts nx st fa de A1 nm h1 h3 => by
    have eFc : c53.F = F53 := rfl
    have eFh := f53 q jn js ts nx st fa de A1 nm h1 h3
    rw [← eFc] at eFh; exact Does1.of hl0 eFh rfl
end Go.Proofs.Ytmglkddddpipgaa

namespace Go.Proofs.Ytmglkddddpipgaa
open Sx Go.RowKit

structure St where
  q : Int
  jn : Nat
  js : Nat
  ts : List TurnD
  nx : Int
  st : Int
  fa : Int
  de : Bool
  A1 : List Mp
  A2 : List FileD
  fm : Fm
def St.nm (s : St) : Mp := (s.A1[s.jn]?).getD []
def St.sm (s : St) : Mp := (s.A1[s.js]?).getD []
abbrev St.d (s : St) : DiskD := dk s.q s.jn s.js s.ts s.nx s.st s.fa s.de

def St.act (s : St) : Int × St := ((actM s.st s.fa s.de).1, { s with st := (actM s.st s.fa s.de).2.1, fa := (actM s.st s.fa s.de).2.2.1, de := (actM s.st s.fa s.de).2.2.2 })

def IsB (a : List Int) : Prop := ∀ c ∈ a, 0 ≤ c ∧ c < 256
def VF (fm : Fm) (A2 : List FileD) : Prop := ∀ x ∈ fm, ∃ (k : Nat) (f : FileD), x.2 = some k ∧ A2[k]? = some f ∧ f.1.length ≤ 4194304 ∧ 0 ≤ f.2 ∧ f.2 ≤ f.1.length
structure Ok (s : St) : Prop where
  ln : s.jn < s.A1.length
  ls : s.js < s.A1.length
  ns : s.jn ≠ s.js
  st1 : -1 ≤ s.st
  st2 : s.st < 9223372036854775808
  fa1 : 0 ≤ s.fa
  fa2 : s.fa < 9223372036854775808
  q1 : 0 ≤ s.q
  q2 : s.q ≤ 4194304
  nx1 : 0 ≤ s.nx
  nx2 : s.nx ≤ 1000000
  ts : s.ts.length ≤ 1000000
  nl : s.nm.length ≤ 1000000
  sl : s.sm.length ≤ 1000000
  names : ∀ x ∈ s.nm, ∃ k, findF x.2 s.fm = some (some k)
  snames : ∀ x ∈ s.sm, ∃ k, findF x.2 s.fm = some (some k)
  tnames : ∀ t ∈ s.ts, t.2.1 ≠ [] → ∃ k, findF t.2.2 s.fm = some (some k)
  nb : ∀ x ∈ s.nm, IsB x.1
  sb : ∀ x ∈ s.sm, IsB x.1
  tb : ∀ t ∈ s.ts, IsB t.2.1
  fm : VF s.fm s.A2

theorem Ok.hn {s : St} (h : Ok s) : s.A1[s.jn]? = some s.nm := by
  unfold St.nm; rw [List.getElem?_eq_getElem h.ln]; rfl
theorem Ok.hs {s : St} (h : Ok s) : s.A1[s.js]? = some s.sm := by
  unfold St.sm; rw [List.getElem?_eq_getElem h.ls]; rfl
theorem findS_mem {a : List Int} {i : Int} : ∀ {m : Mp}, findS a m = some i → (a, i) ∈ m
  | (b, j) :: m, h => by
    simp only [findS, findM, keyEq] at h; by_cases hq : a = b
    · subst hq; simp at h
      subst h; simp
    · simp only [hq, decide_false, Bool.false_eq_true, if_false] at h; exact List.mem_cons_of_mem _ (findS_mem h)
theorem findF_mem {a : Int} {i : Option Nat} : ∀ {m : Fm}, findF a m = some i → (a, i) ∈ m
  | (b, j) :: m, h => by
    simp only [findF, findM, keyEq] at h; by_cases hq : a = b
    · subst hq; simp at h
      subst h; simp
    · simp only [hq, decide_false, Bool.false_eq_true, if_false] at h; exact List.mem_cons_of_mem _ (findF_mem h)
theorem Ok.file {s : St} (h : Ok s) {a : List Int} {i : Int} (hf : findS a s.nm = some i) : ∃ k f, findF i s.fm = some (some k) ∧ s.A2[k]? = some f ∧ k < s.A2.length ∧ f.1.length ≤ 4194304 ∧ 0 ≤ f.2 ∧ f.2 ≤ f.1.length := by
  obtain ⟨k, hk⟩ := h.names _ (findS_mem hf)
  obtain ⟨k', f, h1, h2, h3⟩ := h.fm _ (findF_mem hk)
  simp only [oi] at h1; subst h1; exact ⟨k, f, hk, h2, (List.getElem?_eq_some_iff.1 h2).1, h3⟩

def St.file (s : St) (name : List Int) : Option (Nat × FileD) := match findS name s.nm with
  | some i => match findF i s.fm with
    | some (some k) => (s.A2[k]?).map fun f => (k, f)
    | _ => none
  | none => none

theorem s55S {lc : List Ct} (hl0 : Sx.look (lc.map fun c => (c.sig.id, c)) 55 = some c55) (s : St) : Does1 (Phi lc) 55 [⟨.ref 0, some 0⟩, ⟨.sl DkT, [s.d]⟩] [⟨.bool, s.de⟩, ⟨.sl DkT, [s.d]⟩] := s55 hl0 s.q s.jn s.js s.ts s.nx s.st s.fa s.de
theorem s58S {lc : List Ct} (hl0 : Sx.look (lc.map fun c => (c.sig.id, c)) 58 = some c58) (s : St) (h : Ok s) : Does1 (Phi lc) 58 [⟨.ref 0, some 0⟩, ⟨.sl DkT, [s.d]⟩] [⟨.int .i64, s.act.1⟩, ⟨.sl DkT, [s.act.2.d]⟩] := s58 hl0 s.q s.jn s.js s.ts s.nx s.st s.fa s.de h.st1 h.st2 h.fa1 h.fa2
theorem s56nS {lc : List Ct} (hl0 : Sx.look (lc.map fun c => (c.sig.id, c)) 56 = some c56) (s : St) (h : Ok s) (a : List Int) (hf : findS a s.nm = none) : Does1 (Phi lc) 56 [⟨.ref 0, some 0⟩, ⟨.str, a⟩, ⟨.sl DkT, [s.d]⟩, ⟨.sl (.sl MpT), s.A1⟩, ⟨.sl (.sl FmT), [s.fm]⟩] [⟨.int .i64, (0 : Int)⟩, ⟨.ref 2, (none : Option Nat)⟩, ⟨.bool, false⟩, ⟨.sl DkT, [s.d]⟩, ⟨.sl (.sl MpT), s.A1⟩, ⟨.sl (.sl FmT), [s.fm]⟩] :=
  s56n hl0 s.q s.jn s.js s.ts s.nx s.st s.fa s.de s.A1 s.fm s.nm a h.hn hf
theorem s56sS {lc : List Ct} (hl0 : Sx.look (lc.map fun c => (c.sig.id, c)) 56 = some c56) (s : St) (h : Ok s) (a : List Int) (i : Int) (k : Option Nat) (hf : findS a s.nm = some i) (hi : findF i s.fm = some k) : Does1 (Phi lc) 56 [⟨.ref 0, some 0⟩, ⟨.str, a⟩, ⟨.sl DkT, [s.d]⟩, ⟨.sl (.sl MpT), s.A1⟩, ⟨.sl (.sl FmT), [s.fm]⟩] [⟨.int .i64, i⟩, ⟨.ref 2, k⟩, ⟨.bool, true⟩, ⟨.sl DkT, [s.d]⟩, ⟨.sl (.sl MpT), s.A1⟩, ⟨.sl (.sl FmT), [s.fm]⟩] :=
  s56s hl0 s.q s.jn s.js s.ts s.nx s.st s.fa s.de s.A1 s.fm s.nm a i k h.hn hf hi
theorem s19S {lc : List Ct} (hl0 : Sx.look (lc.map fun c => (c.sig.id, c)) 19 = some c19) (s : St) (h : Ok s) (n : Nat) (hl : lens s.A2 s.fm = some n) (hn : n ≤ BIG) : Does1 (Phi lc) 19 [⟨.ref 0, some 0⟩, ⟨.sl DkT, [s.d]⟩, ⟨.sl FlT, s.A2⟩, ⟨.sl (.sl FmT), [s.fm]⟩] [⟨.int .i64, s.q - n⟩, ⟨.sl DkT, [s.d]⟩, ⟨.sl FlT, s.A2⟩, ⟨.sl (.sl FmT), [s.fm]⟩] :=
  s19 hl0 s.q s.jn s.js s.ts s.nx s.st s.fa s.de s.A2 s.fm n hl hn h.q1 (by have := h.q2; unfold BIG; omega)
def St.forget (s : St) : St := { s with fm := keepF s.nm s.sm s.ts s.fm }
theorem s52S {lc : List Ct} (hl0 : Sx.look (lc.map fun c => (c.sig.id, c)) 52 = some c52) (s : St) (h1 : s.A1[s.jn]? = some s.nm) (h2 : s.A1[s.js]? = some s.sm) (h3 : s.ts.length ≤ 1000001) : Does1 (Phi lc) 52 [⟨.ref 0, some 0⟩, ⟨.sl DkT, [s.d]⟩, ⟨.sl (.sl MpT), s.A1⟩, ⟨.sl FlT, s.A2⟩, ⟨.sl (.sl FmT), [s.fm]⟩] [⟨.sl DkT, [s.forget.d]⟩, ⟨.sl (.sl MpT), s.forget.A1⟩, ⟨.sl FlT, s.forget.A2⟩, ⟨.sl (.sl FmT), [s.forget.fm]⟩] :=
  s52 hl0 s.q s.jn s.js s.ts s.nx s.st s.fa s.de s.A1 s.A2 s.fm s.nm s.sm h1 h2 (by unfold BIG; omega)
theorem s53S {lc : List Ct} (hl0 : Sx.look (lc.map fun c => (c.sig.id, c)) 53 = some c53) (s : St) (h1 : s.A1[s.jn]? = some s.nm) (h3 : s.nm.length ≤ 10000000) : Does1 (Phi lc) 53 [⟨.ref 0, some 0⟩, ⟨.sl DkT, [s.d]⟩, ⟨.sl (.sl MpT), s.A1⟩] [⟨.sl .str, namesOf s.nm⟩, ⟨.sl DkT, [s.d]⟩, ⟨.sl (.sl MpT), s.A1⟩] :=
  s53 hl0 s.q s.jn s.js s.ts s.nx s.st s.fa s.de s.A1 s.nm h1 (by unfold BIG; omega)

theorem f31 (s : St) (n : Int) : F31 [⟨.ref 0, some 0⟩, ⟨.int .i64, n⟩, ⟨.sl DkT, [s.d]⟩] = some [⟨.sl DkT, [{ s with st := max n (-1) }.d]⟩] := by
  simp only [F31, Fof, ir31]; simp -implicitDefEqProofs
  split <;> omega
theorem s31 {lc : List Ct} (hl0 : Sx.look (lc.map fun c => (c.sig.id, c)) 31 = some c31) : ∀ (s : St) (n : Int), Does1 (Phi lc) 31 [⟨.ref 0, some 0⟩, ⟨.int .i64, n⟩, ⟨.sl DkT, [s.d]⟩] [⟨.sl DkT, [{ s with st := max n (-1) }.d]⟩] :=
  fun s n => by
    have eFc : c31.F = F31 := rfl
    have eFh := f31 s n
    rw [← eFc] at eFh; exact Does1.of hl0 eFh rfl

@[simp] theorem act_A1 (s : St) : s.act.2.A1 = s.A1 := rfl
@[simp] theorem act_A2 (s : St) : s.act.2.A2 = s.A2 := rfl
@[simp] theorem act_fm (s : St) : s.act.2.fm = s.fm := rfl
@[simp] theorem act_jn (s : St) : s.act.2.jn = s.jn := rfl
@[simp] theorem act_js (s : St) : s.act.2.js = s.js := rfl
@[simp] theorem act_ts (s : St) : s.act.2.ts = s.ts := rfl
@[simp] theorem act_q (s : St) : s.act.2.q = s.q := rfl
@[simp] theorem act_nx (s : St) : s.act.2.nx = s.nx := rfl
@[simp] theorem act_nm (s : St) : s.act.2.nm = s.nm := rfl
theorem St.nm_of {s : St} (h : s.jn < s.A1.length) : s.A1[s.jn]? = some s.nm := by
  unfold St.nm; rw [List.getElem?_eq_getElem h]; rfl
theorem St.sm_of {s : St} (h : s.js < s.A1.length) : s.A1[s.js]? = some s.sm := by
  unfold St.sm; rw [List.getElem?_eq_getElem h]; rfl

def syncM (s : St) (name : List Int) : Int × St :=
  if s.de = true then (9, s) else match s.file name with
  | none => (3, s)
  | some (k, f) => if s.act.1 = 0 then (0, { s.act.2 with A2 := s.A2.set k (f.1, f.1.length) }) else s.act

theorem f25 (s : St) (a : List Int) (h : Ok s) : F25 [⟨.ref 0, some 0⟩, ⟨.str, a⟩, ⟨.sl DkT, [s.d]⟩, ⟨.sl (.sl MpT), s.A1⟩, ⟨.sl FlT, s.A2⟩, ⟨.sl (.sl FmT), [s.fm]⟩] = some [⟨.int .i64, (syncM s a).1⟩, ⟨.sl DkT, [(syncM s a).2.d]⟩, ⟨.sl (.sl MpT), (syncM s a).2.A1⟩, ⟨.sl FlT, (syncM s a).2.A2⟩, ⟨.sl (.sl FmT), [(syncM s a).2.fm]⟩] := by
  have h55S := s55S (lc := [c55, c56, c58]) rfl
  have h56nS := s56nS (lc := [c55, c56, c58]) rfl
  have h56sS := s56sS (lc := [c55, c56, c58]) rfl
  have h58S := s58S (lc := [c55, c56, c58]) rfl
  simp only [F25, Fof, ir25]; generalize Phi [c55, c56, c58] = Φ at *
  have g55 := h55S s
  have g58 := h58S s h
  cases hd : s.de with
  | true =>
    rw [hd] at g55; simp -implicitDefEqProofs [g55, hd, syncM]
  | false =>
    rw [hd] at g55; cases hf : findS a s.nm with
    | none =>
      have g56 := h56nS s h a hf
      simp -implicitDefEqProofs [g55, hd, g56, syncM, St.file, hf]
    | some i =>
      obtain ⟨k, f, hk, hk2, hkl, _⟩ := h.file hf; have g56 := h56sS s h a i (some k) hf hk
      by_cases ha : s.act.1 = 0
      · simp -implicitDefEqProofs [g55, hd, g56, g58, syncM, St.file, hf, hk, hk2, hkl, ha]
      · simp -implicitDefEqProofs [g55, hd, g56, g58, syncM, St.file, hf, hk, hk2, hkl, ha]
theorem s25 {lc : List Ct} (hl0 : Sx.look (lc.map fun c => (c.sig.id, c)) 25 = some c25) : ∀ (s : St) (a : List Int) (h : Ok s), Does1 (Phi lc) 25 [⟨.ref 0, some 0⟩, ⟨.str, a⟩, ⟨.sl DkT, [s.d]⟩, ⟨.sl (.sl MpT), s.A1⟩, ⟨.sl FlT, s.A2⟩, ⟨.sl (.sl FmT), [s.fm]⟩] [⟨.int .i64, (syncM s a).1⟩, ⟨.sl DkT, [(syncM s a).2.d]⟩, ⟨.sl (.sl MpT), (syncM s a).2.A1⟩, ⟨.sl FlT, (syncM s a).2.A2⟩, ⟨.sl (.sl FmT), [(syncM s a).2.fm]⟩] :=
  fun s a h => by
    have eFc : c25.F = F25 := rfl
    have eFh := f25 s a h
    rw [← eFc] at eFh; exact Does1.of hl0 eFh rfl

def St.safeN (s : St) : St := { s with js := s.A1.length, A1 := s.A1 ++ [s.nm], ts := [] }
def syncNamesM (s : St) : Int × St :=
  if s.de = true then (9, s) else if s.act.1 = 0 then (0, s.act.2.safeN.forget) else s.act

theorem f26 (s : St) (h : Ok s) : F26 [⟨.ref 0, some 0⟩, ⟨.sl DkT, [s.d]⟩, ⟨.sl (.sl MpT), s.A1⟩, ⟨.sl FlT, s.A2⟩, ⟨.sl (.sl FmT), [s.fm]⟩] = some [⟨.int .i64, (syncNamesM s).1⟩, ⟨.sl DkT, [(syncNamesM s).2.d]⟩, ⟨.sl (.sl MpT), (syncNamesM s).2.A1⟩, ⟨.sl FlT, (syncNamesM s).2.A2⟩, ⟨.sl (.sl FmT), [(syncNamesM s).2.fm]⟩] := by
  have h55S := s55S (lc := [c55, c58, c50, c52]) rfl
  have h58S := s58S (lc := [c55, c58, c50, c52]) rfl
  have h50 := s50 (lc := [c55, c58, c50, c52]) rfl
  have h52S := s52S (lc := [c55, c58, c50, c52]) rfl
  simp only [F26, Fof, ir26]; generalize Phi [c55, c58, c50, c52] = Φ at *
  have g55 := h55S s
  have g58 := h58S s h
  have g50 := h50 s.A1 s.jn s.nm h.hn
  have hl := h.ln
  have g52 : Does1 Φ 52 [⟨.ref 0, some 0⟩, ⟨.sl DkT, [(s.q, some 0, some s.jn, some s.A1.length, [], s.nx, s.act.2.st, s.act.2.fa, s.act.2.de)]⟩, ⟨.sl (.sl MpT), s.A1 ++ [s.nm]⟩, ⟨.sl FlT, s.A2⟩, ⟨.sl (.sl FmT), [s.fm]⟩]
    [⟨.sl DkT, [s.act.2.safeN.forget.d]⟩, ⟨.sl (.sl MpT), s.act.2.safeN.forget.A1⟩, ⟨.sl FlT, s.act.2.safeN.forget.A2⟩, ⟨.sl (.sl FmT), [s.act.2.safeN.forget.fm]⟩] := h52S s.act.2.safeN (St.nm_of (by simp [St.safeN]; omega)) (St.sm_of (by simp [St.safeN])) (by simp [St.safeN])
  cases hd : s.de with
  | true =>
    rw [hd] at g55; simp -implicitDefEqProofs [g55, hd, syncNamesM]
  | false =>
    rw [hd] at g55; by_cases ha : s.act.1 = 0
    · simp -implicitDefEqProofs [g55, hd, g58, g50, g52, syncNamesM, ha]
    · simp -implicitDefEqProofs [g55, hd, g58, syncNamesM, ha]
theorem s26 {lc : List Ct} (hl0 : Sx.look (lc.map fun c => (c.sig.id, c)) 26 = some c26) : ∀ (s : St) (h : Ok s), Does1 (Phi lc) 26 [⟨.ref 0, some 0⟩, ⟨.sl DkT, [s.d]⟩, ⟨.sl (.sl MpT), s.A1⟩, ⟨.sl FlT, s.A2⟩, ⟨.sl (.sl FmT), [s.fm]⟩] [⟨.int .i64, (syncNamesM s).1⟩, ⟨.sl DkT, [(syncNamesM s).2.d]⟩, ⟨.sl (.sl MpT), (syncNamesM s).2.A1⟩, ⟨.sl FlT, (syncNamesM s).2.A2⟩, ⟨.sl (.sl FmT), [(syncNamesM s).2.fm]⟩] :=
  fun s h => by
    have eFc : c26.F = F26 := rfl
    have eFh := f26 s h
    rw [← eFc] at eFh; exact Does1.of hl0 eFh rfl

def cutM (s : St) (name : List Int) (n : Int) : Int × St :=
  if s.de = true then (9, s) else match s.file name with
  | none => (3, s)
  | some (k, f) => if n < 0 ∨ n > f.1.length then (1, s) else if s.act.1 = 0 then (0, { s.act.2 with A2 := s.A2.set k (f.1.take n.toNat, min f.2 n) }) else s.act

theorem f44 (s : St) (a : List Int) (n : Int) (h : Ok s) : F44 [⟨.ref 0, some 0⟩, ⟨.str, a⟩, ⟨.int .i64, n⟩, ⟨.sl DkT, [s.d]⟩, ⟨.sl (.sl MpT), s.A1⟩, ⟨.sl FlT, s.A2⟩, ⟨.sl (.sl FmT), [s.fm]⟩] = some [⟨.int .i64, (cutM s a n).1⟩, ⟨.sl DkT, [(cutM s a n).2.d]⟩, ⟨.sl (.sl MpT), (cutM s a n).2.A1⟩, ⟨.sl FlT, (cutM s a n).2.A2⟩, ⟨.sl (.sl FmT), [(cutM s a n).2.fm]⟩] := by
  have h55S := s55S (lc := [c55, c56, c58, c54]) rfl
  have h56nS := s56nS (lc := [c55, c56, c58, c54]) rfl
  have h56sS := s56sS (lc := [c55, c56, c58, c54]) rfl
  have h58S := s58S (lc := [c55, c56, c58, c54]) rfl
  have h54 := s54 (lc := [c55, c56, c58, c54]) rfl
  simp only [F44, Fof, ir44]; generalize Phi [c55, c56, c58, c54] = Φ at *
  have g55 := h55S s
  have g58 := h58S s h
  cases hd : s.de with
  | true =>
    rw [hd] at g55; simp -implicitDefEqProofs [g55, hd, cutM]
  | false =>
    rw [hd] at g55; cases hf : findS a s.nm with
    | none =>
      have g56 := h56nS s h a hf
      simp -implicitDefEqProofs [g55, hd, g56, cutM, St.file, hf]
    | some i =>
      obtain ⟨k, f, hk, hk2, hkl, hb1, hb2, hb3⟩ := h.file hf; have g56 := h56sS s h a i (some k) hf hk
      have hss : s.A2.set k (f.1, f.2) = s.A2 := set_same hk2
      obtain ⟨_, hv⟩ := List.getElem?_eq_some_iff.1 hk2
      by_cases hn : n < 0
      · simp -implicitDefEqProofs [g55, hd, g56, cutM, St.file, hf, hk, hk2, hkl, hv, hn]
      · by_cases hn2 : n > f.1.length
        · simp -implicitDefEqProofs [g55, hd, g56, cutM, St.file, hf, hk, hk2, hkl, hv, hn, hn2, hss]
        · by_cases ha : s.act.1 = 0
          · have g54 := h54 (f.1.take n.toNat) (by simp [BIG]; omega)
            have hmn : ¬ (n < 0 ∨ n > f.1.length) := by omega
            simp -implicitDefEqProofs [g55, hd, g56, g58, g54, cutM, St.file, hf, hk, hk2, hkl, hv, hn, hn2, ha]
            refine ⟨⟨by omega, by omega⟩, ?_⟩
            congr 2
            split <;> omega
          · simp -implicitDefEqProofs [g55, hd, g56, g58, cutM, St.file, hf, hk, hk2, hkl, hv, hn, hn2, ha, hss]
theorem s44 {lc : List Ct} (hl0 : Sx.look (lc.map fun c => (c.sig.id, c)) 44 = some c44) : ∀ (s : St) (a : List Int) (n : Int) (h : Ok s), Does1 (Phi lc) 44 [⟨.ref 0, some 0⟩, ⟨.str, a⟩, ⟨.int .i64, n⟩, ⟨.sl DkT, [s.d]⟩, ⟨.sl (.sl MpT), s.A1⟩, ⟨.sl FlT, s.A2⟩, ⟨.sl (.sl FmT), [s.fm]⟩] [⟨.int .i64, (cutM s a n).1⟩, ⟨.sl DkT, [(cutM s a n).2.d]⟩, ⟨.sl (.sl MpT), (cutM s a n).2.A1⟩, ⟨.sl FlT, (cutM s a n).2.A2⟩, ⟨.sl (.sl FmT), [(cutM s a n).2.fm]⟩] :=
  fun s a n h => by
    have eFc : c44.F = F44 := rfl
    have eFh := f44 s a n h
    rw [← eFc] at eFh; exact Does1.of hl0 eFh rfl

end Go.Proofs.Ytmglkddddpipgaa

namespace Go.Proofs.Ytmglkddddpipgaa
open Sx Go.RowKit

def St.newF (s : St) (a b : List Int) : St := { s with nx := s.nx + 1, A2 := s.A2 ++ [(b, 0)], fm := setF (s.nx + 1) (some s.A2.length) s.fm, A1 := s.A1.set s.jn (setS a (s.nx + 1) s.nm), ts := s.ts ++ [([], a, s.nx + 1)] }
def appendM (s : St) (a b : List Int) (used : Nat) : Int × St :=
  if s.de = true then (9, s) else if mayB a = false then (1, s) else match findS a s.nm with
  | none => if s.nm.length ≥ 5000 then (7, s) else if (b.length : Int) > s.q - used then (7, s) else if s.act.1 = 0 then (0, s.act.2.newF a b) else s.act
  | some i => if (b.length : Int) > s.q - used then (7, s) else if s.act.1 = 0 then (match findF i s.fm with
    | some (some k) => match s.A2[k]? with
      | some f => (0, { s.act.2 with A2 := s.A2.set k (f.1 ++ b, f.2) })
      | none => s.act
    | _ => s.act) else s.act

theorem f22 (s : St) (a b : List Int) (n : Nat) (h : Ok s) (hl : lens s.A2 s.fm = some n) (hn : n ≤ 4194304) (hb : b.length ≤ 4194304) (hx : s.nx < 1000000) : F22 [⟨.ref 0, some 0⟩, ⟨.str, a⟩, ⟨.sl (.int .u8), b⟩, ⟨.sl DkT, [s.d]⟩, ⟨.sl (.sl MpT), s.A1⟩, ⟨.sl FlT, s.A2⟩, ⟨.sl (.sl FmT), [s.fm]⟩] = some [⟨.int .i64, (appendM s a b n).1⟩, ⟨.sl DkT, [(appendM s a b n).2.d]⟩, ⟨.sl (.sl MpT), (appendM s a b n).2.A1⟩, ⟨.sl FlT, (appendM s a b n).2.A2⟩, ⟨.sl (.sl FmT), [(appendM s a b n).2.fm]⟩] := by
  have h55S := s55S (lc := [c55, c56, c57, c19, c58]) rfl
  have h56nS := s56nS (lc := [c55, c56, c57, c19, c58]) rfl
  have h56sS := s56sS (lc := [c55, c56, c57, c19, c58]) rfl
  have h57 := s57 (lc := [c55, c56, c57, c19, c58]) rfl
  have h19S := s19S (lc := [c55, c56, c57, c19, c58]) rfl
  have h58S := s58S (lc := [c55, c56, c57, c19, c58]) rfl
  simp only [F22, Fof, ir22]; generalize Phi [c55, c56, c57, c19, c58] = Φ at *
  have g55 := h55S s
  have g58 := h58S s h
  have g57 := h57 a
  have g19 := h19S s h n hl (by unfold BIG; omega)
  have htl := h.ts
  have hnl := h.nl
  have hx1 := h.nx1
  have hB : s.ts.length + 1 ≤ BIG := by unfold BIG; omega
  have hN : s.nm.length ≤ BIG := by unfold BIG; omega
  have hb2 : b.length ≤ BIG := by unfold BIG; omega
  have w1 := wi64 (s.nx + 1) (by omega) (by omega)
  cases hd : s.de with
  | true =>
    rw [hd] at g55; simp -implicitDefEqProofs [g55, hd, appendM]
  | false =>
    rw [hd] at g55; have hfo : ((s.q, some 0, some s.jn, some s.js, s.ts, s.nx, s.st, s.fa, false) : DiskD) = s.d := by rw [← hd]
    cases hf : findS a s.nm with
    | none =>
      have g56 := h56nS s h a hf
      cases hm : mayB a with
      | false => rw [hm] at g57; simp -implicitDefEqProofs [g55, hd, g56, g57, appendM, hf, hm]
      | true =>
        rw [hm] at g57; by_cases hnm : (s.nm.length : Int) ≥ 5000
        · have hnm' : s.nm.length ≥ 5000 := by omega
          simp -implicitDefEqProofs [g55, hd, g56, g57, appendM, hf, hm, hnm, hnm', h.hn, hN, hfo]
        · have hnm' : ¬ s.nm.length ≥ 5000 := by omega
          by_cases hr : (b.length : Int) > s.q - n
          · simp -implicitDefEqProofs [g55, hd, g56, g57, g19, appendM, hf, hm, hnm, hnm', h.hn, hN, hfo, hr]
          · by_cases ha : s.act.1 = 0
            · simp -implicitDefEqProofs [g55, hd, g56, g57, g58, g19, appendM, hf, hm, hnm, hnm', h.hn, hN, hfo, hr, ha, w1, hB, hb2, St.newF]
            · simp -implicitDefEqProofs [g55, hd, g56, g57, g58, g19, appendM, hf, hm, hnm, hnm', h.hn, hN, hfo, hr, ha]
    | some i =>
      obtain ⟨k, f, hk, hk2, hkl, hf1, hf2, hf3⟩ := h.file hf; obtain ⟨_, hv⟩ := List.getElem?_eq_some_iff.1 hk2
      have g56 := h56sS s h a i (some k) hf hk
      have hfb : f.1.length + b.length ≤ BIG := by unfold BIG; omega
      cases hm : mayB a with
      | false => rw [hm] at g57; simp -implicitDefEqProofs [g55, hd, g56, g57, appendM, hf, hm]
      | true =>
        rw [hm] at g57; by_cases hr : (b.length : Int) > s.q - n
        · simp -implicitDefEqProofs [g55, hd, g56, g57, g19, appendM, hf, hm, hr]
        · by_cases ha : s.act.1 = 0
          · simp -implicitDefEqProofs [g55, hd, g56, g57, g58, g19, appendM, hf, hm, hr, ha, hk, hk2, hkl, hv, hfb]
          · simp -implicitDefEqProofs [g55, hd, g56, g57, g58, g19, appendM, hf, hm, hr, ha]
theorem s22 {lc : List Ct} (hl0 : Sx.look (lc.map fun c => (c.sig.id, c)) 22 = some c22) : ∀ (s : St) (a b : List Int) (n : Nat) (h : Ok s) (hl : lens s.A2 s.fm = some n) (hn : n ≤ 4194304) (hb : b.length ≤ 4194304) (hx : s.nx < 1000000), Does1 (Phi lc) 22 [⟨.ref 0, some 0⟩, ⟨.str, a⟩, ⟨.sl (.int .u8), b⟩, ⟨.sl DkT, [s.d]⟩, ⟨.sl (.sl MpT), s.A1⟩, ⟨.sl FlT, s.A2⟩, ⟨.sl (.sl FmT), [s.fm]⟩] [⟨.int .i64, (appendM s a b n).1⟩, ⟨.sl DkT, [(appendM s a b n).2.d]⟩, ⟨.sl (.sl MpT), (appendM s a b n).2.A1⟩, ⟨.sl FlT, (appendM s a b n).2.A2⟩, ⟨.sl (.sl FmT), [(appendM s a b n).2.fm]⟩] :=
  fun s a b n h hl hn hb hx => by
    have eFc : c22.F = F22 := rfl
    have eFh := f22 s a b n h hl hn hb hx
    rw [← eFc] at eFh; exact Does1.of hl0 eFh rfl

def sizeM (s : St) (a : List Int) : Int := match s.file a with | some x => (x.2.1.length : Int) | none => 0
theorem f23 (s : St) (a : List Int) (h : Ok s) : F23 [⟨.ref 0, some 0⟩, ⟨.str, a⟩, ⟨.sl DkT, [s.d]⟩, ⟨.sl (.sl MpT), s.A1⟩, ⟨.sl FlT, s.A2⟩, ⟨.sl (.sl FmT), [s.fm]⟩] = some [⟨.int .i64, sizeM s a⟩, ⟨.bool, (s.file a).isSome⟩, ⟨.sl DkT, [s.d]⟩, ⟨.sl (.sl MpT), s.A1⟩, ⟨.sl FlT, s.A2⟩, ⟨.sl (.sl FmT), [s.fm]⟩] := by
  have h56nS := s56nS (lc := [c56]) rfl
  have h56sS := s56sS (lc := [c56]) rfl
  simp only [F23, Fof, ir23]; generalize Phi [c56] = Φ at *
  cases hf : findS a s.nm with
  | none =>
    have g56 := h56nS s h a hf
    simp -implicitDefEqProofs [g56, sizeM, St.file, hf]
  | some i =>
    obtain ⟨k, f, hk, hk2, hkl, hf1, hf2, hf3⟩ := h.file hf; obtain ⟨_, hv⟩ := List.getElem?_eq_some_iff.1 hk2
    have hss : s.A2.set k (f.1, f.2) = s.A2 := set_same hk2
    have g56 := h56sS s h a i (some k) hf hk
    simp -implicitDefEqProofs [g56, sizeM, St.file, hf, hk, hk2, hkl, hv, hss]
theorem s23 {lc : List Ct} (hl0 : Sx.look (lc.map fun c => (c.sig.id, c)) 23 = some c23) : ∀ (s : St) (a : List Int) (h : Ok s), Does1 (Phi lc) 23 [⟨.ref 0, some 0⟩, ⟨.str, a⟩, ⟨.sl DkT, [s.d]⟩, ⟨.sl (.sl MpT), s.A1⟩, ⟨.sl FlT, s.A2⟩, ⟨.sl (.sl FmT), [s.fm]⟩] [⟨.int .i64, sizeM s a⟩, ⟨.bool, (s.file a).isSome⟩, ⟨.sl DkT, [s.d]⟩, ⟨.sl (.sl MpT), s.A1⟩, ⟨.sl FlT, s.A2⟩, ⟨.sl (.sl FmT), [s.fm]⟩] :=
  fun s a h => by
    have eFc : c23.F = F23 := rfl
    have eFh := f23 s a h
    rw [← eFc] at eFh; exact Does1.of hl0 eFh rfl

def newSt (q : Int) (A1 : List Mp) (A2 : List FileD) : St := ⟨q, A1.length, A1.length + 1, [], 0, -1, 0, false, A1 ++ [[], []], A2, []⟩
theorem f16 (q : Int) (A1 : List Mp) (A2 : List FileD) (h1 : 0 ≤ q) (h2 : q ≤ 4194304) : F16 [⟨.int .i64, q⟩, ⟨.sl DkT, ([] : List DiskD)⟩, ⟨.sl (.sl MpT), A1⟩, ⟨.sl FlT, A2⟩, ⟨.sl (.sl FmT), ([] : List Fm)⟩] = some [⟨.ref 0, some 0⟩, ⟨.int .i64, (0 : Int)⟩, ⟨.sl DkT, [(newSt q A1 A2).d]⟩, ⟨.sl (.sl MpT), (newSt q A1 A2).A1⟩, ⟨.sl FlT, (newSt q A1 A2).A2⟩, ⟨.sl (.sl FmT), [(newSt q A1 A2).fm]⟩] := by
  simp only [F16, Fof, ir16]; have e1 : ¬ q < 0 := by omega
  have e2 : ¬ q > 4194304 := by omega
  simp -implicitDefEqProofs [e1, e2, newSt]
theorem s16 {lc : List Ct} (hl0 : Sx.look (lc.map fun c => (c.sig.id, c)) 16 = some c16) : ∀ (q : Int) (A1 : List Mp) (A2 : List FileD) (h1 : 0 ≤ q) (h2 : q ≤ 4194304), Does1 (Phi lc) 16 [⟨.int .i64, q⟩, ⟨.sl DkT, ([] : List DiskD)⟩, ⟨.sl (.sl MpT), A1⟩, ⟨.sl FlT, A2⟩, ⟨.sl (.sl FmT), ([] : List Fm)⟩] [⟨.ref 0, some 0⟩, ⟨.int .i64, (0 : Int)⟩, ⟨.sl DkT, [(newSt q A1 A2).d]⟩, ⟨.sl (.sl MpT), (newSt q A1 A2).A1⟩, ⟨.sl FlT, (newSt q A1 A2).A2⟩, ⟨.sl (.sl FmT), [(newSt q A1 A2).fm]⟩] :=
  fun q A1 A2 h1 h2 => by
    have eFc : c16.F = F16 := rfl
    have eFh := f16 q A1 A2 h1 h2
    rw [← eFc] at eFh; exact Does1.of hl0 eFh rfl
end Go.Proofs.Ytmglkddddpipgaa
