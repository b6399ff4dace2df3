/-
  The sorted keys of a map, by hand.
-/
import Derived.Test.YtmglkddddpipgaaH2
import Derived.Shelf.SlIter.Nil
import Derived.Shelf.SortM.Plain
import Derived.Shelf.SortM.SortNone
set_option linter.unusedVariables false
set_option linter.unusedSimpArgs false
namespace Go.Proofs.Ytmglkddddpipgaa
open Sx Go.RowKit Go.Maps Go.Sort Go.Shelf Go.Proofs

def keysA_ren : Go.Shelf.Ren := ⟨fun | 7 => 91 | 10 => 114 | n => n, fun | 23 => 101 | 26 => 9 | 3 => 3 | 28 => 154 | 0 => 0 | 27 => 153 | 33 => 122 | 4 => 4 | n => n, fun | n => n⟩
theorem keysA : SlLaysZ.n7 Try.prog keysA_ren := {
  mixed := by kernel_rfl,
  f7 := ⟨Try.f91.name, by decide, Try.func91.trans (congrArg some (by kernel_rfl))⟩,
  f10 := ⟨Try.f114.name, by decide, Try.func114.trans (congrArg some (by kernel_rfl))⟩,
  t0 := Try.underlying0,
  a0 := Try.isAgg0,
  z0 := Try.sizeOf0,
  v0 := Try.zeroValue0,
  t4 := Try.underlying4,
  a4 := Try.isAgg4,
  z4 := Try.sizeOf4,
  v4 := Try.zeroValue4,
  t23 := Try.underlying101,
  a23 := Try.isAgg101,
  z23 := Try.sizeOf101,
  v23 := Try.zeroValue101,
  t26 := Try.underlying9,
  a26 := Try.isAgg9,
  z26 := Try.sizeOf9,
  v26 := Try.zeroValue9,
  t27 := Try.underlying153,
  a27 := Try.isAgg153,
  z27 := Try.sizeOf153,
  v27 := Try.zeroValue153,
  t28 := Try.underlying154,
  a28 := Try.isAgg154,
  z28 := Try.sizeOf154,
  v28 := Try.zeroValue154,
  t33 := Try.underlying122,
  a33 := Try.isAgg122,
  z33 := Try.sizeOf122,
  v33 := Try.zeroValue122 }
def sortedA_ren : Go.Shelf.Ren := ⟨fun | 6 => 90 | 8 => 112 | 9 => 113 | 11 => 133 | 13 => 135 | 12 => 134 | 23 => 152 | 24 => 137 | 14 => 143 | 15 => 144 | 16 => 145 | 17 => 146 | 18 => 147 | 19 => 148 | 20 => 149 | 21 => 150 | 22 => 151 | 25 => 157 | 26 => 158 | 27 => 159 | 28 => 160 | 29 => 161 | 30 => 162 | 31 => 163 | n => n, fun | 26 => 9 | 28 => 154 | 24 => 117 | 0 => 0 | 3 => 3 | 37 => 206 | 48 => 40 | 50 => 191 | 4 => 4 | 40 => 216 | 39 => 215 | 45 => 70 | 5 => 5 | 9 => 9 | 51 => 227 | 55 => 231 | 57 => 233 | 58 => 234 | 33 => 122 | n => n, fun | n => n⟩
theorem sortedA : SlLaysZ.n6 Try.prog sortedA_ren := {
  mixed := by kernel_rfl,
  f6 := ⟨Try.f90.name, by decide, Try.func90.trans (congrArg some (by kernel_rfl))⟩,
  f8 := ⟨Try.f112.name, by decide, Try.func112.trans (congrArg some (by kernel_rfl))⟩,
  f11 := ⟨Try.f133.name, by decide, Try.func133.trans (congrArg some (by kernel_rfl))⟩,
  t0 := Try.underlying0,
  a0 := Try.isAgg0,
  z0 := Try.sizeOf0,
  v0 := Try.zeroValue0,
  t24 := Try.underlying117,
  a24 := Try.isAgg117,
  z24 := Try.sizeOf117,
  v24 := Try.zeroValue117,
  t26 := Try.underlying9,
  a26 := Try.isAgg9,
  z26 := Try.sizeOf9,
  v26 := Try.zeroValue9,
  t28 := Try.underlying154,
  a28 := Try.isAgg154,
  z28 := Try.sizeOf154,
  v28 := Try.zeroValue154,
  i26 := by kernel_rfl }
def sortA_ren : Go.Shelf.Ren := ⟨fun | 6 => 113 | 8 => 135 | 9 => 134 | 19 => 152 | 20 => 137 | 21 => 143 | 22 => 144 | 23 => 145 | 24 => 146 | 25 => 147 | 26 => 148 | 27 => 149 | 28 => 150 | 29 => 151 | 36 => 157 | 31 => 158 | 32 => 159 | 37 => 160 | 38 => 161 | 39 => 162 | 41 => 163 | n => n, fun | 27 => 117 | 29 => 9 | 3 => 3 | 32 => 206 | 26 => 117 | 0 => 0 | 44 => 40 | 46 => 191 | 4 => 4 | 36 => 216 | 35 => 215 | 41 => 70 | 5 => 5 | 9 => 9 | 53 => 227 | 57 => 231 | 63 => 233 | 64 => 234 | n => n, fun | n => n⟩
theorem sortA : SlLaysM.n6 Try.prog sortA_ren := {
  mixed := by kernel_rfl,
  f6 := ⟨Try.f113.name, by decide, Try.func113.trans (congrArg some (by kernel_rfl))⟩,
  f8 := Try.func135.trans (congrArg some (by kernel_rfl)),
  f9 := ⟨Try.f134.name, by decide, Try.func134.trans (congrArg some (by kernel_rfl))⟩,
  f19 := Try.func152.trans (congrArg some (by kernel_rfl)),
  f20 := Try.func137.trans (congrArg some (by kernel_rfl)),
  f21 := ⟨Try.f143.name, by decide, Try.func143.trans (congrArg some (by kernel_rfl))⟩,
  f22 := ⟨Try.f144.name, by decide, Try.func144.trans (congrArg some (by kernel_rfl))⟩,
  f23 := ⟨Try.f145.name, by decide, Try.func145.trans (congrArg some (by kernel_rfl))⟩,
  f24 := ⟨Try.f146.name, by decide, Try.func146.trans (congrArg some (by kernel_rfl))⟩,
  f25 := ⟨Try.f147.name, by decide, Try.func147.trans (congrArg some (by kernel_rfl))⟩,
  f26 := ⟨Try.f148.name, by decide, Try.func148.trans (congrArg some (by kernel_rfl))⟩,
  f27 := ⟨Try.f149.name, by decide, Try.func149.trans (congrArg some (by kernel_rfl))⟩,
  f28 := ⟨Try.f150.name, by decide, Try.func150.trans (congrArg some (by kernel_rfl))⟩,
  f29 := ⟨Try.f151.name, by decide, Try.func151.trans (congrArg some (by kernel_rfl))⟩,
  f31 := Try.func158.trans (congrArg some (by kernel_rfl)),
  f32 := Try.func159.trans (congrArg some (by kernel_rfl)),
  f36 := ⟨Try.f157.name, by decide, Try.func157.trans (congrArg some (by kernel_rfl))⟩,
  f37 := ⟨Try.f160.name, by decide, Try.func160.trans (congrArg some (by kernel_rfl))⟩,
  f38 := ⟨Try.f161.name, by decide, Try.func161.trans (congrArg some (by kernel_rfl))⟩,
  f39 := ⟨Try.f162.name, by decide, Try.func162.trans (congrArg some (by kernel_rfl))⟩,
  f41 := ⟨Try.f163.name, by decide, Try.func163.trans (congrArg some (by kernel_rfl))⟩,
  t0 := Try.underlying0,
  a0 := Try.isAgg0,
  z0 := Try.sizeOf0,
  v0 := Try.zeroValue0,
  t3 := Try.underlying3,
  a3 := Try.isAgg3,
  z3 := Try.sizeOf3,
  v3 := Try.zeroValue3,
  t4 := Try.underlying4,
  a4 := Try.isAgg4,
  z4 := Try.sizeOf4,
  v4 := Try.zeroValue4,
  t5 := Try.underlying5,
  a5 := Try.isAgg5,
  z5 := Try.sizeOf5,
  v5 := Try.zeroValue5,
  t9 := Try.underlying9,
  a9 := Try.isAgg9,
  z9 := Try.sizeOf9,
  v9 := Try.zeroValue9,
  t26 := Try.underlying117,
  a26 := Try.isAgg117,
  z26 := Try.sizeOf117,
  v26 := Try.zeroValue117,
  t27 := Try.underlying117,
  a27 := Try.isAgg117,
  z27 := Try.sizeOf117,
  v27 := Try.zeroValue117,
  t29 := Try.underlying9,
  a29 := Try.isAgg9,
  z29 := Try.sizeOf9,
  v29 := Try.zeroValue9,
  t32 := Try.underlying206,
  a32 := Try.isAgg206,
  z32 := Try.sizeOf206,
  v32 := Try.zeroValue206,
  t35 := Try.underlying215,
  a35 := Try.isAgg215,
  z35 := Try.sizeOf215,
  v35 := Try.zeroValue215,
  t36 := Try.underlying216,
  a36 := Try.isAgg216,
  z36 := Try.sizeOf216,
  v36 := Try.zeroValue216,
  t41 := Try.underlying70,
  a41 := Try.isAgg70,
  z41 := Try.sizeOf70,
  v41 := Try.zeroValue70,
  t44 := Try.underlying40,
  a44 := Try.isAgg40,
  z44 := Try.sizeOf40,
  v44 := Try.zeroValue40,
  t46 := Try.underlying191,
  a46 := Try.isAgg191,
  z46 := Try.sizeOf191,
  v46 := Try.zeroValue191,
  t53 := Try.underlying227,
  a53 := Try.isAgg227,
  z53 := Try.sizeOf227,
  v53 := Try.zeroValue227,
  t57 := Try.underlying231,
  a57 := Try.isAgg231,
  z57 := Try.sizeOf231,
  v57 := Try.zeroValue231,
  t63 := Try.underlying233,
  a63 := Try.isAgg233,
  z63 := Try.sizeOf233,
  v63 := Try.zeroValue233,
  t64 := Try.underlying234,
  a64 := Try.isAgg234,
  z64 := Try.sizeOf234,
  v64 := Try.zeroValue234 }

theorem sortsA (m : Nat) : AnyZ.SortsIn Try.prog sortedA_ren Fence.wide m :=
  ⟨fun blk off cap ss W hH hblk hsz => callsIn_wide.2 (AnyM.slices_Sort_string sortA blk off cap ss W hH hblk hsz),
   fun p cap W => callsIn_wide.2 (AnyM.slices_Sort_string_none sortA p cap W)⟩

set_option maxHeartbeats 2000000 in
set_option maxRecDepth 100000 in
theorem k53 {H : Type} (b0 b nn : Nat) (D0 : DataW H) (R : Value → Option (DataW H × List MemPlace)) (w : World) (hc : w.cell? ⟨b0, 2, none⟩ = some (.map (some b))) (hown : w.ownsMap Try.prog 9 R b nn D0) (hmax : Maps.size D0 ≤ maxLen) (hbytes : Maps.size D0 * 16 ≤ 140737488355328) :
    Calls Try.prog 53 #[.pointer (some ⟨b0, 0, none⟩)] w fun e w' => ∃ (v : Value) (ss : List (List UInt8)), e = .returned v ∧ ss.Perm (strKeys D0) ∧
      w'.ownsRow w.heap.size 9 1 v ss.length ((ss.mergeSort (fun x y => decide (x ≤ y))).map encStr) ∧ Below w.heap.size w w' := by
  refine (callsIn_wide (n := 6)).1 ?_
  have hbl := hown.lt
  have hseq : SeqGives Fence.wide 2 Try.prog 114 #[.pointer (some ⟨w.heap.size, 0, none⟩)] encStr (fun ss => ss.Perm (strKeys D0)) (Maps.size D0) (w.alloc (.cells #[.map (some b)] 101)) :=
    AnyZ.keys_gives (ρ := keysA_ren) { keysA with } Fence.wide _ trivial rfl (by omega) w.heap.size b nn D0 _ (by simp) (by simp) (by
      obtain ⟨es, clock, hb, Ft, hs, hD⟩ := hown; exact ⟨es, clock, (Below.heap_alloc _ _ b hbl).trans hb, Ft, hs, hD⟩)
  have cK : ∀ mb W, CallsIn Fence.wide 5 Try.prog 91 #[.map mb] W fun e w' => e = .returned (.func (.func 114) #[] #[.pointer (some ⟨W.heap.size, 0, none⟩)]) ∧ w' = W.alloc (.cells #[.map mb] 101) := fun mb W => AnyZ.keys_in keysA Fence.wide 5 trivial rfl mb W
  have cS := AnyZ.sorted_in sortedA Fence.wide 5 trivial trivial trivial trivial rfl (by omega) (sortsA _) (enters_of Try.func113 (by kernel_rfl) rfl) 114 #[.pointer (some ⟨w.heap.size, 0, none⟩)] trivial (enters_of Try.func114 (by kernel_rfl) rfl) _ _ hmax hbytes _ hseq
  change CallsIn _ _ Try.prog 90 _ _ _ at cS
  have hfK : Fence.wide.fn 91 := trivial
  have hfS : Fence.wide.fn 90 := trivial
  refine callsIn_of_wp Try.func53 rfl trivial ?_ rfl
  simp only [Try.ntmps53, List.size_toArray, List.length_cons, List.length_nil, Nat.reduceAdd, Nat.reduceSub, Array.replicate_succ, Array.replicate_zero, List.push_toArray, List.append_toArray, List.nil_append, List.cons_append]
  gi_wp2_with (first
    | (gi_at_call 91; refine (cK _ _).mono ?_; rintro e w' ⟨rfl, rfl⟩)
    | (gi_at_call 90; refine cS.mono ?_; rintro e w' ⟨v, ss, rfl, hS, hrow, hnil, hb⟩))
  go_ret
  exact ⟨v, ss, rfl, hS, ownsRow_base_a hrow (by simp), ((Below.refl _ w).alloc (Nat.le_refl _) _).trans (hb.mono (by simp))⟩

set_option maxHeartbeats 2000000 in
set_option maxRecDepth 100000 in
theorem k53n (w : World) : Calls Try.prog 53 #[.pointer none] w fun e w' => e = .returned (.slice none 0 0) ∧ w' = w := by
  go_enter Try.func53, Try.ntmps53
  go_wp2
  go_ret
  exact ⟨rfl, rfl⟩
end Go.Proofs.Ytmglkddddpipgaa

namespace Go.Proofs.Ytmglkddddpipgaa
open Sx Go.RowKit Go.Lib Go.Maps Go.WideElems

def u8 (i : Int) : UInt8 := UInt8.ofNat i.toNat
def namesOf (nm : List (List Int × Int)) : List (List Int) := ((nm.map fun x => x.1.map u8).mergeSort fun x y => decide (x ≤ y)).map fun l => l.map fun b => (b.toNat : Int)
def namesOfD (A0 : List DiskD) (A1 : List (List (List Int × Int))) : Option Nat → Option (List (List Int))
  | none => some []
  | some j => match A0[j]? with
    | some (_, _, some jn, _) => match A1[jn]? with
      | some nm => if nm.length ≤ BIG then some (namesOf nm) else none
      | none => none
    | _ => none

def sig53 : Sig := { id := 53, ins := [(false, .ref 0)], outs := [(false, [(.sl .str, none)])], ars := [(0, T0), (1, T1)] }
def F53 : List D → Option (List D) := fun ds => match ds with
  | [⟨.ref 0, d⟩, a0, a1] => match a0.get (.sl T0.t), a1.get (.sl T1.t) with
    | some A0, some A1 => match namesOfD A0 A1 d with
      | some l => some [⟨.sl .str, l⟩, D0 A0, D1 A1]
      | none => none
    | _, _ => none
  | _ => none

def Rt : Value → Option (DataW Unit × List MemPlace) := fun _ => some (.nil, [])

theorem u8_bytes (ba : ByteArray) : (bytesI ba).map u8 = ba.data.toList := by
  unfold bytesI u8; rw [List.map_map]; have : (fun i : Int => UInt8.ofNat i.toNat) ∘ (fun b : UInt8 => (b.toNat : Int)) = id := by
    funext b
    simp
  rw [this, List.map_id]

theorem names_owned {p : PF} {w : World} {b : Nat} {es : Array MapEntry} {clock : Nat} {y : List (List Int × Int)} (hb : w.heap[b]? = some (.map es clock)) (hst : MapKept.Stamped es clock) (hl : y.length ≤ BIG)
    (h : All2 (fun (e : MapEntry) (kv : List Int × Int) => FRep .str [e.key] kv.1 ∧ Rep p w tI [e.val] kv.2) es.toList y) :
    ∃ D0 : DataW Unit, w.ownsMap Try.prog 9 Rt b es.size D0 ∧ Maps.size D0 ≤ BIG ∧ (Go.strKeys D0).Perm (y.map fun x => x.1.map u8) := by
  have hes : es.size = y.length := by rw [← h.len, Array.length_toList]
  have hk : ∀ (es : List MapEntry) (y : List (List Int × Int)), All2 (fun (e : MapEntry) (kv : List Int × Int) => FRep .str [e.key] kv.1 ∧ Rep p w tI [e.val] kv.2) es y →
      (∀ x ∈ es, ∃ z, rd Try.prog 9 Rt x = some z) ∧ (es.map (rg Try.prog 9 Rt)).map (fun p => Go.strOf p.1) = y.map fun x => x.1.map u8 := by
    intro es y h; induction h with
    | nil => exact ⟨by simp, rfl⟩
    | cons h1 _ ih =>
      rename_i e kv es y _; obtain ⟨⟨ba, h2, h3, h4⟩, _⟩ := h1; simp only [List.cons.injEq, and_true] at h2; have hrd : rd Try.prog 9 Rt e = some (.string ba.data.toList, .nil) := by
        unfold rd; rw [h2, Go.WideMaps.keyOf_string_mk Try.underlying9 h4]; rfl
      refine ⟨fun x hx => ?_, ?_⟩
      · rcases List.mem_cons.1 hx with rfl | hx
        · exact ⟨_, hrd⟩
        · exact ih.1 x hx
      · have hrg : rg Try.prog 9 Rt e = (.string ba.data.toList, .nil) := by unfold rg; rw [hrd]; rfl
        rw [List.map_cons, List.map_cons, List.map_cons, ih.2, hrg, h3, u8_bytes]; rfl
  obtain ⟨k1, k2⟩ := hk es.toList y h; refine ⟨_, ⟨es, clock, hb, ⟨by rw [hes]; unfold BIG at hl; unfold maxLen; omega, hst, k1⟩, Nat.le_refl _, rfl⟩, ?_, ?_⟩
  · show (List.foldr DataW.insert [] _).length ≤ BIG
    rw [(WideShapes.sorted_perm _).length_eq, List.length_map, h.len]; exact hl
  · rw [← k2]; exact (WideShapes.sorted_perm _).map _

theorem toI_str (l : List UInt8) : bytesI ⟨l.toArray⟩ = l.map fun b => (b.toNat : Int) := by simp [bytesI]

theorem names_short {p : PF} {w : World} : ∀ {es : List MapEntry} {y : List (List Int × Int)}, All2 (fun (e : MapEntry) (kv : List Int × Int) => FRep .str [e.key] kv.1 ∧ Rep p w tI [e.val] kv.2) es y → ∀ x ∈ y, (x.1.map u8).length ≤ maxLen
  | [], _, h, x, hx => by cases h; simp at hx
  | e :: es, _, h, x, hx => by
    cases h with
    | cons h1 h2 =>
      rcases List.mem_cons.1 hx with rfl | hx
      · obtain ⟨⟨ba, _, h3, h4⟩, _⟩ := h1; rw [h3, u8_bytes, Array.length_toList]; exact h4
      · exact names_short h2 x hx

theorem ok53 : FnOkX Try.prog 53 sig53 F53 := by
  refine ⟨fun h => (by cases h), fun _ => ⟨⟨Try.f53, (Try.f53.body).getD .skip, Try.func53, by kernel_rfl, by kernel_rfl⟩, ?_⟩⟩
  intro w p om vs cs ds aa rs hpw hlab hpart hrep hty has hF; obtain ⟨v, rfl, rfl⟩ := part1 hpart; cases hrep with
  | cons h1 h2 =>
    cases h2; rename_i d; have hd : d.t = .ref 0 := by simpa [inL, sig53, Ty.cells] using hty
    have hR := entryRel hpw hlab has
    obtain ⟨a0, a1, rfl, g0, g1⟩ : ∃ a0 a1, aa = [a0, a1] ∧ ArAt p om w (0, T0) a0 ∧ ArAt p om w (1, T1) a1 := by
      cases has with
      | cons h1 h => cases h with
        | cons h2 h => cases h; exact ⟨_, _, rfl, h1, h2⟩
    obtain ⟨A0, rfl⟩ : ∃ A0 : List DiskD, a0 = D0 A0 := by obtain ⟨x, h, _⟩ := g0; exact ⟨x, h⟩
    obtain ⟨A1, rfl⟩ : ∃ A1 : List (List (List Int × Int)), a1 = D1 A1 := by obtain ⟨x, h, _⟩ := g1; exact ⟨x, h⟩
    clear g0 g1; obtain ⟨t, r⟩ := d; simp only at hd
    subst hd; have hF' : (match namesOfD A0 A1 r with | some l => some [(⟨.sl .str, l⟩ : D), D0 A0, D1 A1] | none => none) = some rs := by
      have : F53 [⟨.ref 0, r⟩, D0 A0, D1 A1] = some rs := hF
      have g0 : (D0 A0).get (.sl T0.t) = some A0 := D.get_self _ _
      have g1 : (D1 A1).get (.sl T1.t) = some A1 := D.get_self _ _
      simpa only [F53, g0, g1] using this
    have fin : ∀ (l : List (List Int)) (v : Value) (w' : World) (q : Nat → Nat → Prop), namesOfD A0 A1 r = some l → Below w.heap.size w w' → (∀ b o, q b o → w.heap.size ≤ b ∧ b < w'.heap.size) → Rep (p.more q) w' (.sl .str) [v] l →
        ∃ u, Ending.returned v = .returned u ∧ ∃ p' om' us cs', ReturnedA sig53 w p om rs u w' p' om' us cs' ∧ ∀ k j b, (p.ad k j b → p'.ad k j b) ∧ ((∀ q ∈ sig53.ars, q.1 ≠ k) → p'.ad k j b → p.ad k j b) := by
      intro l v w' q hu hb hq hrl; rw [hu] at hF'; simp only [oi] at hF'; subst hF'; have hR2 := hR.grew hb q hq
      obtain ⟨r1, r2⟩ := hR2.retA (sig := sig53) rfl (us := [v]) (cs := [v]) (ds := [⟨.sl .str, l⟩]) (das := [D0 A0, D1 A1])
        ⟨[_], [], rfl, rfl, .inr ⟨rfl, rfl⟩, rfl⟩ (.cons hrl .nil) rfl ⟨fun j v e sz h => by simp [ownList, outL, sig53] at h, fun i j x y b h => by simp [ownList, outL, sig53] at h⟩ (fun j x b h => by simp [ownList, outL, sig53] at h)
        (.cons ⟨.v 0, rfl, rfl, rfl⟩ (.cons ⟨.v 1, rfl, rfl, rfl⟩ .nil))
      exact ⟨_, rfl, _, _, _, _, r1, r2⟩
    rcases obj_of hR (T := T0) (d := ⟨.ref 0, r⟩) (xs := A0) (x0 := .v 0) rfl rfl rfl rfl rfl h1 with ⟨rfl, h3⟩ | ⟨j, b, y, cs, el, rfl, h3, hy, _, _, _, hh, hrep, _⟩
    · have hr : r = none := eq_of_heq (D.mk.inj h3).2
      subst hr; refine Calls.mono (k53n w) ?_
      rintro e w' ⟨rfl, rfl⟩
      exact fin [] _ w' (fun _ _ => False) rfl (Below.refl _ _) (fun _ _ h => h.elim) (.inl ⟨rfl, rfl⟩)
    · have hr : r = some j := eq_of_heq (D.mk.inj h3).2
      subst hr; obtain ⟨y, rfl⟩ : ∃ y' : DiskD, y' = y := ⟨y, rfl⟩
      obtain ⟨q, mf, mn, rest⟩ := y; have hyj : A0[j]? = some (q, mf, mn, rest) := hy
      cases mn with
      | none => simp [namesOfD, hyj] at hF'
      | some jn =>
        obtain ⟨v0, r0, hcs, hr0, v1, r1, rfl, hr1, v2, r2, rfl, hr2, _⟩ : ∃ v0 r0, cs.toList = v0 ++ r0 ∧ Rep (gIn p om).p w tI v0 q ∧ ∃ v1 r1, r0 = v1 ++ r1 ∧ Rep (gIn p om).p w (.ref 3) v1 mf ∧ ∃ v2 r2, r1 = v2 ++ r2 ∧ Rep (gIn p om).p w (.ref 1) v2 (some jn) ∧ True := by
          obtain ⟨v0, r0, e0, hr0, v1, r1, e1, hr1, v2, r2, e2, hr2, _⟩ := hrep; exact ⟨v0, r0, e0, hr0, v1, r1, e1, hr1, v2, r2, e2, hr2, trivial⟩
        have l0 := Rep.len _ _ _ hr0
        have l1 := Rep.len _ _ _ hr1
        have l2 := Rep.len _ _ _ hr2
        match v0, v1, v2, l0, l1, l2 with
        | [c0], [c1], [c2], _, _, _ =>
          obtain ⟨bn, nm, en, cn, rfl, n1, n2, n3, n4, n5, n6, n7⟩ := map_at hR (k := 1) (x0 := .v 1) (K := .str) (V := tI) (xs := A1) rfl rfl rfl rfl hr2
          have k2 : A1[jn]? = some nm := n1
          have hcell : ∀ i, w.cell? ⟨b, i, none⟩ = cs.toList[i]? := fun i => by
            rw [cell_of_row w b i cs el (0, 0) hh, ← Array.getElem?_toList]
          by_cases hl : nm.length ≤ BIG
          · have hu : namesOfD A0 A1 (some j) = some (namesOf nm) := by simp only [namesOfD, hyj, k2, if_pos hl]
            obtain ⟨D0', o1, o2, o3⟩ := names_owned n5 n7 hl n6; refine Calls.mono (k53 b bn en.size D0' Rt w (by rw [hcell, hcs]; rfl) o1 (by unfold BIG at o2; unfold maxLen; omega) (by unfold BIG at o2; omega)) ?_
            rintro e w' ⟨v, ss, rfl, s1, s2, s3⟩
            have hso : ss.mergeSort (fun x y => decide (x ≤ y)) = (nm.map fun x => x.1.map u8).mergeSort fun x y => decide (x ≤ y) := Go.mergeSort_of_perm (s1.trans o3)
            have hn : namesOf nm = (ss.mergeSort (fun x y => decide (x ≤ y))).map fun l => l.map fun b => (b.toNat : Int) := by rw [hso]; rfl
            have hlen : (ss.mergeSort (fun x y => decide (x ≤ y))).length = ss.length := List.length_mergeSort _
            have hszs : ∀ l ∈ ss.mergeSort (fun x y => decide (x ≤ y)), l.length ≤ maxLen := by
              intro l hl2; rw [hso] at hl2; have := (List.mergeSort_perm _ _).mem_iff.1 hl2
              obtain ⟨x, hx, rfl⟩ := List.mem_map.1 this; exact names_short n6 x hx
            rw [hn] at hu; generalize ss.mergeSort (fun x y => decide (x ≤ y)) = so at hu s2 hlen hszs
            obtain ⟨t1, t2⟩ := s2; rcases t2 with ⟨rfl, t3⟩ | ⟨g, cap, cur, rfl, t3, t4, t5, t6, t7, t8⟩
            · have : so = [] := List.eq_nil_of_length_eq_zero (by omega)
              subst this; exact fin _ _ w' (fun _ _ => False) hu s3 (fun _ _ h => h.elim) (.inl ⟨rfl, rfl⟩)
            · refine fin _ _ w' (fun b _ => b = g) hu s3 (fun b o h => ?_) (.inr (.inl ⟨g, 0, cap, ?_, ?_, t6, fun i x hx => ?_⟩))
              · subst h; exact ⟨t3, (Array.getElem?_eq_some_iff.1 t4).1⟩
              · rw [List.length_map, hlen]
              · rw [List.length_map, hlen]; exact t5
              · rw [List.getElem?_map, Option.map_eq_some_iff] at hx; obtain ⟨l, hl1, rfl⟩ := hx; refine ⟨[.string ⟨l.toArray⟩], fun k v hk => ?_, ⟨⟨l.toArray⟩, rfl, (toI_str l).symm, by show l.toArray.size ≤ maxLen; rw [List.size_toArray]; exact hszs l (List.mem_of_getElem? hl1)⟩⟩
                cases k with
                | succ k => simp at hk
                | zero =>
                  simp only [List.getElem?_cons_zero, oi] at hk; subst hk; refine ⟨.inr rfl, ?_⟩
                  have h5 : (so.map fun l : List UInt8 => Value.string ⟨l.toArray⟩)[i]? = some (Value.string ⟨l.toArray⟩) := by rw [List.getElem?_map, hl1]; rfl
                  rw [← t8, List.getElem?_take] at h5; split at h5
                  · rw [cell_of_row w' g _ cur 9 (0, 0) t4, ← Array.getElem?_toList]; show cur.toList[0 + i * 1 + 0]? = _
                    rw [show 0 + i * 1 + 0 = i by omega]; exact h5
                  · cases h5
          · simp [namesOfD, hyj, k2, hl] at hF'
end Go.Proofs.Ytmglkddddpipgaa
