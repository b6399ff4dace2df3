/-
  slices.SortFunc at tables: where its bodies lie in this program, what the comparison answers, and what the sort leaves.
-/
import Derived.Test.YtdjknicjnaiomaaL3
import Derived.Test.YtdjknicjnaiomaaRows
import Derived.Shelf.SlSortCmp.NoneTotal
import Derived.Lib.Small
import Derived.Lib.Walk
import Derived.Lib.Bytealg
import Derived.Lib.Strings
import Derived.Sort.Grow
import Derived.ProofKit
import Derived.Deep.Slices
import Derived.IntWalk
set_option linter.unusedVariables false
set_option linter.unusedSimpArgs false
/- What the comparison of tables answers, and that it turns nothing. -/
namespace Go.Proofs.Ytdjknicjnaiomaa
open Go.RowKit Go.Lib Go.Sort

theorem k146 (x : Int) (w : World) : Calls Try.prog 146 #[.int .i64 x] w fun e w' => e = .returned (.bool false) ∧ w' = w := by
  go_enter Try.func146, Try.ntmps146
  go_wp2
  go_ret
  exact ⟨by simp, rfl⟩

set_option maxHeartbeats 1000000 in
theorem k137 (x y : Int) (w : World) : Calls Try.prog 137 #[.int .i64 x, .int .i64 y] w fun e w' => e = .returned (.int .i64 (Lib.compareInt x y)) ∧ w' = w := by
  go_enter Try.func137, Try.ntmps137
  go_wp2_with (go_at_call 146; refine (k146 _ _).mono ?_; rintro e w' ⟨rfl, hw⟩; rw [hw])
  all_goals (go_ret; refine ⟨?_, rfl⟩; unfold Lib.compareInt; (repeat' split) <;> first | rfl | (exfalso; omega))

set_option maxHeartbeats 1000000 in
set_option maxRecDepth 100000 in
theorem k147 (a b : ByteArray) (w : World) :
    Calls Try.prog 147 #[.string a, .string b] w fun e w' => e = .returned (.int .i64 (Lib.compareBytes a.data.toList b.data.toList)) ∧ w' = w := by
  go_enter Try.func147, Try.ntmps147
  go_wp2
  rw [run_callFunc_extern Try.func158 (by kernel_rfl) (by kernel_rfl) (by kernel_rfl) (e := Extern.BytealgCompare.compare) (by kernel_rfl), Lib.run_compareString]
  simp only [Result.andThen]
  rw [Oper.upon_value]
  go_wp2
  go_ret
  exact ⟨rfl, rfl⟩

set_option maxHeartbeats 1000000 in
theorem k138 (a b : ByteArray) (w : World) :
    Calls Try.prog 138 #[.string a, .string b] w fun e w' => e = .returned (.int .i64 (Lib.compareBytes a.data.toList b.data.toList)) ∧ w' = w := by
  go_enter Try.func138, Try.ntmps138
  go_wp2_with (go_at_call 147; refine (k147 _ _ _).mono ?_; rintro e w' ⟨rfl, rfl⟩)
  go_ret
  exact ⟨rfl, rfl⟩

/-- a table's cells -/
def tv (n v s : Int) (f l : ByteArray) : Value := .agg #[.int .i64 n, .int .i64 v, .int .i64 s, .string f, .string l]

def cmpV (n v : Int) (f : ByteArray) (n' v' : Int) (f' : ByteArray) : Int := if v = v' then (if v = 0 then Lib.compareInt n' n else Lib.compareBytes f.data.toList f'.data.toList) else v - v'

set_option maxHeartbeats 2000000 in
theorem k136 (n v s : Int) (f l : ByteArray) (n' v' s' : Int) (f' l' : ByteArray) (h : 0 ≤ v ∧ v ≤ 4) (h' : 0 ≤ v' ∧ v' ≤ 4) (W : World) :
    Calls Try.prog 136 #[tv n v s f l, tv n' v' s' f' l'] W fun e w' => e = .returned (.int .i64 (cmpV n v f n' v' f')) ∧ ∃ q os', w' = grow (W.drewN q) os' := by
  have hw : IntKind.i64.wrap (v - v') = v - v' := IntWalk.i64_in _ ⟨by omega, by omega⟩
  unfold tv
  go_enter Try.func136, Try.ntmps136
  go_wp2_with (first | (go_at_call 137; refine (k137 _ _ _).mono ?_; rintro e w' ⟨rfl, rfl⟩) | (go_at_call 138; refine (k138 _ _ _).mono ?_; rintro e w' ⟨rfl, rfl⟩))
  all_goals (go_ret; refine ⟨?_, 0, _, by rw [alloc_eq_grow, alloc_eq_grow, grow_grow]; rfl⟩)
  all_goals (unfold cmpV; simp_all)
end Go.Proofs.Ytdjknicjnaiomaa

/- slices.SortFunc at tables: where its bodies lie in this program; what it leaves. -/
namespace Go.Proofs.Ytdjknicjnaiomaa
open Go.Proofs.Ytdjknicjnaiomaa.Sx Go.Shelf Go.RowKit Go.Lib Go.Sort

def sortTb_ren : Go.Shelf.Ren := ⟨fun | 6 => 135 | 15 => 145 | 14 => 144 | 28 => 156 | 29 => 157 | 20 => 148 | 21 => 149 | 22 => 150 | 23 => 151 | 24 => 152 | 25 => 153 | 26 => 154 | 27 => 155 | 46 => 159 | 47 => 160 | 48 => 161 | 49 => 162 | 50 => 163 | 57 => 164 | n => n, fun | 22 => 85 | 24 => 56 | 25 => 171 | 3 => 3 | 39 => 155 | 0 => 0 | 53 => 23 | 55 => 104 | 4 => 4 | 46 => 179 | 45 => 178 | 50 => 183 | 5 => 5 | 9 => 9 | 66 => 187 | 70 => 122 | 76 => 192 | 77 => 138 | n => n, fun | n => n⟩
theorem sortTb : Go.Proofs.SlLaysF0.n6 Try.prog sortTb_ren := {
  mixed := by kernel_rfl,
  f6 := ⟨Try.f135.name, by decide, Try.func135.trans (congrArg some (by kernel_rfl))⟩,
  f14 := ⟨Try.f144.name, by decide, Try.func144.trans (congrArg some (by kernel_rfl))⟩,
  f15 := Try.func145.trans (congrArg some (by kernel_rfl)),
  f20 := ⟨Try.f148.name, by decide, Try.func148.trans (congrArg some (by kernel_rfl))⟩,
  f21 := ⟨Try.f149.name, by decide, Try.func149.trans (congrArg some (by kernel_rfl))⟩,
  f22 := ⟨Try.f150.name, by decide, Try.func150.trans (congrArg some (by kernel_rfl))⟩,
  f23 := ⟨Try.f151.name, by decide, Try.func151.trans (congrArg some (by kernel_rfl))⟩,
  f24 := ⟨Try.f152.name, by decide, Try.func152.trans (congrArg some (by kernel_rfl))⟩,
  f25 := ⟨Try.f153.name, by decide, Try.func153.trans (congrArg some (by kernel_rfl))⟩,
  f26 := ⟨Try.f154.name, by decide, Try.func154.trans (congrArg some (by kernel_rfl))⟩,
  f27 := ⟨Try.f155.name, by decide, Try.func155.trans (congrArg some (by kernel_rfl))⟩,
  f28 := Try.func156.trans (congrArg some (by kernel_rfl)),
  f29 := Try.func157.trans (congrArg some (by kernel_rfl)),
  f46 := ⟨Try.f159.name, by decide, Try.func159.trans (congrArg some (by kernel_rfl))⟩,
  f47 := Try.func160.trans (congrArg some (by kernel_rfl)),
  f48 := Try.func161.trans (congrArg some (by kernel_rfl)),
  f49 := ⟨Try.f162.name, by decide, Try.func162.trans (congrArg some (by kernel_rfl))⟩,
  f50 := ⟨Try.f163.name, by decide, Try.func163.trans (congrArg some (by kernel_rfl))⟩,
  f57 := ⟨Try.f164.name, by decide, Try.func164.trans (congrArg some (by kernel_rfl))⟩,
  t0 := Try.underlying0,
  a0 := Try.isAgg0,
  z0 := Try.sizeOf0,
  v0 := Try.zeroValue0,
  t3 := Try.underlying3,
  a3 := Try.isAgg3,
  z3 := Try.sizeOf3,
  v3 := Try.zeroValue3,
  t4 := Try.underlying4,
  a4 := Try.isAgg4,
  z4 := Try.sizeOf4,
  v4 := Try.zeroValue4,
  t5 := Try.underlying5,
  a5 := Try.isAgg5,
  z5 := Try.sizeOf5,
  v5 := Try.zeroValue5,
  t9 := Try.underlying9,
  a9 := Try.isAgg9,
  z9 := Try.sizeOf9,
  v9 := Try.zeroValue9,
  t22 := Try.underlying85,
  a22 := Try.isAgg85,
  z22 := Try.sizeOf85,
  v22 := Try.zeroValue85,
  t25 := Try.underlying171,
  a25 := Try.isAgg171,
  z25 := Try.sizeOf171,
  v25 := Try.zeroValue171,
  t39 := Try.underlying155,
  a39 := Try.isAgg155,
  z39 := Try.sizeOf155,
  v39 := Try.zeroValue155,
  t45 := Try.underlying178,
  a45 := Try.isAgg178,
  z45 := Try.sizeOf178,
  v45 := Try.zeroValue178,
  t46 := Try.underlying179,
  a46 := Try.isAgg179,
  z46 := Try.sizeOf179,
  v46 := Try.zeroValue179,
  t50 := Try.underlying183,
  a50 := Try.isAgg183,
  z50 := Try.sizeOf183,
  v50 := Try.zeroValue183,
  t53 := Try.underlying23,
  a53 := Try.isAgg23,
  z53 := Try.sizeOf23,
  v53 := Try.zeroValue23,
  t55 := Try.underlying104,
  a55 := Try.isAgg104,
  z55 := Try.sizeOf104,
  v55 := Try.zeroValue104,
  t66 := Try.underlying187,
  a66 := Try.isAgg187,
  z66 := Try.sizeOf187,
  v66 := Try.zeroValue187,
  t70 := Try.underlying122,
  a70 := Try.isAgg122,
  z70 := Try.sizeOf122,
  v70 := Try.zeroValue122,
  t76 := Try.underlying192,
  a76 := Try.isAgg192,
  z76 := Try.sizeOf192,
  v76 := Try.zeroValue192,
  t77 := Try.underlying138,
  a77 := Try.isAgg138,
  z77 := Try.sizeOf138,
  v77 := Try.zeroValue138 }

theorem frep_tb {vs : List Value} {x : Tb} (h : FRep TbT vs x) : ∃ (n v s : Int) (f l : ByteArray), vs = [.int .i64 n, .int .i64 v, .int .i64 s, .string f, .string l] ∧ x = (n, v, s, bytesI f, bytesI l) := by
  obtain ⟨a1, b1, rfl, ⟨rfl, _⟩, a2, b2, rfl, ⟨rfl, _⟩, a3, b3, rfl, ⟨rfl, _⟩, a4, b4, rfl, ⟨f, rfl, hf, _⟩, l, rfl, hl, _⟩ := h
  refine ⟨x.1, x.2.1, x.2.2.1, f, l, rfl, ?_⟩
  rw [← hf, ← hl]

theorem cmp_bytes : ∀ (a b : List UInt8), Lib.compareBytes a b < 0 ↔ ltL (a.map fun b => (b.toNat : Int)) (b.map fun b => (b.toNat : Int)) = true
  | [], [] => by simp [Lib.compareBytes, ltL]
  | [], _ :: _ => by simp [Lib.compareBytes, ltL]
  | _ :: _, [] => by simp [Lib.compareBytes, ltL]
  | x :: a, y :: b => by
    simp only [Lib.compareBytes, List.map_cons, ltL]
    by_cases h1 : x < y
    · have h1' : (x.toNat : Int) < y.toNat := by have := UInt8.lt_iff_toNat_lt.1 h1; omega
      simp [h1, h1']
    · have h1' : ¬ (x.toNat : Int) < y.toNat := by have : ¬ x.toNat < y.toNat := fun h => h1 (UInt8.lt_iff_toNat_lt.2 h); omega
      by_cases h2 : y < x
      · have h2' : (y.toNat : Int) < x.toNat := by have := UInt8.lt_iff_toNat_lt.1 h2; omega
        have h3 : ¬ (x.toNat : Int) = y.toNat := by omega
        have h4 : ¬ x.toNat < y.toNat := by omega
        have h5 : ¬ x.toNat = y.toNat := by omega
        simp [h1, h2, h4, h5]
        intro h; exact absurd h h3
      · have h2' : ¬ (y.toNat : Int) < x.toNat := by have : ¬ y.toNat < x.toNat := fun h => h2 (UInt8.lt_iff_toNat_lt.2 h); omega
        have h3 : (x.toNat : Int) = y.toNat := by omega
        rw [if_neg h1, if_neg h2, cmp_bytes a b]
        have h4 : ¬ x.toNat < y.toNat := by omega
        have h5 : x.toNat = y.toNat := by omega
        simp [h5]

/-- a table with the cells that stand for it -/
abbrev El : Type := { q : List Value × Tb // FRep TbT q.1 q.2 ∧ 0 ≤ q.2.2.1 ∧ q.2.2.1 ≤ 4 }
instance : Inhabited El := ⟨⟨([.int .i64 0, .int .i64 0, .int .i64 0, .string ⟨#[]⟩, .string ⟨#[]⟩], (0, 0, 0, [], [])), by
  refine ⟨⟨[.int .i64 0], _, rfl, ⟨rfl, by decide, by decide⟩, [.int .i64 0], _, rfl, ⟨rfl, by decide, by decide⟩, [.int .i64 0], _, rfl, ⟨rfl, by decide, by decide⟩, [.string ⟨#[]⟩], _, rfl, ⟨⟨#[]⟩, rfl, rfl, by decide⟩, ⟨#[]⟩, rfl, rfl, by decide⟩, by decide, by decide⟩⟩⟩

def encE (x : El) : List Value := x.1.1
def cfV : List Value → List Value → Int
  | [.int _ n, .int _ v, _, .string f, _], [.int _ n', .int _ v', _, .string f', _] => cmpV n v f n' v' f'
  | _, _ => 0
def cfE (x y : El) : Int := cfV x.1.1 y.1.1

theorem lt_cfE (x y : El) : ltOf cfE x y = ltT x.1.2 y.1.2 := by
  obtain ⟨⟨vs, a⟩, h, h2, h3⟩ := x
  obtain ⟨⟨us, b⟩, k, k2, k3⟩ := y
  obtain ⟨n, v, s, f, l, e1, e2⟩ := frep_tb h
  obtain ⟨n', v', s', f', l', e1', e2'⟩ := frep_tb k
  simp only at e1 e2 e1' e2' h2 h3 k2 k3 ⊢
  subst e1; subst e2; subst e1'; subst e2'
  simp only at h2 h3 k2 k3
  unfold ltOf
  rw [Bool.eq_iff_iff, decide_eq_true_eq]
  show cmpV n v f n' v' f' < 0 ↔ ltT (n, v, s, bytesI f, bytesI l) (n', v', s', bytesI f', bytesI l') = true
  unfold cmpV ltT Tb.f
  simp only
  by_cases hv : v = v'
  · rw [if_pos hv, if_pos hv]
    by_cases h0 : v = 0
    · rw [if_pos h0, if_pos h0]
      unfold Lib.compareInt
      by_cases c1 : n' < n
      · simp [c1]
      · by_cases c2 : n < n'
        · simp [c1, c2]
        · simp [c1, c2]
    · rw [if_neg h0, if_neg h0]
      exact cmp_bytes _ _
  · rw [if_neg hv, if_neg hv, decide_eq_true_eq]
    omega

theorem swoE : SWO (ltOf cfE) where
  irrefl x := by rw [lt_cfE]; exact ltT_irrefl _
  trans x y z h1 h2 := by rw [lt_cfE] at *; exact ltT_trans _ _ _ h1 h2
  ntrans x y z h1 h2 := by rw [lt_cfE] at *; exact ltT_ntrans _ _ _ h1 h2

theorem encE_len (x : El) : (encE x).length = 5 := by
  obtain ⟨n, v, s, f, l, e1, _⟩ := frep_tb x.2.1
  unfold encE; rw [e1]; rfl
theorem encE_one (x : El) : ∀ v ∈ encE x, v.oneCell' = true := by
  obtain ⟨n, v, s, f, l, e1, _⟩ := frep_tb x.2.1
  unfold encE; rw [e1]
  intro u hu
  simp only [List.mem_cons, List.not_mem_nil, or_false] at hu
  rcases hu with rfl | rfl | rfl | rfl | rfl <;> rfl

theorem lays136 (blk off size : Nat) (w : World) : CmpLays Try.prog 136 #[] encE 5 cfE blk off size w := by
  intro m os dk hs x y
  obtain ⟨⟨vs, a⟩, h, h2, h3⟩ := x
  obtain ⟨⟨us, b⟩, k, k2, k3⟩ := y
  obtain ⟨n, v, s, f, l, e1, e2⟩ := frep_tb h
  obtain ⟨n', v', s', f', l', e1', e2'⟩ := frep_tb k
  simp only at e1 e2 e1' e2' h2 h3 k2 k3
  subst e1; subst e2; subst e1'; subst e2'
  exact k136 n v s f l n' v' s' f' l' ⟨h2, h3⟩ ⟨k2, k3⟩ _

/-- rows as elements -/
theorem flats_el : ∀ (xs : List Value) (ys : List Tb), Flats TbT xs ys → (∀ y ∈ ys, 0 ≤ y.2.1 ∧ y.2.1 ≤ 4) → ∃ zs : List El, zs.map (·.1.2) = ys ∧ (zs.map encE).flatten = xs
  | xs, [], h, _ => ⟨[], rfl, by simpa using h.symm⟩
  | xs, y :: ys, h, hl => by
    obtain ⟨c, r, rfl, h1, h2⟩ := h
    obtain ⟨zs, k1, k2⟩ := flats_el r ys h2 (fun z hz => hl z (by simp [hz]))
    exact ⟨⟨(c, y), h1, hl y (by simp)⟩ :: zs, by simp [k1], by simp [k2, encE]⟩

theorem el_flats : ∀ (zs : List El), Flats TbT (zs.map encE).flatten (zs.map (·.1.2))
  | [] => rfl
  | z :: zs => ⟨encE z, (zs.map encE).flatten, rfl, z.2.1, el_flats zs⟩

theorem flat_get {α : Type} [Inhabited α] (enc : α → List Value) (k : Nat) (hk : ∀ x, (enc x).length = k) (hk0 : 0 < k) : ∀ (l : List α) (t : Nat), t < l.length * k → (l.map enc).flatten[t]! = (enc (l[t / k]!))[t % k]!
  | [], t, h => by simp at h
  | x :: l, t, h => by
    rw [List.map_cons, List.flatten_cons]
    by_cases ht : t < k
    · have e1 : t / k = 0 := Nat.div_eq_of_lt ht
      have e2 : t % k = t := Nat.mod_eq_of_lt ht
      rw [e1, e2, List.getElem!_cons_zero]
      rw [List.getElem!_eq_getElem?_getD, List.getElem!_eq_getElem?_getD, List.getElem?_append_left (by rw [hk]; exact ht)]
    · have e1 : t / k = (t - k) / k + 1 := by rw [Nat.div_eq_sub_div hk0 (by omega)]
      have e2 : t % k = (t - k) % k := Nat.mod_eq_sub_mod (by omega)
      have := flat_get enc k hk hk0 l (t - k) (by rw [List.length_cons, Nat.add_mul, Nat.one_mul] at h; omega)
      rw [e1, e2, List.getElem!_cons_succ, ← this]
      rw [List.getElem!_eq_getElem?_getD, List.getElem!_eq_getElem?_getD, List.getElem?_append_right (by rw [hk]; omega), hk]

theorem flat_len {α : Type} (enc : α → List Value) (k : Nat) (hk : ∀ x, (enc x).length = k) : ∀ (l : List α), (l.map enc).flatten.length = l.length * k
  | [] => by simp
  | x :: l => by rw [List.map_cons, List.flatten_cons, List.length_append, hk, flat_len enc k hk l, List.length_cons, Nat.add_mul, Nat.one_mul, Nat.add_comm]

theorem flatK_list {α : Type} [Inhabited α] (enc : α → List Value) (k : Nat) (hk : ∀ x, (enc x).length = k) (hk0 : 0 < k) (d : Array α) : (flatK enc k d).toList = (d.toList.map enc).flatten := by
  apply List.ext_getElem?
  intro t
  by_cases ht : t < d.size * k
  · have h1 := get_flatK enc k d t ht
    have h2 := flat_get enc k hk hk0 d.toList t (by simpa using ht)
    have h3 : (d.toList)[t / k]! = d[t / k]! := by rw [List.getElem!_eq_getElem?_getD, Array.getElem?_toList, Array.getElem!_eq_getD, Array.getD_eq_getD_getElem?]
    rw [h3, ← h1] at h2
    have l1 : t < (flatK enc k d).size := by simpa using ht
    have l2 : t < (d.toList.map enc).flatten.length := by rw [flat_len enc k hk]; simpa using ht
    rw [getElem!_pos _ t l2, getElem!_pos _ t l1] at h2
    rw [Array.getElem?_toList, Array.getElem?_eq_getElem l1, List.getElem?_eq_getElem l2, h2]
  · rw [List.getElem?_eq_none (by rw [Array.length_toList, size_flatK]; omega), List.getElem?_eq_none (by rw [flat_len enc k hk]; simp; omega)]

theorem put_take (F cur : Array Value) (h : F.size ≤ cur.size) : (putCells id 0 F cur).toList.take F.size = F.toList := by
  apply List.ext_getElem?
  intro t
  rw [List.getElem?_take]
  by_cases ht : t < F.size
  · rw [if_pos ht, Array.getElem?_toList, Array.getElem?_toList]
    unfold putCells
    rw [Array.getElem?_mapIdx, Array.getElem?_eq_getElem (show t < cur.size by omega), Array.getElem?_eq_getElem ht]
    simp [ht]
  · rw [if_neg ht, Array.getElem?_toList, Array.getElem?_eq_none (by omega)]

/-- slices.SortFunc at tables, by the comparison of the order of reading -/
theorem sort_mfn : MFn Try.prog 135 136 c135 where
  fn := ⟨_, _, Try.func135, rfl, by kernel_rfl⟩
  out := rfl
  ok := by
    intro w B e t v n xs ys outs ho hf hn hF
    obtain ⟨ys', h1, ht, rfl⟩ := f135_inv hF
    simp only [List.cons.injEq, and_true, D.mk.injEq, Ty.sl.injEq] at h1
    obtain ⟨rfl, h1⟩ := h1
    have h1 := eq_of_heq h1
    subst h1
    have hol := ordT_len ys
    rcases ho.2 with ⟨rfl, h0⟩ | ⟨g, cap, cur, rfl, hb, hg, hc1, hc2, hc3, hc4⟩
    · have hy : ys = [] := List.length_eq_zero_iff.1 (by omega)
      subst hy
      refine (AnyF.slices_SortFunc_none { sortTb with } none 0 (.func (.func 136) #[] #[]) w).mono ?_
      rintro en w' ⟨rfl, rfl⟩
      refine ⟨rfl, ⟨rfl, rfl, rfl, Nat.le_refl _, fun _ _ _ => rfl⟩, [], xs, ?_, ho, by simp [← hn], hf⟩
      have : ordT [] = [] := rfl
      rw [this]
    · have hgs : g < w.heap.size := (Array.getElem?_eq_some_iff.1 hg).1
      obtain ⟨zs, z1, z2⟩ := flats_el xs ys hf ht.1
      have hzl : zs.length = n := by rw [← List.length_map (f := fun z : El => z.1.2), z1, hn]
      have hfk := flatK_list encE 5 encE_len (by omega) zs.toArray
      have htw : TbT.width = 5 := rfl
      rw [htw] at hc3 hc4
      have hH : HoldsK encE 5 w g 0 zs.toArray := by
        intro j hj
        have hj' : j < n * 5 := by rw [size_flatK] at hj; simpa [hzl] using hj
        have hjc : j < cur.size := by rw [hc3]; exact Nat.lt_of_lt_of_le hj' (Nat.mul_le_mul_right 5 hc1)
        have e1 : (flatK encE 5 zs.toArray).toList = xs := by rw [hfk]; simpa using z2
        have e2 : xs[j]? = cur[j]? := by rw [← hc4, List.getElem?_take, if_pos hj', Array.getElem?_toList]
        have e3 : (flatK encE 5 zs.toArray)[j]? = cur[j]? := by rw [← Array.getElem?_toList, e1, e2]
        rw [Array.getElem?_eq_getElem hj, Array.getElem?_eq_getElem hjc] at e3
        simp only [Option.some.injEq] at e3
        refine ⟨?_, ?_⟩
        · unfold World.cell?
          simp only [hg, Nat.zero_add, Option.isSome_none, Bool.false_eq_true, if_false]
          rw [Array.getElem?_eq_getElem hjc, getElem!_pos _ j hj, id, e3]
        · unfold World.frozen?
          simp only [hg, Nat.zero_add]
          simp
      have eg : ∀ args w, (callFunc 136 args).run Try.prog w = .ok (.enter 136 args) w := enters_of Try.func136 (by kernel_rfl) rfl
      have hcon := AnyQ.slices_SortFunc sortTb 5 Try.isAgg56 Try.sizeOf56 encE encE_len encE_one cfE swoE 136 #[] g 0 cap zs.toArray w eg (lays136 g 0 zs.toArray.size w) hH hgs (by simp only [List.size_toArray, hzl]; have := ht.2.2; omega)
      rw [List.size_toArray, hzl] at hcon
      change Calls Try.prog 135 _ _ _ at hcon
      refine hcon.mono ?_
      rintro en w' ⟨rfl, d', m, os, hp, hs, rfl⟩
      -- what is left is in order
      have hdl : d'.size = n := by rw [hp.1, List.size_toArray, hzl]
      have hperm : d'.toList.Perm zs := by
        have h3 := hp.2.2
        rw [show d'.extract 0 n = d' by rw [← hdl]; simp, show zs.toArray.extract 0 n = zs.toArray by rw [← hzl]; simp] at h3
        exact h3
      have hord : Go.Proofs.Ytdjknicjnaiomaa.Sx.Ord (d'.toList.map (·.1.2)) := by
        unfold Go.Proofs.Ytdjknicjnaiomaa.Sx.Ord
        rw [List.pairwise_map, List.pairwise_iff_getElem]
        intro i j hi hj hij
        have h4 := hs i j (Nat.zero_le _) hij (by simpa [hdl] using hj)
        rw [lt_cfE, getElem!_pos _ i (by simpa using hi), getElem!_pos _ j (by simpa using hj)] at h4
        exact h4
      have huni : d'.toList.map (·.1.2) = ordT ys := by
        refine ord_uniq _ _ ?_ hord (ordT_ord ys) ?_
        · exact (hperm.map _).trans (by rw [z1]; exact (ordT_perm ys).symm)
        · have hm : ∀ x, x ∈ d'.toList.map (·.1.2) → x ∈ ys := fun x hx => by rw [← z1]; exact (hperm.map _).mem_iff.1 hx
          exact fun x hx y hy => ht.2.1 x (hm x hx) y (hm y hy)
      have hheap : (sortWorldK encE 5 w g 0 m d' os).heap[g]? = some (.cells (putCells id 0 (flatK encE 5 d') cur) e (0, 0)) := by
        unfold sortWorldK putRowK putRow mapBlock Sort.ahead
        rw [heap_grow_old _ _ (by simpa using hgs)]
        simp [Array.getElem?_modify, hg, onCells]
      have hsz : (sortWorldK encE 5 w g 0 m d' os).heap.size = w.heap.size + os.size := by
        unfold sortWorldK
        rw [size_grow]
        simp [putRowK, putRow, mapBlock, Sort.ahead]
      refine ⟨rfl, ⟨rfl, rfl, rfl, by rw [hsz]; omega, fun k hk hne => ?_⟩, ordT ys, (d'.toList.map encE).flatten, rfl, ⟨?_, .inr ⟨g, cap, putCells id 0 (flatK encE 5 d') cur, rfl, hb, hheap, hc1, hc2, ?_, ?_⟩⟩, ?_, ?_⟩
      · have hkg : ¬ g = k := fun e => hne (by subst e; rfl)
        unfold sortWorldK putRowK putRow mapBlock Sort.ahead
        rw [heap_grow_old _ _ (by simpa using hk)]
        simp [Array.getElem?_modify, hkg]
      · rw [flat_len encE 5 encE_len, Array.length_toList, hdl]; rfl
      · rw [htw]; simp [putCells, hc3]
      · have := put_take (flatK encE 5 d') cur (by rw [size_flatK, hdl, hc3]; exact Nat.mul_le_mul_right 5 hc1)
        rw [size_flatK, hdl, flatK_list encE 5 encE_len (by omega)] at this
        exact this
      · rw [hol, hn]
      · rw [← huni]; exact el_flats _
end Go.Proofs.Ytdjknicjnaiomaa
