/-
  Frames and sieves and tables as plain lists; what the functions of frames answer.
-/
import Derived.Test.YtolcekkcenedjaaGreatP2
set_option linter.unusedVariables false
set_option linter.unusedSimpArgs false
namespace Go.Proofs.YtolcekkcenedjaaGreat.Sx

abbrev FrT : Ty := .pair (.int .i64) (.sl (.int .u8))
abbrev Fr : Type := Int × List Int
def putF (f : Fr) : List Int := one f.2.length ++ (f.1 :: (f.2 ++ sum4 (crcOf (f.1 :: f.2))))
def okF (f : Fr) : Bool := decide (1 ≤ f.1 ∧ f.1 ≤ 250 ∧ f.2.length ≤ 1048576)
def putFs : List Fr → List Int
  | [] => [] | f :: r => putF f ++ putFs r

theorem putFs_app : ∀ (l m : List Fr), putFs (l ++ m) = putFs l ++ putFs m
  | [], m => rfl
  | f :: l, m => by simp only [List.cons_append, putFs, putFs_app l m, List.append_assoc]

def gapF (b : List Int) : Bool := decide (b.length < 3) && b.all (fun c => decide (128 ≤ c))

def firstF (b : List Int) : Option (Int × List Int × Nat) :=
  if gvN b = 0 ∨ 1048576 < gvV b then none else
  match b.drop (gvN b) with
  | [] => none
  | k :: r => if k < 1 ∨ 250 < k then none else
    if r.length < (gvV b).toNat + 4 then none else
    if (r.drop (gvV b).toNat).take 4 = sum4 (crcOf (k :: r.take (gvV b).toNat)) then some (k, r.take (gvV b).toNat, gvN b + 1 + (gvV b).toNat + 4) else none

def errF (b : List Int) : Int :=
  if gapF b = true then 5 else
  if gvN b = 0 ∨ 1048576 < gvV b then 2 else
  match b.drop (gvN b) with
  | [] => 5
  | k :: r => if k < 1 ∨ 250 < k then 2 else if r.length < (gvV b).toNat + 4 then 5 else 2

theorem errF_pos (b : List Int) : errF b = 5 ∨ errF b = 2 := by
  unfold errF
  repeat' split
  all_goals simp

theorem sum4_len (s : Int) : (sum4 s).length = 4 := rfl
theorem sum4_byte (s : Int) : ∀ c ∈ sum4 s, 0 ≤ c ∧ c < 256 := by
  intro c hc; simp only [sum4, List.mem_cons, List.not_mem_nil, or_false] at hc; omega

theorem putF_len (f : Fr) : (putF f).length = (one f.2.length).length + 1 + f.2.length + 4 := by
  simp only [putF, List.length_append, List.length_cons, sum4_len]; omega

theorem putF_byte {f : Fr} (hk : okF f = true) (hb : ∀ c ∈ f.2, 0 ≤ c ∧ c < 256) : ∀ c ∈ putF f, 0 ≤ c ∧ c < 256 := by
  intro c hc
  simp only [okF, decide_eq_true_eq] at hk
  simp only [putF, List.mem_append, List.mem_cons] at hc
  rcases hc with h | h | h | h
  · have := one_byte _ c h; omega
  · subst h; omega
  · exact hb c h
  · exact sum4_byte _ c h

theorem putFs_byte : ∀ {l : List Fr}, (∀ f ∈ l, okF f = true ∧ ∀ c ∈ f.2, 0 ≤ c ∧ c < 256) → ∀ c ∈ putFs l, 0 ≤ c ∧ c < 256
  | [], _, c, hc => by cases hc
  | f :: l, h, c, hc => by
    simp only [putFs, List.mem_append] at hc
    rcases hc with hc | hc
    · exact putF_byte (h f (by simp)).1 (h f (by simp)).2 c hc
    · exact putFs_byte (fun g hg => h g (by simp [hg])) c hc

theorem firstF_put {f : Fr} (hk : okF f = true) (r : List Int) : firstF (putF f ++ r) = some (f.1, f.2, (putF f).length) := by
  obtain ⟨k, b⟩ := f
  simp only [okF, decide_eq_true_eq] at hk
  obtain ⟨k1, k2, k3⟩ := hk
  have hg := gv_one b.length (k :: (b ++ sum4 (crcOf (k :: b))) ++ r) (by omega)
  have hp := one_pos b.length
  have e : putF (k, b) ++ r = one b.length ++ (k :: (b ++ sum4 (crcOf (k :: b))) ++ r) := by simp [putF]
  rw [e]
  unfold firstF
  rw [hg.1, hg.2, if_neg (by omega), List.drop_left]
  simp only [List.cons_append, List.append_assoc]
  rw [if_neg (by omega), if_neg (by simp only [List.length_append, sum4_len, Int.toNat_natCast]; omega), Int.toNat_natCast, List.drop_left, List.take_left,
    if_pos (by rw [List.take_left' (sum4_len _)])]
  simp only [putF_len]

theorem firstF_inv {b : List Int} (hb : ∀ c ∈ b, 0 ≤ c ∧ c < 256) {k : Int} {y : List Int} {n : Nat} (h : firstF b = some (k, y, n)) :
    b = putF (k, y) ++ b.drop n ∧ n = (putF (k, y)).length ∧ okF (k, y) = true ∧ n ≤ b.length := by
  unfold firstF at h
  split at h
  · cases h
  rename_i h1
  have hz : gvN b ≠ 0 := fun e => h1 (.inl e)
  have hr := gv_range hb
  obtain ⟨g1, g2⟩ := gv_inv hb hz
  split at h
  · cases h
  rename_i k' r hd
  split at h
  · cases h
  rename_i h2
  split at h
  · cases h
  rename_i h3
  split at h
  · rename_i h4
    simp only [Option.some.injEq, Prod.mk.injEq] at h
    obtain ⟨rfl, rfl, rfl⟩ := h
    generalize hu : (gvV b).toNat = u at *
    have hl : (r.take u).length = u := by rw [List.length_take]; omega
    have hbl : b.length = gvN b + 1 + r.length := by
      have := congrArg List.length hd
      simp only [List.length_drop, List.length_cons] at this; omega
    have e1 : b = one u ++ (k' :: r) := by rw [← g1, ← hd, List.take_append_drop]
    have e2 : r = r.take u ++ ((r.drop u).take 4 ++ r.drop (u + 4)) := by
      rw [← List.drop_drop, List.take_append_drop, List.take_append_drop]
    have hlen : (putF (k', r.take u)).length = gvN b + 1 + u + 4 := by simp only [putF_len, hl, g2]
    have e3 : b = putF (k', r.take u) ++ r.drop (u + 4) := by
      have : putF (k', r.take u) ++ r.drop (u + 4) = one u ++ (k' :: (r.take u ++ ((r.drop u).take 4 ++ r.drop (u + 4)))) := by
        simp only [putF, hl, h4, List.append_assoc, List.cons_append]
      rw [this, ← e2, ← e1]
    refine ⟨?_, hlen.symm, ?_, by omega⟩
    · conv => lhs; rw [e3]
      congr 1
      rw [← hlen]
      conv => rhs; rw [e3]
      rw [List.drop_left]
    · simp only [okF, decide_eq_true_eq, hl]; omega
  · cases h

def scanN : Nat → List Int → List Fr
  | 0, _ => []
  | n + 1, b => match firstF b with
    | none => []
    | some (k, y, m) => (k, y) :: scanN n (b.drop m)
def scanF (b : List Int) : List Fr := scanN b.length b

theorem putF_pos (f : Fr) : 6 ≤ (putF f).length := by
  have := one_pos f.2.length
  rw [putF_len]; omega

theorem scanN_spec : ∀ (n : Nat) (b : List Int), (∀ c ∈ b, 0 ≤ c ∧ c < 256) → b.length ≤ n → ∃ r, b = putFs (scanN n b) ++ r ∧ firstF r = none ∧ (∀ f ∈ scanN n b, okF f = true)
  | 0, b, hb, h => by
    have : b = [] := List.length_eq_zero_iff.1 (by omega)
    subst this
    exact ⟨[], rfl, by decide, by intro f hf; cases hf⟩
  | n + 1, b, hb, h => by
    rw [scanN]
    cases hf : firstF b with
    | none => exact ⟨b, by simp [putFs], hf, by intro f hf; cases hf⟩
    | some x =>
      obtain ⟨k, y, m⟩ := x
      obtain ⟨i1, i2, i3, i4⟩ := firstF_inv hb hf
      have hp := putF_pos (k, y)
      obtain ⟨r, j1, j2, j3⟩ := scanN_spec n (b.drop m) (fun c hc => hb c (List.mem_of_mem_drop hc)) (by rw [List.length_drop]; omega)
      refine ⟨r, ?_, j2, ?_⟩
      · simp only [putFs, List.append_assoc]; rw [← j1]; exact i1
      · intro f hf
        rcases List.mem_cons.1 hf with rfl | hf
        · exact i3
        · exact j3 f hf

theorem scanF_spec (b : List Int) (hb : ∀ c ∈ b, 0 ≤ c ∧ c < 256) : ∃ r, b = putFs (scanF b) ++ r ∧ firstF r = none ∧ (∀ f ∈ scanF b, okF f = true) := scanN_spec _ b hb (Nat.le_refl _)

theorem scanN_put : ∀ (l : List Fr) (r : List Int) (n : Nat), (∀ f ∈ l, okF f = true) → firstF r = none → l.length ≤ n → scanN n (putFs l ++ r) = l
  | [], r, 0, _, _, _ => rfl
  | [], r, n + 1, _, hr, _ => by rw [scanN]; simp only [putFs, List.nil_append, hr]
  | f :: l, r, 0, _, _, h => by simp at h
  | f :: l, r, n + 1, ho, hr, h => by
    rw [scanN]
    simp only [putFs, List.append_assoc]
    rw [firstF_put (ho f (by simp))]
    simp only [List.drop_left]
    rw [scanN_put l r n (fun g hg => ho g (by simp [hg])) hr (by simpa using h)]

theorem putFs_len (l : List Fr) : l.length ≤ (putFs l).length := by
  induction l with
  | nil => simp
  | cons f l ih => simp only [putFs, List.length_cons, List.length_append]; have := putF_pos f; omega

theorem scanF_put {l : List Fr} {r : List Int} (ho : ∀ f ∈ l, okF f = true) (hr : firstF r = none) : scanF (putFs l ++ r) = l :=
  scanN_put l r _ ho hr (by rw [List.length_append]; have := putFs_len l; omega)

theorem firstF_nil : firstF [] = none := by decide

theorem scanF_cons {b : List Int} (hb : ∀ c ∈ b, 0 ≤ c ∧ c < 256) {k : Int} {y : List Int} {n : Nat} (h : firstF b = some (k, y, n)) : scanF b = (k, y) :: scanF (b.drop n) := by
  obtain ⟨i1, i2, i3, i4⟩ := firstF_inv hb h
  obtain ⟨r, j1, j2, j3⟩ := scanF_spec (b.drop n) (fun c hc => hb c (List.mem_of_mem_drop hc))
  have e : b = putFs ((k, y) :: scanF (b.drop n)) ++ r := by simp only [putFs, List.append_assoc]; rw [← j1]; exact i1
  conv => lhs; rw [e]
  exact scanF_put (fun f hf => by rcases List.mem_cons.1 hf with rfl | hf; exact i3; exact j3 f hf) j2
theorem scanF_none {b : List Int} (h : firstF b = none) : scanF b = [] := by
  unfold scanF
  cases hb : b.length with
  | zero => rfl
  | succ n => rw [scanN, h]

theorem crcL_app : ∀ (a b : List Int) (r : BitVec 32), crcL r (a ++ b) = crcL (crcL r a) b
  | [], b, r => rfl
  | c :: a, b, r => by simp only [List.cons_append, crcL]; exact crcL_app a b _
theorem crc_more (k : Int) (b : List Int) : val (Mx ^^^ crcL (Mx ^^^ V (crcOf [k])) b) = crcOf (k :: b) := by
  unfold crcOf
  rw [V_val, ← BitVec.xor_assoc, BitVec.xor_self, BitVec.zero_xor, ← crcL_app]
  rfl
end Go.Proofs.YtolcekkcenedjaaGreat.Sx

namespace Go.Proofs.YtolcekkcenedjaaGreat.Sx

def hashD (h : Int) : Int := if (h * 131072 % 4294967296 + h / 32768) % 2 = 0 then h * 131072 % 4294967296 + h / 32768 + 1 else h * 131072 % 4294967296 + h / 32768
def bitI (h : Int) (n : Int) (i : Nat) : Int := (h + (i : Int) * hashD h) % 4294967296 % (8 * n)
def bitsOf (n : Int) (key : List Int) : List Int := [bitI (crcOf key) n 0, bitI (crcOf key) n 1, bitI (crcOf key) n 2, bitI (crcOf key) n 3, bitI (crcOf key) n 4, bitI (crcOf key) n 5]
def b2n (b : Bool) (n : Int) : Int := if b = true then n else 0
def byteB (b0 b1 b2 b3 b4 b5 b6 b7 : Bool) : Int := b2n b0 1 + b2n b1 2 + b2n b2 4 + b2n b3 8 + b2n b4 16 + b2n b5 32 + b2n b6 64 + b2n b7 128
def byteOf (f : Nat → Bool) : Int := byteB (f 0) (f 1) (f 2) (f 3) (f 4) (f 5) (f 6) (f 7)
def inB (bs : List Int) (i : Nat) (k : Nat) : Bool := decide ((8 * (i : Int) + (k : Int)) ∈ bs)
def setB (n : Nat) (bs : List Int) : List Int := (List.range n).map fun i => byteOf (inB bs i)
def sieveN (m : Nat) : Nat := m + m / 10 + 1
def sieveOf (keys : List (List Int)) : List Int := setB (sieveN keys.length) (keys.map (bitsOf (sieveN keys.length))).flatten

theorem byteB_range : ∀ b0 b1 b2 b3 b4 b5 b6 b7 : Bool, 0 ≤ byteB b0 b1 b2 b3 b4 b5 b6 b7 ∧ byteB b0 b1 b2 b3 b4 b5 b6 b7 < 256 := by decide +kernel
theorem byteOf_range (f : Nat → Bool) : 0 ≤ byteOf f ∧ byteOf f < 256 := byteB_range _ _ _ _ _ _ _ _
theorem byteB_or : ∀ (k : _root_.Fin 8) (b0 b1 b2 b3 b4 b5 b6 b7 : Bool), bOr .u8 (byteB b0 b1 b2 b3 b4 b5 b6 b7) (2 ^ k.1) =
    byteB (b0 || k.1 == 0) (b1 || k.1 == 1) (b2 || k.1 == 2) (b3 || k.1 == 3) (b4 || k.1 == 4) (b5 || k.1 == 5) (b6 || k.1 == 6) (b7 || k.1 == 7) := by decide +kernel
theorem byteOf_or (f : Nat → Bool) (k : Nat) (hk : k < 8) : bOr .u8 (byteOf f) (2 ^ k) = byteOf fun i => f i || k == i :=
  byteB_or ⟨k, hk⟩ (f 0) (f 1) (f 2) (f 3) (f 4) (f 5) (f 6) (f 7)

theorem setB_len (n : Nat) (bs : List Int) : (setB n bs).length = n := by simp [setB]
theorem setB_nil (n : Nat) : setB n [] = List.replicate n 0 := by
  unfold setB
  refine List.ext_getElem (by simp) (fun i h1 h2 => ?_)
  simp [inB, byteOf, byteB, b2n]

theorem setB_get {n : Nat} {bs : List Int} {i : Nat} (h : i < n) : (setB n bs)[i]? = some (byteOf (inB bs i)) := by
  simp [setB, h]

theorem setB_byte (n : Nat) (bs : List Int) : ∀ c ∈ setB n bs, 0 ≤ c ∧ c < 256 := by
  intro c hc
  simp only [setB, List.mem_map] at hc
  obtain ⟨i, _, rfl⟩ := hc
  exact byteOf_range _

theorem byteOf_congr {f g : Nat → Bool} (h : ∀ k, k < 8 → f k = g k) : byteOf f = byteOf g := by
  simp only [byteOf, h 0 (by omega), h 1 (by omega), h 2 (by omega), h 3 (by omega), h 4 (by omega), h 5 (by omega), h 6 (by omega), h 7 (by omega)]

theorem setB_step {n : Nat} {bs : List Int} {b : Int} (h0 : 0 ≤ b) (h1 : b < 8 * (n : Int)) :
    (setB n bs).set (b / 8).toNat (bOr .u8 (byteOf (inB bs (b / 8).toNat)) (2 ^ (b % 8).toNat)) = setB n (bs ++ [b]) := by
  refine List.ext_getElem? (fun j => ?_)
  rw [List.getElem?_set]
  by_cases hj : j < n
  · rw [setB_get hj]
    split
    · rename_i e
      subst e
      rw [if_pos (by rw [setB_len]; omega), byteOf_or _ _ (by omega)]
      rw [setB_get hj]
      congr 1
      refine byteOf_congr ?_
      have key : ∀ k : Nat, k < 8 → (inB bs (b / 8).toNat k || (b % 8).toNat == k) = inB (bs ++ [b]) (b / 8).toNat k := by
        intro k hk
        rw [Bool.eq_iff_iff]
        simp only [inB, Bool.or_eq_true, decide_eq_true_eq, beq_iff_eq, List.mem_append, List.mem_singleton]
        constructor
        · rintro (h | h)
          · exact .inl h
          · exact .inr (by omega)
        · rintro (h | h)
          · exact .inl h
          · exact .inr (by omega)
      exact key
    · rename_i e
      rw [setB_get hj]
      congr 1
      refine byteOf_congr ?_
      have key : ∀ k : Nat, k < 8 → inB bs j k = inB (bs ++ [b]) j k := by
        intro k hk
        rw [Bool.eq_iff_iff]
        simp only [inB, decide_eq_true_eq, List.mem_append, List.mem_singleton]
        constructor
        · exact .inl
        · rintro (h | h)
          · exact h
          · exact absurd (show (b / 8).toNat = j by omega) e
      exact key
  · rw [List.getElem?_eq_none (l := setB n (bs ++ [b])) (by rw [setB_len]; omega)]
    split
    · rw [if_neg (by rw [setB_len]; omega)]
    · rw [List.getElem?_eq_none (by rw [setB_len]; omega)]

theorem sieve_byte (keys : List (List Int)) : ∀ c ∈ sieveOf keys, 0 ≤ c ∧ c < 256 := setB_byte _ _
theorem sieve_len (keys : List (List Int)) : (sieveOf keys).length = sieveN keys.length := setB_len _ _
end Go.Proofs.YtolcekkcenedjaaGreat.Sx

namespace Go.Proofs.YtolcekkcenedjaaGreat.Sx

def wI (x : It) : Int := (x.1.length : Int) + 16 + x.2.2.2.1.length
def wgt : List It → Int
  | [] => 0 | x :: r => wI x + wgt r
theorem wgt_app : ∀ a b : List It, wgt (a ++ b) = wgt a + wgt b
  | [], b => by simp [wgt]
  | x :: a, b => by simp only [List.cons_append, wgt, wgt_app a b]; omega
theorem wgt_nonneg : ∀ a : List It, 0 ≤ wgt a
  | [] => by simp [wgt]
  | x :: a => by simp only [wgt, wI]; have := wgt_nonneg a; omega

def full (size : Int) (p : List It) : Bool := decide (size ≤ wgt p ∨ p.length = 64)
def partsGo (size : Int) : List It → List It → List (List It)
  | _, [] => []
  | p, x :: r => if full size (p ++ [x]) = true ∨ r = [] then (p ++ [x]) :: partsGo size [] r else partsGo size (p ++ [x]) r
def parted (size : Int) (l : List It) : List (List It) := partsGo size [] l

theorem partsGo_flat (size : Int) : ∀ (l p : List It), l ≠ [] ∨ p = [] → (partsGo size p l).flatten = p ++ l
  | [], p, h => by rcases h with h | h; exact absurd rfl h; subst h; rfl
  | x :: r, p, _ => by
    rw [partsGo]
    split
    · rename_i h
      rw [List.flatten_cons, partsGo_flat size r [] (.inr rfl)]; simp
    · rename_i h
      rw [partsGo_flat size r (p ++ [x]) (.inl fun e => h (.inr e))]; simp
theorem parted_flat (size : Int) (l : List It) : (parted size l).flatten = l := by
  unfold parted; rw [partsGo_flat size l [] (.inr rfl)]; rfl
theorem partsGo_len (size : Int) : ∀ (l p : List It), p.length < 64 → ∀ q ∈ partsGo size p l, 1 ≤ q.length ∧ q.length ≤ 64
  | [], p, _, q, hq => by cases hq
  | x :: r, p, hp, q, hq => by
    rw [partsGo] at hq
    split at hq
    · rcases List.mem_cons.1 hq with rfl | hq
      · simp; omega
      · exact partsGo_len size r [] (by simp) q hq
    · rename_i h
      refine partsGo_len size r (p ++ [x]) ?_ q hq
      have : ¬ (p ++ [x]).length = 64 := fun e => h (.inl (by simp only [full, decide_eq_true_eq]; exact .inr e))
      simp only [List.length_append, List.length_cons, List.length_nil] at this ⊢; omega
theorem parted_len (size : Int) (l : List It) : ∀ q ∈ parted size l, 1 ≤ q.length ∧ q.length ≤ 64 := partsGo_len size l [] (by simp)
theorem parted_ne {size : Int} {l : List It} (h : l ≠ []) : parted size l ≠ [] := by
  intro e
  have := parted_flat size l
  rw [e] at this
  exact h this.symm

def blkPut (p : List It) : List Int := putL [(p.length : Int)] ++ encL [] p
def keyOf (p : List It) : List Int := ((p.head?.map (·.1)).getD [])
def headN (n : Nat) : Nat := (one n).length + 1
def frB (p : List It) : Fr := (1, blkPut p)
def frBs (ps : List (List It)) : List Fr := ps.map frB
def idxG : Nat → List (List It) → List Int
  | _, [] => []
  | at_, p :: r => (one (keyOf p).length ++ (keyOf p ++ one (at_ + headN (blkPut p).length))) ++ idxG (at_ + (putF (frB p)).length) r
theorem idxG_app : ∀ (a b : List (List It)) (n : Nat), idxG n (a ++ b) = idxG n a ++ idxG (n + (putFs (frBs a)).length) b
  | [], b, n => by simp [idxG, frBs, putFs]
  | p :: a, b, n => by
    simp only [List.cons_append, idxG, idxG_app a b, frBs, List.map_cons, putFs, List.length_append, List.append_assoc]
    rw [show n + (putF (frB p)).length + (putFs (List.map frB a)).length = n + ((putF (frB p)).length + (putFs (List.map frB a)).length) by omega]
def keysOf (l : List It) : List (List Int) := l.map (·.1)
def tailF (ps : List (List It)) (l : List It) : List Fr := [(2, idxG 0 ps), (3, sieveOf (keysOf l)), (4, one l.length)]
def tabPut (ps : List (List It)) : List Int := putFs (frBs ps ++ tailF ps ps.flatten)

def partsB : List Fr → Option (List (List It))
  | [] => some []
  | f :: r => if f.1 = 1 then (match blkGet f.2 with
    | none => none
    | some p => match partsB r with
      | none => none
      | some ps => some (p :: ps)) else some []
def tabOk (ps : List (List It)) (b : List Int) : Bool := decide (1 ≤ ps.flatten.length ∧ ps.flatten.length ≤ 16384) && srt none ps.flatten && decide (tabPut ps = b)
def openT (b : List Int) : Option (List (List It)) := match partsB (scanF b) with
  | none => none
  | some ps => if tabOk ps b = true then some ps else none

def sumsOk (l : List It) : Prop := ∀ x ∈ l, 0 ≤ x.2.2.2.2.2.2.2 ∧ x.2.2.2.2.2.2.2 < 4294967296
def bytesOk (l : List It) : Prop := ∀ x ∈ l, (∀ c ∈ x.1, 0 ≤ c ∧ c < 256) ∧ (∀ c ∈ x.2.2.2.1, 0 ≤ c ∧ c < 256)

theorem srt_append : ∀ (q : Option (List Int)) (a b : List It), srt q (a ++ b) = true → srt q a = true ∧ srt none b = true
  | q, [], b, h => ⟨rfl, by cases q with | none => exact h | some k => exact srt_none h⟩
  | q, x :: a, b, h => by
    simp only [List.cons_append, srt, Bool.and_eq_true] at h ⊢
    have := srt_append (some x.1) a b h.2
    exact ⟨⟨h.1, this.1⟩, this.2⟩
theorem srt_flat : ∀ (ps : List (List It)), srt none ps.flatten = true → ∀ p ∈ ps, srt none p = true
  | [], _, p, hp => by cases hp
  | q :: ps, h, p, hp => by
    rw [List.flatten_cons] at h
    obtain ⟨h1, h2⟩ := srt_append none q _ h
    rcases List.mem_cons.1 hp with rfl | hp
    · exact h1
    · exact srt_flat ps h2 p hp

theorem partsB_put : ∀ (ps : List (List It)) (m : List Fr), (∀ p ∈ ps, 1 ≤ p.length ∧ p.length ≤ 256 ∧ srt none p = true ∧ sumsOk p) → (∀ f, m.head? = some f → f.1 ≠ 1) → partsB (frBs ps ++ m) = some ps
  | [], [], _, _ => rfl
  | [], f :: m, _, h => by
    have := h f rfl
    simp only [frBs, List.map_nil, List.nil_append, partsB, if_neg this]
  | p :: ps, m, h, hm => by
    obtain ⟨h1, h2, h3, h4⟩ := h p (by simp)
    have e := blkGet_enc h1 h2 h3 h4
    have ih := partsB_put ps m (fun q hq => h q (by simp [hq])) hm
    simp only [frBs] at ih
    simp only [frBs, List.map_cons, List.cons_append, partsB, frB, if_true, blkPut, e, ih]

theorem partsB_inv : ∀ (l : List Fr) (ps : List (List It)), (∀ f ∈ l, ∀ c ∈ f.2, 0 ≤ c ∧ c < 256) → partsB l = some ps →
    (∃ m, l = frBs ps ++ m ∧ ∀ f, m.head? = some f → f.1 ≠ 1) ∧ ∀ p ∈ ps, 1 ≤ p.length ∧ p.length ≤ 256 ∧ srt none p = true ∧ sumsOk p
  | [], ps, _, h => by
    simp only [partsB, Option.some.injEq] at h; subst h
    exact ⟨⟨[], rfl, by simp⟩, by intro p hp; cases hp⟩
  | f :: l, ps, hb, h => by
    rw [partsB] at h
    split at h
    · rename_i hk
      split at h
      · cases h
      rename_i p hp
      split at h
      · cases h
      rename_i qs hq
      simp only [Option.some.injEq] at h; subst h
      obtain ⟨⟨m, i1, i2⟩, i3⟩ := partsB_inv l qs (fun g hg => hb g (by simp [hg])) hq
      obtain ⟨j1, j2, j3, j4, j5⟩ := blkGet_inv (hb f (by simp)) hp
      refine ⟨⟨m, ?_, i2⟩, ?_⟩
      · obtain ⟨k, y⟩ := f
        simp only at hk j1
        subst hk
        simp only [frBs, List.map_cons, List.cons_append, frB, blkPut, ← j1]
        congr 1
      · intro q hq
        rcases List.mem_cons.1 hq with rfl | hq
        · exact ⟨j2, j3, j4, j5⟩
        · exact i3 q hq
    · rename_i hk
      simp only [Option.some.injEq] at h; subst h
      exact ⟨⟨f :: l, rfl, by simpa using hk⟩, by intro p hp; cases hp⟩

theorem blk_len {p : List It} (h : p.length ≤ 256) (hs : srt none p = true) : (blkPut p).length ≤ 10 + 200 * p.length := by
  have h1 := encL_len [] p (fun x hx => srt_ok none p hs x hx)
  have h2 := putL_len [(p.length : Int)] (by intro u hu; simp only [List.mem_singleton] at hu; omega)
  simp only [blkPut, List.length_append, List.length_singleton] at h2 ⊢
  omega
theorem one_len5 {n : Nat} (h : n < 34359738368) : (one n).length ≤ 5 := one_len 4 n (by omega)
theorem key_len {p : List It} (hs : srt none p = true) : (keyOf p).length ≤ 64 := by
  unfold keyOf
  cases p with
  | nil => simp
  | cons x r =>
    have := srt_len hs x (by simp)
    simpa using this.2.1
theorem putF_le {f : Fr} (h : f.2.length < 34359738368) : (putF f).length ≤ f.2.length + 10 := by
  have := one_len5 h
  rw [putF_len]; omega
theorem idx_len : ∀ (ps : List (List It)) (n : Nat), (∀ p ∈ ps, p.length ≤ 256 ∧ srt none p = true) → n + 60000 * ps.length < 34359738368 → (idxG n ps).length ≤ 74 * ps.length
  | [], n, _, _ => by simp [idxG]
  | p :: ps, n, h, hn => by
    obtain ⟨h1, h2⟩ := h p (by simp)
    have hb := blk_len h1 h2
    have hk := key_len h2
    have e1 := one_len5 (n := (keyOf p).length) (by omega)
    have e0 := one_len5 (n := (blkPut p).length) (by omega)
    simp only [List.length_cons] at hn
    have e2 := one_len5 (n := n + headN (blkPut p).length) (by simp only [headN]; omega)
    have hf := putF_le (f := frB p) (by simp only [frB]; omega)
    simp only [frB] at hf
    have ih := idx_len ps (n + (putF (frB p)).length) (fun q hq => h q (by simp [hq])) (by simp only [frB]; omega)
    simp only [idxG, List.length_append, List.length_cons]
    omega

theorem tab_fr {ps : List (List It)} (h : ∀ p ∈ ps, p.length ≤ 256 ∧ srt none p = true) (hl : ps.length ≤ 10000) (hn : ps.flatten.length ≤ 65536) : ∀ f ∈ frBs ps ++ tailF ps ps.flatten, okF f = true := by
  intro f hf
  rcases List.mem_append.1 hf with hf | hf
  · obtain ⟨p, hp, rfl⟩ := List.mem_map.1 hf
    have := blk_len (h p hp).1 (h p hp).2
    have h2 := (h p hp).1
    have h3 : (frB p).2 = blkPut p := rfl
    have h4 : (frB p).1 = 1 := rfl
    simp only [okF, h3, h4, decide_eq_true_eq]; omega
  · simp only [tailF, List.mem_cons, List.not_mem_nil, or_false] at hf
    rcases hf with rfl | rfl | rfl
    · have := idx_len ps 0 h (by omega)
      simp only [okF, decide_eq_true_eq]; omega
    · have := sieve_len (keysOf ps.flatten)
      have hk : (keysOf ps.flatten).length = ps.flatten.length := by simp only [keysOf, List.length_map]
      rw [hk] at this
      simp only [okF, decide_eq_true_eq, this, sieveN]; omega
    · have := one_len5 (n := ps.flatten.length) (by omega)
      simp only [okF, decide_eq_true_eq]; omega

theorem openT_put {ps : List (List It)} (hp : ∀ p ∈ ps, 1 ≤ p.length ∧ p.length ≤ 256 ∧ sumsOk p) (hs : srt none ps.flatten = true) (hne : ps ≠ []) (hl : ps.length ≤ 10000) (hn : ps.flatten.length ≤ 16384) :
    openT (tabPut ps) = some ps := by
  have h1 := srt_flat ps hs
  have h2 := tab_fr (ps := ps) (fun p hp' => ⟨(hp p hp').2.1, h1 p hp'⟩) hl (by omega)
  have h3 := scanF_put (r := []) h2 firstF_nil
  rw [List.append_nil] at h3
  unfold openT
  rw [show tabPut ps = putFs (frBs ps ++ tailF ps ps.flatten) from rfl, h3, partsB_put ps _ (fun p hp' => ⟨(hp p hp').1, (hp p hp').2.1, h1 p hp', (hp p hp').2.2⟩) (by simp [tailF])]
  simp only
  have hpos : 1 ≤ ps.flatten.length := by
    cases ps with
    | nil => exact absurd rfl hne
    | cons p r => have := (hp p (by simp)).1; simp only [List.flatten_cons, List.length_append]; omega
  rw [if_pos]
  simp only [tabOk, Bool.and_eq_true, decide_eq_true_eq]
  exact ⟨⟨⟨hpos, hn⟩, hs⟩, rfl⟩

theorem openT_inv {b : List Int} (hb : ∀ c ∈ b, 0 ≤ c ∧ c < 256) {ps : List (List It)} (h : openT b = some ps) :
    tabPut ps = b ∧ srt none ps.flatten = true ∧ 1 ≤ ps.flatten.length ∧ ps.flatten.length ≤ 16384 ∧ ps ≠ [] ∧ ∀ p ∈ ps, 1 ≤ p.length ∧ p.length ≤ 256 ∧ srt none p = true ∧ sumsOk p := by
  unfold openT at h
  split at h
  · cases h
  rename_i qs hq
  split at h
  · rename_i ho
    simp only [Option.some.injEq] at h; subst h
    simp only [tabOk, Bool.and_eq_true, decide_eq_true_eq] at ho
    obtain ⟨r, e1, e2, e3⟩ := scanF_spec b hb
    have hfb : ∀ f ∈ scanF b, ∀ c ∈ f.2, 0 ≤ c ∧ c < 256 := by
      have key : ∀ (l : List Fr) (f : Fr), f ∈ l → ∀ c ∈ f.2, c ∈ putFs l := by
        intro l
        induction l with
        | nil => intro f hf; cases hf
        | cons g l ih =>
          intro f hf c hc
          simp only [putFs, List.mem_append]
          rcases List.mem_cons.1 hf with rfl | hf
          · left; simp [putF, hc]
          · right; exact ih f hf c hc
      intro f hf c hc
      exact hb c (by rw [e1]; exact List.mem_append_left _ (key _ f hf c hc))
    obtain ⟨_, i3⟩ := partsB_inv _ _ hfb hq
    refine ⟨ho.2, ho.1.2, ho.1.1.1, ho.1.1.2, ?_, i3⟩
    intro e; subst e
    simp at ho
  · cases h
end Go.Proofs.YtolcekkcenedjaaGreat.Sx

namespace Go.Proofs.YtolcekkcenedjaaGreat.Sx
def len8 : List Int := [0, 1, 2, 2, 3, 3, 3, 3, 4, 4, 4, 4, 4, 4, 4, 4, 5, 5, 5, 5, 5, 5, 5, 5, 5, 5, 5, 5, 5, 5, 5, 5, 6, 6, 6, 6, 6, 6, 6, 6, 6, 6, 6, 6, 6, 6, 6, 6, 6, 6, 6, 6, 6, 6, 6, 6, 6, 6, 6, 6, 6, 6, 6, 6, 7, 7, 7, 7, 7, 7, 7, 7, 7, 7, 7, 7, 7, 7, 7, 7, 7, 7, 7, 7, 7, 7, 7, 7, 7, 7, 7, 7, 7, 7, 7, 7, 7, 7, 7, 7, 7, 7, 7, 7, 7, 7, 7, 7, 7, 7, 7, 7, 7, 7, 7, 7, 7, 7, 7, 7, 7, 7, 7, 7, 7, 7, 7, 7, 8, 8, 8, 8, 8, 8, 8, 8, 8, 8, 8, 8, 8, 8, 8, 8, 8, 8, 8, 8, 8, 8, 8, 8, 8, 8, 8, 8, 8, 8, 8, 8, 8, 8, 8, 8, 8, 8, 8, 8, 8, 8, 8, 8, 8, 8, 8, 8, 8, 8, 8, 8, 8, 8, 8, 8, 8, 8, 8, 8, 8, 8, 8, 8, 8, 8, 8, 8, 8, 8, 8, 8, 8, 8, 8, 8, 8, 8, 8, 8, 8, 8, 8, 8, 8, 8, 8, 8, 8, 8, 8, 8, 8, 8, 8, 8, 8, 8, 8, 8, 8, 8, 8, 8, 8, 8, 8, 8, 8, 8, 8, 8, 8, 8, 8, 8, 8, 8, 8, 8, 8, 8, 8, 8, 8, 8, 8, 8]
def sig157 : Sig := { id := 157, ins := [(false, Ty.int .u64)], outs := [(false, [(Ty.int .i64, none)])] }
def ir157 : IR := .op (.icmp .geq) [.v 0, .l (.int .u64 4294967296)] (.ite (.v 1) (.op (.ibin .shr .u64) [.v 0, .l (.int .u64 32)] (.op (.icmp .geq) [.v 2, .l (.int .u64 65536)] (.ite (.v 3) (.op (.ibin .shr .u64) [.v 2, .l (.int .u64 16)] (.op (.icmp .geq) [.v 4, .l (.int .u64 256)] (.ite (.v 5) (.op (.ibin .shr .u64) [.v 4, .l (.int .u64 8)] (.op (.conv .u8) [.v 6] (.op .sidx [.l (.str len8), .v 7] (.op (.conv .i64) [.v 8] (.op (.ibin .add .i64) [.l (.int .i64 56), .v 9] (.ret [.v 10])))))) (.op (.conv .u8) [.v 4] (.op .sidx [.l (.str len8), .v 6] (.op (.conv .i64) [.v 7] (.op (.ibin .add .i64) [.l (.int .i64 48), .v 8] (.ret [.v 9])))))))) (.op (.icmp .geq) [.v 2, .l (.int .u64 256)] (.ite (.v 4) (.op (.ibin .shr .u64) [.v 2, .l (.int .u64 8)] (.op (.conv .u8) [.v 5] (.op .sidx [.l (.str len8), .v 6] (.op (.conv .i64) [.v 7] (.op (.ibin .add .i64) [.l (.int .i64 40), .v 8] (.ret [.v 9])))))) (.op (.conv .u8) [.v 2] (.op .sidx [.l (.str len8), .v 5] (.op (.conv .i64) [.v 6] (.op (.ibin .add .i64) [.l (.int .i64 32), .v 7] (.ret [.v 8])))))))))) (.op (.icmp .geq) [.v 0, .l (.int .u64 65536)] (.ite (.v 2) (.op (.ibin .shr .u64) [.v 0, .l (.int .u64 16)] (.op (.icmp .geq) [.v 3, .l (.int .u64 256)] (.ite (.v 4) (.op (.ibin .shr .u64) [.v 3, .l (.int .u64 8)] (.op (.conv .u8) [.v 5] (.op .sidx [.l (.str len8), .v 6] (.op (.conv .i64) [.v 7] (.op (.ibin .add .i64) [.l (.int .i64 24), .v 8] (.ret [.v 9])))))) (.op (.conv .u8) [.v 3] (.op .sidx [.l (.str len8), .v 5] (.op (.conv .i64) [.v 6] (.op (.ibin .add .i64) [.l (.int .i64 16), .v 7] (.ret [.v 8])))))))) (.op (.icmp .geq) [.v 0, .l (.int .u64 256)] (.ite (.v 3) (.op (.ibin .shr .u64) [.v 0, .l (.int .u64 8)] (.op (.conv .u8) [.v 4] (.op .sidx [.l (.str len8), .v 5] (.op (.conv .i64) [.v 6] (.op (.ibin .add .i64) [.l (.int .i64 8), .v 7] (.ret [.v 8])))))) (.op (.conv .u8) [.v 0] (.op .sidx [.l (.str len8), .v 4] (.op (.conv .i64) [.v 5] (.op (.ibin .add .i64) [.l (.int .i64 0), .v 6] (.ret [.v 7]))))))))))
def sig1057 : Sig := { id := 1057, ins := [(false, Ty.int .u64)], outs := [(false, [(Ty.int .i64, none)])] }
def ir1057 : IR := .op (.call 157) [.v 0] (.op (.ibin .add .i64) [.v 1, .l (.int .i64 7)] (.op (.ibin .sub .i64) [.v 2, .l (.int .i64 1)] (.op (.ibin .quo .i64) [.v 3, .l (.int .i64 7)] (.op .max [.l (.int .i64 1), .v 4] (.ret [.v 5])))))
def sig1039 : Sig := { id := 1039, ins := [(false, Ty.int .i64)], outs := [(false, [(Ty.int .i64, none)])] }
def ir1039 : IR := .op (.icmp .lss) [.v 0, .l (.int .i64 0)] (.ite (.v 1) (.ret [.l (.int .i64 0)]) (.op (.icmp .gtr) [.v 0, .l (.int .i64 1048576)] (.ite (.v 2) (.ret [.l (.int .i64 0)]) (.op (.conv .u64) [.v 0] (.op (.call 1057) [.v 3] (.op (.ibin .add .i64) [.v 4, .l (.int .i64 1)] (.ret [.v 5])))))))
def sig1054 : Sig := { id := 1054, ins := [(false, Ty.int .i64)], outs := [(false, [(Ty.int .i64, none)])] }
def ir1054 : IR := .op (.call 1039) [.v 0] (.op (.icmp .eql) [.v 1, .l (.int .i64 0)] (.ite (.v 2) (.ret [.l (.int .i64 0)]) (.op (.ibin .add .i64) [.v 1, .v 0] (.op (.ibin .add .i64) [.v 3, .l (.int .i64 4)] (.ret [.v 4])))))
def sig1050 : Sig := { id := 1050, ins := [(true, (Ty.int .i64).pair (Ty.int .u8).sl)], outs := [(false, [(Ty.bool, none)])] }
def ir1050 : IR := .op (.icmp .geq) [.v 0, .l (.int .i64 1)] (.ite (.v 2) (.op (.icmp .leq) [.v 0, .l (.int .i64 250)] (.ite (.v 3) (.op .len [.v 1] (.op (.icmp .leq) [.v 4, .l (.int .i64 1048576)] (.ret [.v 5]))) (.ret [.l (.bool false)]))) (.ret [.l (.bool false)]))
def sig1052 : Sig := { id := 1052, ins := [(false, Ty.int .u8), (false, (Ty.int .u8).sl)], outs := [(false, [(Ty.int .u32, none)])] }
def ir1052 : IR := .op (.mk (Ty.int .u8) 1) [.v 0] (.op (.call 73) [.v 2] (.op (.call 122) [.v 3, .v 1] (.ret [.v 4])))
def sig1053 : Sig := { id := 1053, ins := [(false, (Ty.int .u8).sl)], outs := [(false, [(Ty.bool, none)])] }
def ir1053 : IR := .op .len [.v 0] (.op (.icmp .lss) [.v 1, .l (.int .i64 3)] (.ite (.v 2) (.op .len [.v 0] (.loop [.l (.int .i64 0)] [Ty.int .i64] (.op (.icmp .lss) [.v 4, .v 3] (.ite (.v 5) (.op .inb [.v 0, .v 4] (.op (.idx (Ty.int .u8)) [.v 0, .v 4] (.op (.icmp .lss) [.v 6, .l (.int .u8 128)] (.ite (.v 7) (.op (.icmp .geq) [.v 4, .l (.int .i64 0)] (.ite (.v 2) (.op .not [.v 8] (.ret [.v 9])) (.ret [.l (.bool false)]))) (.op (.ibin .add .i64) [.v 4, .l (.int .i64 1)] (.jump 0 [.v 8])))))) (.ite (.v 2) (.ret [.l (.bool true)]) (.ret [.l (.bool false)])))))) (.ret [.l (.bool false)])))
def sig1055 : Sig := { id := 1055, ins := [(false, (Ty.int .u8).sl)], outs := [(false, [(Ty.int .u32, none)])] }
def ir1055 : IR := .op .inb [.v 0, .l (.int .i64 0)] (.op (.idx (Ty.int .u8)) [.v 0, .l (.int .i64 0)] (.op (.conv .u32) [.v 1] (.op .inb [.v 0, .l (.int .i64 1)] (.op (.idx (Ty.int .u8)) [.v 0, .l (.int .i64 1)] (.op (.conv .u32) [.v 3] (.op (.ibin .shl .u32) [.v 4, .l (.int .u64 8)] (.op (.ibin .or .u32) [.v 2, .v 5] (.op .inb [.v 0, .l (.int .i64 2)] (.op (.idx (Ty.int .u8)) [.v 0, .l (.int .i64 2)] (.op (.conv .u32) [.v 7] (.op (.ibin .shl .u32) [.v 8, .l (.int .u64 16)] (.op (.ibin .or .u32) [.v 6, .v 9] (.op .inb [.v 0, .l (.int .i64 3)] (.op (.idx (Ty.int .u8)) [.v 0, .l (.int .i64 3)] (.op (.conv .u32) [.v 11] (.op (.ibin .shl .u32) [.v 12, .l (.int .u64 24)] (.op (.ibin .or .u32) [.v 10, .v 13] (.ret [.v 14]))))))))))))))))))
def sig1056 : Sig := { id := 1056, ins := [(false, (Ty.int .u8).sl)], outs := [(false, [((Ty.int .u8).sl, some 5)])] }
def ir1056 : IR := .nilc (.v 0) (.ret [.l (.nil (Ty.int .u8))]) (.op (.mk (Ty.int .u8) 0) [] (.op .app [.v 1, .v 0] (.ret [.v 2])))
def sig1035 : Sig := { id := 1035, ins := [(false, ((Ty.int .i64).pair (Ty.int .u8).sl).sl)], outs := [(false, [((Ty.int .u8).sl, some 5)]), (false, [(Ty.int .i64, none)])] }
def ir1035 : IR := .op .len [.v 0] (.loop [.l (.nil (Ty.int .u8)), .l (.int .i64 0)] [(Ty.int .u8).sl, Ty.int .i64] (.op (.icmp .lss) [.v 3, .v 1] (.ite (.v 4) (.op .inb [.v 0, .v 3] (.op (.idx ((Ty.int .i64).pair (Ty.int .u8).sl)) [.v 0, .v 3] (.op (.call 1050) [.v 5, .v 6] (.op .not [.v 7] (.ite (.v 8) (.ret [.l (.nil (Ty.int .u8)), .l (.int .i64 1)]) (.op .len [.v 6] (.op (.conv .u64) [.v 9] (.op (.mk (Ty.int .u64) 1) [.v 10] (.op (.call 66) [.v 11] (.op .app [.v 2, .v 12] (.op (.conv .u8) [.v 5] (.op (.mk (Ty.int .u8) 1) [.v 14] (.op .app [.v 13, .v 15] (.op .app [.v 16, .v 6] (.op (.conv .u8) [.v 5] (.op (.call 1052) [.v 18, .v 6] (.op (.conv .u8) [.v 19] (.op (.ibin .shr .u32) [.v 19, .l (.int .u64 8)] (.op (.conv .u8) [.v 21] (.op (.ibin .shr .u32) [.v 19, .l (.int .u64 16)] (.op (.conv .u8) [.v 23] (.op (.ibin .shr .u32) [.v 19, .l (.int .u64 24)] (.op (.conv .u8) [.v 25] (.op (.mk (Ty.int .u8) 4) [.v 20, .v 22, .v 24, .v 26] (.op .app [.v 17, .v 27] (.op (.ibin .add .i64) [.v 3, .l (.int .i64 1)] (.jump 0 [.v 28, .v 29]))))))))))))))))))))))))))) (.ret [.v 2, .l (.int .i64 0)]))))
def sig1036 : Sig := { id := 1036, ins := [(false, (Ty.int .u8).sl)], outs := [(true, [(Ty.int .i64, none), ((Ty.int .u8).sl, some 5)]), (false, [(Ty.int .i64, none)]), (false, [(Ty.int .i64, none)])] }
def ir1036 : IR := .op (.call 1053) [.v 0] (.ite (.v 1) (.ret [.l (.int .i64 0), .l (.nil (Ty.int .u8)), .l (.int .i64 0), .l (.int .i64 5)]) (.op (.call 90) [.v 0] (.op (.icmp .neq) [.v 4, .l (.int .i64 0)] (.ite (.v 5) (.ret [.l (.int .i64 0), .l (.nil (Ty.int .u8)), .l (.int .i64 0), .l (.int .i64 2)]) (.op (.icmp .gtr) [.v 2, .l (.int .u64 1048576)] (.ite (.v 6) (.ret [.l (.int .i64 0), .l (.nil (Ty.int .u8)), .l (.int .i64 0), .l (.int .i64 2)]) (.op .len [.v 0] (.op (.icmp .eql) [.v 3, .v 7] (.ite (.v 8) (.ret [.l (.int .i64 0), .l (.nil (Ty.int .u8)), .l (.int .i64 0), .l (.int .i64 5)]) (.op .inb [.v 0, .v 3] (.op (.idx (Ty.int .u8)) [.v 0, .v 3] (.op (.icmp .lss) [.v 9, .l (.int .u8 1)] (.ite (.v 10) (.ret [.l (.int .i64 0), .l (.nil (Ty.int .u8)), .l (.int .i64 0), .l (.int .i64 2)]) (.op .inb [.v 0, .v 3] (.op (.idx (Ty.int .u8)) [.v 0, .v 3] (.op (.icmp .gtr) [.v 11, .l (.int .u8 250)] (.ite (.v 12) (.ret [.l (.int .i64 0), .l (.nil (Ty.int .u8)), .l (.int .i64 0), .l (.int .i64 2)]) (.op (.conv .i64) [.v 2] (.op .len [.v 0] (.op (.call 1054) [.v 13] (.op (.icmp .lss) [.v 14, .v 15] (.ite (.v 16) (.ret [.l (.int .i64 0), .l (.nil (Ty.int .u8)), .l (.int .i64 0), .l (.int .i64 5)]) (.op (.ibin .add .i64) [.v 3, .l (.int .i64 1)] (.op (.ibin .add .i64) [.v 3, .l (.int .i64 1)] (.op (.ibin .add .i64) [.v 18, .v 13] (.op .sub [.v 0, .v 17, .v 19] (.op (.ibin .add .i64) [.v 3, .l (.int .i64 1)] (.op (.ibin .add .i64) [.v 21, .v 13] (.op .sub [.v 0, .v 22] (.op (.call 1055) [.v 23] (.op .inb [.v 0, .v 3] (.op (.idx (Ty.int .u8)) [.v 0, .v 3] (.op (.call 1052) [.v 25, .v 20] (.op (.icmp .neq) [.v 24, .v 26] (.ite (.v 27) (.ret [.l (.int .i64 0), .l (.nil (Ty.int .u8)), .l (.int .i64 0), .l (.int .i64 2)]) (.op .inb [.v 0, .v 3] (.op (.idx (Ty.int .u8)) [.v 0, .v 3] (.op (.conv .i64) [.v 28] (.op (.call 1056) [.v 20] (.op (.call 1054) [.v 13] (.ret [.v 29, .v 30, .v 31, .l (.int .i64 0)])))))))))))))))))))))))))))))))))))))))))
def sig1027 : Sig := { id := 1027, ins := [(false, (Ty.int .u8).sl)], outs := [(false, [(((Ty.int .i64).pair (Ty.int .u8).sl).sl, some 79)]), (false, [((Ty.int .i64).sl, some 3)]), (false, [(Ty.int .i64, none)])] }
def ir1027 : IR := .loop [.l (.nil ((Ty.int .i64).pair (Ty.int .u8).sl)), .l (.nil (Ty.int .i64)), .l (.int .i64 0)] [((Ty.int .i64).pair (Ty.int .u8).sl).sl, (Ty.int .i64).sl, Ty.int .i64] (.op .sub [.v 0, .v 3] (.op (.call 1036) [.v 4] (.op (.icmp .neq) [.v 8, .l (.int .i64 0)] (.ite (.v 9) (.ret [.v 1, .v 2, .v 3]) (.op (.mk ((Ty.int .i64).pair (Ty.int .u8).sl) 1) [.v 5, .v 6] (.op .app [.v 1, .v 10] (.op .len [.v 6] (.op (.call 1039) [.v 12] (.op (.ibin .add .i64) [.v 3, .v 13] (.op (.mk (Ty.int .i64) 1) [.v 14] (.op .app [.v 2, .v 15] (.op (.ibin .add .i64) [.v 3, .v 7] (.jump 0 [.v 11, .v 16, .v 17])))))))))))))
def sig1023 : Sig := { id := 1023, ins := [(true, (Ty.int .i64).pair (Ty.int .u8).sl)], outs := [(false, [((Ty.int .u8).sl, some 5)])] }
def ir1023 : IR := .op .len [.v 1] (.op (.conv .u64) [.v 2] (.op (.call 71) [.v 3] (.op (.conv .u8) [.v 0] (.op (.mk (Ty.int .u8) 1) [.v 5] (.op .app [.v 4, .v 6] (.op .app [.v 7, .v 1] (.op (.conv .u8) [.v 0] (.op (.mk (Ty.int .u8) 1) [.v 9] (.op .app [.v 10, .v 1] (.op (.call 74) [.v 11] (.loop [.v 8, .v 12, .l (.int .i64 0)] [(Ty.int .u8).sl, Ty.int .u32, Ty.int .i64] (.op (.icmp .lss) [.v 15, .l (.int .i64 4)] (.ite (.v 16) (.op (.ibin .rem .u32) [.v 14, .l (.int .u32 256)] (.op (.conv .u8) [.v 17] (.op (.mk (Ty.int .u8) 1) [.v 18] (.op .app [.v 13, .v 19] (.op (.ibin .quo .u32) [.v 14, .l (.int .u32 256)] (.op (.ibin .add .i64) [.v 15, .l (.int .i64 1)] (.jump 0 [.v 20, .v 21, .v 22]))))))) (.ret [.v 13]))))))))))))))
def sig1024 : Sig := { id := 1024, ins := [(false, ((Ty.int .i64).pair (Ty.int .u8).sl).sl)], outs := [(false, [((Ty.int .u8).sl, some 5)])] }
def ir1024 : IR := .op (.mk (Ty.int .u8) 0) [] (.loop [.v 1, .l (.int .i64 0)] [(Ty.int .u8).sl, Ty.int .i64] (.op .len [.v 0] (.op (.icmp .lss) [.v 3, .v 4] (.ite (.v 5) (.op .inb [.v 0, .v 3] (.op (.idx ((Ty.int .i64).pair (Ty.int .u8).sl)) [.v 0, .v 3] (.op (.call 1023) [.v 6, .v 7] (.op .app [.v 2, .v 8] (.op (.ibin .add .i64) [.v 3, .l (.int .i64 1)] (.jump 0 [.v 9, .v 10])))))) (.ret [.v 2])))))
def sig1038 : Sig := { id := 1038, ins := [(false, (Ty.int .u8).sl)], outs := [(true, [(Ty.int .i64, none), ((Ty.int .u8).sl, some 5)]), (false, [(Ty.int .i64, none)]), (false, [(Ty.int .i64, none)])] }
def ir1038 : IR := .loop [.l (.int .i64 0)] [Ty.int .i64] (.op .len [.v 0] (.op (.icmp .lss) [.v 1, .v 2] (.ite (.v 3) (.op (.icmp .lss) [.v 1, .l (.int .i64 3)] (.ite (.v 4) (.op .inb [.v 0, .v 1] (.op (.idx (Ty.int .u8)) [.v 0, .v 1] (.op (.icmp .gtr) [.v 5, .l (.int .u8 127)] (.ite (.v 6) (.op (.ibin .add .i64) [.v 1, .l (.int .i64 1)] (.jump 0 [.v 7])) (.op .len [.v 0] (.op (.icmp .eql) [.v 1, .v 7] (.ite (.v 8) (.op (.icmp .lss) [.v 1, .l (.int .i64 3)] (.ite (.v 9) (.ret [.l (.int .i64 0), .l (.nil (Ty.int .u8)), .l (.int .i64 0), .l (.int .i64 5)]) (.op (.call 92) [.v 0] (.op (.icmp .eql) [.v 11, .l (.int .i64 0)] (.ite (.v 12) (.ret [.l (.int .i64 0), .l (.nil (Ty.int .u8)), .l (.int .i64 0), .l (.int .i64 2)]) (.op (.icmp .gtr) [.v 10, .l (.int .u64 1048576)] (.ite (.v 13) (.ret [.l (.int .i64 0), .l (.nil (Ty.int .u8)), .l (.int .i64 0), .l (.int .i64 2)]) (.op .len [.v 0] (.op (.icmp .eql) [.v 11, .v 14] (.ite (.v 15) (.ret [.l (.int .i64 0), .l (.nil (Ty.int .u8)), .l (.int .i64 0), .l (.int .i64 5)]) (.op .inb [.v 0, .v 11] (.op (.idx (Ty.int .u8)) [.v 0, .v 11] (.op (.conv .i64) [.v 16] (.op (.icmp .lss) [.v 17, .l (.int .i64 1)] (.ite (.v 18) (.ret [.l (.int .i64 0), .l (.nil (Ty.int .u8)), .l (.int .i64 0), .l (.int .i64 2)]) (.op (.icmp .gtr) [.v 17, .l (.int .i64 250)] (.ite (.v 19) (.ret [.l (.int .i64 0), .l (.nil (Ty.int .u8)), .l (.int .i64 0), .l (.int .i64 2)]) (.op (.ibin .add .i64) [.v 11, .l (.int .i64 1)] (.op (.conv .i64) [.v 10] (.op (.ibin .add .i64) [.v 20, .v 21] (.op .len [.v 0] (.op (.ibin .add .i64) [.v 22, .l (.int .i64 4)] (.op (.icmp .lss) [.v 23, .v 24] (.ite (.v 25) (.ret [.l (.int .i64 0), .l (.nil (Ty.int .u8)), .l (.int .i64 0), .l (.int .i64 5)]) (.op (.mk (Ty.int .u8) 0) [] (.op (.ibin .add .i64) [.v 11, .l (.int .i64 1)] (.op .sub [.v 0, .v 27, .v 22] (.op .app [.v 26, .v 28] (.op (.call 1023) [.v 17, .v 29] (.op (.ibin .add .i64) [.v 22, .l (.int .i64 4)] (.op .sub [.v 0, .l (.int .i64 0), .v 31] (.op (.call 21) [.v 30, .v 32] (.op .not [.v 33] (.ite (.v 34) (.ret [.l (.int .i64 0), .l (.nil (Ty.int .u8)), .l (.int .i64 0), .l (.int .i64 2)]) (.op (.ibin .add .i64) [.v 22, .l (.int .i64 4)] (.ret [.v 17, .v 29, .v 35, .l (.int .i64 0)])))))))))))))))))))))))))))))))))))) (.op (.call 92) [.v 0] (.op (.icmp .eql) [.v 10, .l (.int .i64 0)] (.ite (.v 11) (.ret [.l (.int .i64 0), .l (.nil (Ty.int .u8)), .l (.int .i64 0), .l (.int .i64 2)]) (.op (.icmp .gtr) [.v 9, .l (.int .u64 1048576)] (.ite (.v 12) (.ret [.l (.int .i64 0), .l (.nil (Ty.int .u8)), .l (.int .i64 0), .l (.int .i64 2)]) (.op .len [.v 0] (.op (.icmp .eql) [.v 10, .v 13] (.ite (.v 14) (.ret [.l (.int .i64 0), .l (.nil (Ty.int .u8)), .l (.int .i64 0), .l (.int .i64 5)]) (.op .inb [.v 0, .v 10] (.op (.idx (Ty.int .u8)) [.v 0, .v 10] (.op (.conv .i64) [.v 15] (.op (.icmp .lss) [.v 16, .l (.int .i64 1)] (.ite (.v 17) (.ret [.l (.int .i64 0), .l (.nil (Ty.int .u8)), .l (.int .i64 0), .l (.int .i64 2)]) (.op (.icmp .gtr) [.v 16, .l (.int .i64 250)] (.ite (.v 18) (.ret [.l (.int .i64 0), .l (.nil (Ty.int .u8)), .l (.int .i64 0), .l (.int .i64 2)]) (.op (.ibin .add .i64) [.v 10, .l (.int .i64 1)] (.op (.conv .i64) [.v 9] (.op (.ibin .add .i64) [.v 19, .v 20] (.op .len [.v 0] (.op (.ibin .add .i64) [.v 21, .l (.int .i64 4)] (.op (.icmp .lss) [.v 22, .v 23] (.ite (.v 24) (.ret [.l (.int .i64 0), .l (.nil (Ty.int .u8)), .l (.int .i64 0), .l (.int .i64 5)]) (.op (.mk (Ty.int .u8) 0) [] (.op (.ibin .add .i64) [.v 10, .l (.int .i64 1)] (.op .sub [.v 0, .v 26, .v 21] (.op .app [.v 25, .v 27] (.op (.call 1023) [.v 16, .v 28] (.op (.ibin .add .i64) [.v 21, .l (.int .i64 4)] (.op .sub [.v 0, .l (.int .i64 0), .v 30] (.op (.call 21) [.v 29, .v 31] (.op .not [.v 32] (.ite (.v 33) (.ret [.l (.int .i64 0), .l (.nil (Ty.int .u8)), .l (.int .i64 0), .l (.int .i64 2)]) (.op (.ibin .add .i64) [.v 21, .l (.int .i64 4)] (.ret [.v 16, .v 28, .v 34, .l (.int .i64 0)]))))))))))))))))))))))))))))))))))))))))) (.op .len [.v 0] (.op (.icmp .eql) [.v 1, .v 5] (.ite (.v 6) (.op (.icmp .lss) [.v 1, .l (.int .i64 3)] (.ite (.v 7) (.ret [.l (.int .i64 0), .l (.nil (Ty.int .u8)), .l (.int .i64 0), .l (.int .i64 5)]) (.op (.call 92) [.v 0] (.op (.icmp .eql) [.v 9, .l (.int .i64 0)] (.ite (.v 10) (.ret [.l (.int .i64 0), .l (.nil (Ty.int .u8)), .l (.int .i64 0), .l (.int .i64 2)]) (.op (.icmp .gtr) [.v 8, .l (.int .u64 1048576)] (.ite (.v 11) (.ret [.l (.int .i64 0), .l (.nil (Ty.int .u8)), .l (.int .i64 0), .l (.int .i64 2)]) (.op .len [.v 0] (.op (.icmp .eql) [.v 9, .v 12] (.ite (.v 13) (.ret [.l (.int .i64 0), .l (.nil (Ty.int .u8)), .l (.int .i64 0), .l (.int .i64 5)]) (.op .inb [.v 0, .v 9] (.op (.idx (Ty.int .u8)) [.v 0, .v 9] (.op (.conv .i64) [.v 14] (.op (.icmp .lss) [.v 15, .l (.int .i64 1)] (.ite (.v 16) (.ret [.l (.int .i64 0), .l (.nil (Ty.int .u8)), .l (.int .i64 0), .l (.int .i64 2)]) (.op (.icmp .gtr) [.v 15, .l (.int .i64 250)] (.ite (.v 17) (.ret [.l (.int .i64 0), .l (.nil (Ty.int .u8)), .l (.int .i64 0), .l (.int .i64 2)]) (.op (.ibin .add .i64) [.v 9, .l (.int .i64 1)] (.op (.conv .i64) [.v 8] (.op (.ibin .add .i64) [.v 18, .v 19] (.op .len [.v 0] (.op (.ibin .add .i64) [.v 20, .l (.int .i64 4)] (.op (.icmp .lss) [.v 21, .v 22] (.ite (.v 23) (.ret [.l (.int .i64 0), .l (.nil (Ty.int .u8)), .l (.int .i64 0), .l (.int .i64 5)]) (.op (.mk (Ty.int .u8) 0) [] (.op (.ibin .add .i64) [.v 9, .l (.int .i64 1)] (.op .sub [.v 0, .v 25, .v 20] (.op .app [.v 24, .v 26] (.op (.call 1023) [.v 15, .v 27] (.op (.ibin .add .i64) [.v 20, .l (.int .i64 4)] (.op .sub [.v 0, .l (.int .i64 0), .v 29] (.op (.call 21) [.v 28, .v 30] (.op .not [.v 31] (.ite (.v 32) (.ret [.l (.int .i64 0), .l (.nil (Ty.int .u8)), .l (.int .i64 0), .l (.int .i64 2)]) (.op (.ibin .add .i64) [.v 20, .l (.int .i64 4)] (.ret [.v 15, .v 27, .v 33, .l (.int .i64 0)])))))))))))))))))))))))))))))))))))) (.op (.call 92) [.v 0] (.op (.icmp .eql) [.v 8, .l (.int .i64 0)] (.ite (.v 9) (.ret [.l (.int .i64 0), .l (.nil (Ty.int .u8)), .l (.int .i64 0), .l (.int .i64 2)]) (.op (.icmp .gtr) [.v 7, .l (.int .u64 1048576)] (.ite (.v 10) (.ret [.l (.int .i64 0), .l (.nil (Ty.int .u8)), .l (.int .i64 0), .l (.int .i64 2)]) (.op .len [.v 0] (.op (.icmp .eql) [.v 8, .v 11] (.ite (.v 12) (.ret [.l (.int .i64 0), .l (.nil (Ty.int .u8)), .l (.int .i64 0), .l (.int .i64 5)]) (.op .inb [.v 0, .v 8] (.op (.idx (Ty.int .u8)) [.v 0, .v 8] (.op (.conv .i64) [.v 13] (.op (.icmp .lss) [.v 14, .l (.int .i64 1)] (.ite (.v 15) (.ret [.l (.int .i64 0), .l (.nil (Ty.int .u8)), .l (.int .i64 0), .l (.int .i64 2)]) (.op (.icmp .gtr) [.v 14, .l (.int .i64 250)] (.ite (.v 16) (.ret [.l (.int .i64 0), .l (.nil (Ty.int .u8)), .l (.int .i64 0), .l (.int .i64 2)]) (.op (.ibin .add .i64) [.v 8, .l (.int .i64 1)] (.op (.conv .i64) [.v 7] (.op (.ibin .add .i64) [.v 17, .v 18] (.op .len [.v 0] (.op (.ibin .add .i64) [.v 19, .l (.int .i64 4)] (.op (.icmp .lss) [.v 20, .v 21] (.ite (.v 22) (.ret [.l (.int .i64 0), .l (.nil (Ty.int .u8)), .l (.int .i64 0), .l (.int .i64 5)]) (.op (.mk (Ty.int .u8) 0) [] (.op (.ibin .add .i64) [.v 8, .l (.int .i64 1)] (.op .sub [.v 0, .v 24, .v 19] (.op .app [.v 23, .v 25] (.op (.call 1023) [.v 14, .v 26] (.op (.ibin .add .i64) [.v 19, .l (.int .i64 4)] (.op .sub [.v 0, .l (.int .i64 0), .v 28] (.op (.call 21) [.v 27, .v 29] (.op .not [.v 30] (.ite (.v 31) (.ret [.l (.int .i64 0), .l (.nil (Ty.int .u8)), .l (.int .i64 0), .l (.int .i64 2)]) (.op (.ibin .add .i64) [.v 19, .l (.int .i64 4)] (.ret [.v 14, .v 26, .v 32, .l (.int .i64 0)]))))))))))))))))))))))))))))))))))))))) (.op .len [.v 0] (.op (.icmp .eql) [.v 1, .v 4] (.ite (.v 5) (.op (.icmp .lss) [.v 1, .l (.int .i64 3)] (.ite (.v 6) (.ret [.l (.int .i64 0), .l (.nil (Ty.int .u8)), .l (.int .i64 0), .l (.int .i64 5)]) (.op (.call 92) [.v 0] (.op (.icmp .eql) [.v 8, .l (.int .i64 0)] (.ite (.v 9) (.ret [.l (.int .i64 0), .l (.nil (Ty.int .u8)), .l (.int .i64 0), .l (.int .i64 2)]) (.op (.icmp .gtr) [.v 7, .l (.int .u64 1048576)] (.ite (.v 10) (.ret [.l (.int .i64 0), .l (.nil (Ty.int .u8)), .l (.int .i64 0), .l (.int .i64 2)]) (.op .len [.v 0] (.op (.icmp .eql) [.v 8, .v 11] (.ite (.v 12) (.ret [.l (.int .i64 0), .l (.nil (Ty.int .u8)), .l (.int .i64 0), .l (.int .i64 5)]) (.op .inb [.v 0, .v 8] (.op (.idx (Ty.int .u8)) [.v 0, .v 8] (.op (.conv .i64) [.v 13] (.op (.icmp .lss) [.v 14, .l (.int .i64 1)] (.ite (.v 15) (.ret [.l (.int .i64 0), .l (.nil (Ty.int .u8)), .l (.int .i64 0), .l (.int .i64 2)]) (.op (.icmp .gtr) [.v 14, .l (.int .i64 250)] (.ite (.v 16) (.ret [.l (.int .i64 0), .l (.nil (Ty.int .u8)), .l (.int .i64 0), .l (.int .i64 2)]) (.op (.ibin .add .i64) [.v 8, .l (.int .i64 1)] (.op (.conv .i64) [.v 7] (.op (.ibin .add .i64) [.v 17, .v 18] (.op .len [.v 0] (.op (.ibin .add .i64) [.v 19, .l (.int .i64 4)] (.op (.icmp .lss) [.v 20, .v 21] (.ite (.v 22) (.ret [.l (.int .i64 0), .l (.nil (Ty.int .u8)), .l (.int .i64 0), .l (.int .i64 5)]) (.op (.mk (Ty.int .u8) 0) [] (.op (.ibin .add .i64) [.v 8, .l (.int .i64 1)] (.op .sub [.v 0, .v 24, .v 19] (.op .app [.v 23, .v 25] (.op (.call 1023) [.v 14, .v 26] (.op (.ibin .add .i64) [.v 19, .l (.int .i64 4)] (.op .sub [.v 0, .l (.int .i64 0), .v 28] (.op (.call 21) [.v 27, .v 29] (.op .not [.v 30] (.ite (.v 31) (.ret [.l (.int .i64 0), .l (.nil (Ty.int .u8)), .l (.int .i64 0), .l (.int .i64 2)]) (.op (.ibin .add .i64) [.v 19, .l (.int .i64 4)] (.ret [.v 14, .v 26, .v 32, .l (.int .i64 0)])))))))))))))))))))))))))))))))))))) (.op (.call 92) [.v 0] (.op (.icmp .eql) [.v 7, .l (.int .i64 0)] (.ite (.v 8) (.ret [.l (.int .i64 0), .l (.nil (Ty.int .u8)), .l (.int .i64 0), .l (.int .i64 2)]) (.op (.icmp .gtr) [.v 6, .l (.int .u64 1048576)] (.ite (.v 9) (.ret [.l (.int .i64 0), .l (.nil (Ty.int .u8)), .l (.int .i64 0), .l (.int .i64 2)]) (.op .len [.v 0] (.op (.icmp .eql) [.v 7, .v 10] (.ite (.v 11) (.ret [.l (.int .i64 0), .l (.nil (Ty.int .u8)), .l (.int .i64 0), .l (.int .i64 5)]) (.op .inb [.v 0, .v 7] (.op (.idx (Ty.int .u8)) [.v 0, .v 7] (.op (.conv .i64) [.v 12] (.op (.icmp .lss) [.v 13, .l (.int .i64 1)] (.ite (.v 14) (.ret [.l (.int .i64 0), .l (.nil (Ty.int .u8)), .l (.int .i64 0), .l (.int .i64 2)]) (.op (.icmp .gtr) [.v 13, .l (.int .i64 250)] (.ite (.v 15) (.ret [.l (.int .i64 0), .l (.nil (Ty.int .u8)), .l (.int .i64 0), .l (.int .i64 2)]) (.op (.ibin .add .i64) [.v 7, .l (.int .i64 1)] (.op (.conv .i64) [.v 6] (.op (.ibin .add .i64) [.v 16, .v 17] (.op .len [.v 0] (.op (.ibin .add .i64) [.v 18, .l (.int .i64 4)] (.op (.icmp .lss) [.v 19, .v 20] (.ite (.v 21) (.ret [.l (.int .i64 0), .l (.nil (Ty.int .u8)), .l (.int .i64 0), .l (.int .i64 5)]) (.op (.mk (Ty.int .u8) 0) [] (.op (.ibin .add .i64) [.v 7, .l (.int .i64 1)] (.op .sub [.v 0, .v 23, .v 18] (.op .app [.v 22, .v 24] (.op (.call 1023) [.v 13, .v 25] (.op (.ibin .add .i64) [.v 18, .l (.int .i64 4)] (.op .sub [.v 0, .l (.int .i64 0), .v 27] (.op (.call 21) [.v 26, .v 28] (.op .not [.v 29] (.ite (.v 30) (.ret [.l (.int .i64 0), .l (.nil (Ty.int .u8)), .l (.int .i64 0), .l (.int .i64 2)]) (.op (.ibin .add .i64) [.v 18, .l (.int .i64 4)] (.ret [.v 13, .v 25, .v 31, .l (.int .i64 0)]))))))))))))))))))))))))))))))))))))))))
def sig1019 : Sig := { id := 1019, ins := [(false, (Ty.int .u8).sl)], outs := [(false, [(((Ty.int .i64).pair (Ty.int .u8).sl).sl, some 79)]), (false, [((Ty.int .i64).sl, some 3)]), (false, [(Ty.int .i64, none)])] }
def ir1019 : IR := .op (.mk ((Ty.int .i64).pair (Ty.int .u8).sl) 0) [] (.op (.mk (Ty.int .i64) 0) [] (.loop [.v 1, .v 2, .l (.int .i64 0)] [((Ty.int .i64).pair (Ty.int .u8).sl).sl, (Ty.int .i64).sl, Ty.int .i64] (.op .len [.v 0] (.op (.icmp .leq) [.v 5, .v 6] (.ite (.v 7) (.op .sub [.v 0, .v 5] (.op (.call 1038) [.v 8] (.op (.icmp .neq) [.v 12, .l (.int .i64 0)] (.ite (.v 13) (.ret [.v 3, .v 4, .v 5]) (.op (.mk ((Ty.int .i64).pair (Ty.int .u8).sl) 1) [.v 9, .v 10] (.op .app [.v 3, .v 14] (.op (.ibin .add .i64) [.v 5, .v 11] (.op (.ibin .sub .i64) [.v 16, .l (.int .i64 4)] (.op .len [.v 10] (.op (.ibin .sub .i64) [.v 17, .v 18] (.op (.mk (Ty.int .i64) 1) [.v 19] (.op .app [.v 4, .v 20] (.op (.ibin .add .i64) [.v 5, .v 11] (.jump 0 [.v 15, .v 21, .v 22])))))))))))))) (.ret [.v 3, .v 4, .v 5]))))))
noncomputable def F157 : List D → Option (List D) := Fof [] ir157
noncomputable def c157 : Ct := ⟨sig157, F157⟩
noncomputable def F1057 : List D → Option (List D) := Fof [c157] ir1057
noncomputable def c1057 : Ct := ⟨sig1057, F1057⟩
noncomputable def F1039 : List D → Option (List D) := Fof [c1057] ir1039
noncomputable def c1039 : Ct := ⟨sig1039, F1039⟩
noncomputable def F1054 : List D → Option (List D) := Fof [c1039] ir1054
noncomputable def c1054 : Ct := ⟨sig1054, F1054⟩
noncomputable def F1050 : List D → Option (List D) := Fof [] ir1050
noncomputable def c1050 : Ct := ⟨sig1050, F1050⟩
noncomputable def F1052 : List D → Option (List D) := Fof [c73, c122] ir1052
noncomputable def c1052 : Ct := ⟨sig1052, F1052⟩
noncomputable def F1053 : List D → Option (List D) := Fof [] ir1053
noncomputable def c1053 : Ct := ⟨sig1053, F1053⟩
noncomputable def F1055 : List D → Option (List D) := Fof [] ir1055
noncomputable def c1055 : Ct := ⟨sig1055, F1055⟩
noncomputable def F1056 : List D → Option (List D) := Fof [] ir1056
noncomputable def c1056 : Ct := ⟨sig1056, F1056⟩
noncomputable def F1035 : List D → Option (List D) := Fof [c1050, c66, c1052] ir1035
noncomputable def c1035 : Ct := ⟨sig1035, F1035⟩
noncomputable def F1036 : List D → Option (List D) := Fof [c1053, c90, c1054, c1055, c1052, c1056] ir1036
noncomputable def c1036 : Ct := ⟨sig1036, F1036⟩
noncomputable def F1027 : List D → Option (List D) := Fof [c1036, c1039] ir1027
noncomputable def c1027 : Ct := ⟨sig1027, F1027⟩
noncomputable def F1023 : List D → Option (List D) := Fof [c71, c74] ir1023
noncomputable def c1023 : Ct := ⟨sig1023, F1023⟩
noncomputable def F1024 : List D → Option (List D) := Fof [c1023] ir1024
noncomputable def c1024 : Ct := ⟨sig1024, F1024⟩
noncomputable def F1038 : List D → Option (List D) := Fof [c92, c1023, c21] ir1038
noncomputable def c1038 : Ct := ⟨sig1038, F1038⟩
noncomputable def F1019 : List D → Option (List D) := Fof [c1038] ir1019
noncomputable def c1019 : Ct := ⟨sig1019, F1019⟩
end Go.Proofs.YtolcekkcenedjaaGreat.Sx

set_option maxHeartbeats 1000000
namespace Go.Proofs.YtolcekkcenedjaaGreat.Sx

def tab8 (x : Int) : Int := len8[x.toNat]?.getD 0
theorem len8_len : len8.length = 256 := by decide +kernel
theorem tab8_1 : ∀ n : Nat, n < 128 → 0 ≤ tab8 n ∧ tab8 n ≤ 7 := by decide +kernel
theorem tab8_2 : ∀ n : Nat, n < 256 → 128 ≤ n → tab8 n = 8 := by decide +kernel
theorem tab8_3 : ∀ n : Nat, n < 64 → 1 ≤ n → 1 ≤ tab8 n ∧ tab8 n ≤ 6 := by decide +kernel
theorem tab8_4 : ∀ n : Nat, n < 256 → 64 ≤ n → 7 ≤ tab8 n ∧ tab8 n ≤ 8 := by decide +kernel
theorem tab8_5 : ∀ n : Nat, n < 32 → 1 ≤ n → 1 ≤ tab8 n ∧ tab8 n ≤ 5 := by decide +kernel
def len64 (u : Int) : Int := if 65536 ≤ u then 16 + tab8 (u / 65536) else if 256 ≤ u then 8 + tab8 (u / 256) else tab8 u

theorem fdiv16u (x : Int) : x.fdiv (2 ^ Nat.min 16 IntKind.u64.bits) = x / 65536 := fdiv_pos x 65536 (by omega)
theorem fdiv8u (x : Int) : x.fdiv (2 ^ Nat.min 8 IntKind.u64.bits) = x / 256 := fdiv_pos x 256 (by omega)

theorem tab8_g (x : Int) (h : x.toNat < len8.length) : len8[x.toNat]'h = tab8 x := by
  unfold tab8; rw [List.getElem?_eq_getElem h]; rfl
theorem tab8_le : ∀ n : Nat, n < 256 → 0 ≤ tab8 n ∧ tab8 n ≤ 8 := by decide +kernel
theorem tab8_r (x : Int) (h0 : 0 ≤ x) (h1 : x < 256) : 0 ≤ tab8 x ∧ tab8 x ≤ 8 := by
  obtain ⟨n, rfl⟩ := Int.eq_ofNat_of_zero_le h0
  exact tab8_le n (by omega)

theorem f157 (u : Int) (h0 : 0 ≤ u) (h1 : u < 2097152) : F157 [⟨.int .u64, u⟩] = some [⟨.int .i64, len64 u⟩] := by
  simp only [F157, Fof, ir157]
  have hl := len8_len
  unfold len64
  have c0 : ¬ 4294967296 ≤ u := by omega
  by_cases c1 : 65536 ≤ u
  · have e1 : u.fdiv (2 ^ Nat.min 16 IntKind.u64.bits) = u / 65536 := fdiv16u u
    have c2 : ¬ 256 ≤ u / 65536 := by omega
    have w : IntKind.u8.wrap (u / 65536) = u / 65536 := by rw [wu8]; omega
    have b : 0 ≤ u / 65536 ∧ u / 65536 < 256 := by omega
    have r := tab8_r (u / 65536) b.1 b.2
    have w2 : IntKind.i64.wrap (tab8 (u / 65536)) = tab8 (u / 65536) := wi64 _ (by omega) (by omega)
    have w3 : IntKind.i64.wrap (16 + tab8 (u / 65536)) = 16 + tab8 (u / 65536) := wi64 _ (by omega) (by omega)
    simp -implicitDefEqProofs [c0, c1, e1, c2, w, b, hl, tab8_g, w2, w3]
  · by_cases c2 : 256 ≤ u
    · have e1 : u.fdiv (2 ^ Nat.min 8 IntKind.u64.bits) = u / 256 := fdiv8u u
      have w : IntKind.u8.wrap (u / 256) = u / 256 := by rw [wu8]; omega
      have b : 0 ≤ u / 256 ∧ u / 256 < 256 := by omega
      have r := tab8_r (u / 256) b.1 b.2
      have w2 : IntKind.i64.wrap (tab8 (u / 256)) = tab8 (u / 256) := wi64 _ (by omega) (by omega)
      have w3 : IntKind.i64.wrap (8 + tab8 (u / 256)) = 8 + tab8 (u / 256) := wi64 _ (by omega) (by omega)
      simp -implicitDefEqProofs [c0, c1, e1, c2, w, b, hl, tab8_g, w2, w3]
    · have w : IntKind.u8.wrap u = u := by rw [wu8]; omega
      have b : 0 ≤ u ∧ u < 256 := by omega
      have r := tab8_r u b.1 b.2
      have w2 : IntKind.i64.wrap (tab8 u) = tab8 u := wi64 _ (by omega) (by omega)
      have w3 : IntKind.i64.wrap (0 + tab8 u) = tab8 u := by rw [Int.zero_add]; exact w2
      simp -implicitDefEqProofs [c0, c1, c2, w, b, hl, tab8_g, w2, w3]
theorem s157 {lc : List Ct} (hl0 : look (lc.map fun c => (c.sig.id, c)) 157 = some c157) : ∀ (u : Int) (h0 : 0 ≤ u) (h1 : u < 2097152), Does1 (Phi lc) 157 [⟨.int .u64, u⟩] [⟨.int .i64, len64 u⟩] :=
  fun u h0 h1 => by
    have eFc : c157.F = F157 := rfl
    have eFh := f157 u h0 h1
    rw [← eFc] at eFh
    exact Does1.of hl0 eFh rfl
theorem len64_one (u : Int) (h0 : 0 ≤ u) (h1 : u < 2097152) : (if (len64 u + 6) / 7 < 1 then 1 else (len64 u + 6) / 7) = ((one u.toNat).length : Int) ∧ 0 ≤ len64 u ∧ len64 u ≤ 24 := by
  obtain ⟨n, rfl⟩ := Int.eq_ofNat_of_zero_le h0
  rw [Int.toNat_natCast]
  by_cases c : n < 128
  · have := tab8_1 n c
    have e : len64 n = tab8 n := by unfold len64; rw [if_neg (by omega), if_neg (by omega)]
    rw [one_small c, e]
    simp only [List.length_cons, List.length_nil]
    refine ⟨?_, by omega, by omega⟩
    split <;> omega
  · by_cases c2 : n < 16384
    · have e : (one n).length = 2 := by rw [one_big c, one_small (by omega)]; rfl
      rw [e]
      by_cases c3 : 256 ≤ (n : Int)
      · have := tab8_3 (n / 256) (by omega) (by omega)
        have e : len64 n = 8 + tab8 ((n / 256 : Nat) : Int) := by unfold len64; rw [if_neg (by omega), if_pos c3, show ((n : Int) / 256) = ((n / 256 : Nat) : Int) by omega]
        rw [e]
        refine ⟨?_, by omega, by omega⟩
        split <;> omega
      · have := tab8_2 n (by omega) (by omega)
        have e : len64 n = tab8 n := by unfold len64; rw [if_neg (by omega), if_neg (by omega)]
        rw [e]
        refine ⟨?_, by omega, by omega⟩
        split <;> omega
    · have e : (one n).length = 3 := by rw [one_big c, one_big (by omega), one_small (by omega)]; rfl
      rw [e]
      by_cases c4 : 65536 ≤ (n : Int)
      · have := tab8_5 (n / 65536) (by omega) (by omega)
        have e : len64 n = 16 + tab8 ((n / 65536 : Nat) : Int) := by unfold len64; rw [if_pos c4, show ((n : Int) / 65536) = ((n / 65536 : Nat) : Int) by omega]
        rw [e]
        refine ⟨?_, by omega, by omega⟩
        split <;> omega
      · have := tab8_4 (n / 256) (by omega) (by omega)
        have e : len64 n = 8 + tab8 ((n / 256 : Nat) : Int) := by unfold len64; rw [if_neg c4, if_pos (by omega), show ((n : Int) / 256) = ((n / 256 : Nat) : Int) by omega]
        rw [e]
        refine ⟨?_, by omega, by omega⟩
        split <;> omega

theorem f1057 (u : Int) (h0 : 0 ≤ u) (h1 : u < 2097152) : F1057 [⟨.int .u64, u⟩] = some [⟨.int .i64, (one u.toNat).length⟩] := by
  have h157 := s157 (lc := [c157]) rfl
  simp only [F1057, Fof, ir1057]
  generalize Phi [c157] = Φ at *
  have k := h157 u h0 h1
  obtain ⟨e1, e2, e3⟩ := len64_one u h0 h1
  generalize len64 u = z at *
  have w1 : IntKind.i64.wrap (z + 7) = z + 7 := wi64 _ (by omega) (by omega)
  have w2 : IntKind.i64.wrap (z + 7 - 1) = z + 6 := by rw [wi64 _ (by omega) (by omega)]; omega
  have w3 : IntKind.i64.wrap ((z + 6).tdiv 7) = (z + 6) / 7 := by rw [td _ 7 (by omega)]; exact wi64 _ (by omega) (by omega)
  rw [← e1]
  simp -implicitDefEqProofs [k, w1, w2, w3]
  have e0 : ∀ x : Int, (if 1 < x then x else 1) = if x < 1 then 1 else x := by
    intro x
    repeat' split
    all_goals omega
  exact e0 _
theorem s1057 {lc : List Ct} (hl0 : look (lc.map fun c => (c.sig.id, c)) 1057 = some c1057) : ∀ (u : Int) (h0 : 0 ≤ u) (h1 : u < 2097152), Does1 (Phi lc) 1057 [⟨.int .u64, u⟩] [⟨.int .i64, (one u.toNat).length⟩] :=
  fun u h0 h1 => by
    have eFc : c1057.F = F1057 := rfl
    have eFh := f1057 u h0 h1
    rw [← eFc] at eFh
    exact Does1.of hl0 eFh rfl
def headI (n : Int) : Int := if n < 0 ∨ 1048576 < n then 0 else (headN n.toNat : Int)
def sizeI (n : Int) : Int := if n < 0 ∨ 1048576 < n then 0 else (headN n.toNat : Int) + n + 4
theorem headN_r {n : Nat} (h : n ≤ 1048576) : 2 ≤ headN n ∧ headN n ≤ 6 := by
  have h1 := one_pos n
  have h2 := one_len5 (n := n) (by omega)
  unfold headN; omega
theorem f1039 (n : Int) : F1039 [⟨.int .i64, n⟩] = some [⟨.int .i64, headI n⟩] := by
  have h1057 := s1057 (lc := [c1057]) rfl
  simp only [F1039, Fof, ir1039]
  generalize Phi [c1057] = Φ at *
  unfold headI
  by_cases c1 : n < 0
  · simp -implicitDefEqProofs [c1]
  by_cases c2 : 1048576 < n
  · simp -implicitDefEqProofs [c1, c2]
  have k := h1057 n (by omega) (by omega)
  have hr := headN_r (n := n.toNat) (by omega)
  have w1 : IntKind.u64.wrap n = n := wu64 _ (by omega) (by omega)
  have w2 : IntKind.i64.wrap (((one n.toNat).length : Int) + 1) = ((one n.toNat).length : Int) + 1 := wi64 _ (by unfold headN at hr; omega) (by unfold headN at hr; omega)
  simp -implicitDefEqProofs [c1, c2, k, w1, w2, headN]
theorem s1039 {lc : List Ct} (hl0 : look (lc.map fun c => (c.sig.id, c)) 1039 = some c1039) : ∀ (n : Int), Does1 (Phi lc) 1039 [⟨.int .i64, n⟩] [⟨.int .i64, headI n⟩] :=
  fun n => by
    have eFc : c1039.F = F1039 := rfl
    have eFh := f1039 n
    rw [← eFc] at eFh
    exact Does1.of hl0 eFh rfl
theorem f1054 (n : Int) : F1054 [⟨.int .i64, n⟩] = some [⟨.int .i64, sizeI n⟩] := by
  have h1039 := s1039 (lc := [c1039]) rfl
  simp only [F1054, Fof, ir1054]
  generalize Phi [c1039] = Φ at *
  have k := h1039 n
  unfold headI at k
  unfold sizeI
  by_cases c : n < 0 ∨ 1048576 < n
  · rw [if_pos c] at k
    simp -implicitDefEqProofs [k, c]
  rw [if_neg c] at k
  have hr := headN_r (n := n.toNat) (by omega)
  have w1 : IntKind.i64.wrap ((headN n.toNat : Int) + n) = (headN n.toNat : Int) + n := wi64 _ (by omega) (by omega)
  have w2 : IntKind.i64.wrap ((headN n.toNat : Int) + n + 4) = (headN n.toNat : Int) + n + 4 := wi64 _ (by omega) (by omega)
  have hz : ¬ ((headN n.toNat : Int) = 0) := by omega
  have hz' : ¬ (headN n.toNat = 0) := by omega
  simp -implicitDefEqProofs [k, w1, w2, c, hz, hz']
theorem s1054 {lc : List Ct} (hl0 : look (lc.map fun c => (c.sig.id, c)) 1054 = some c1054) : ∀ (n : Int), Does1 (Phi lc) 1054 [⟨.int .i64, n⟩] [⟨.int .i64, sizeI n⟩] :=
  fun n => by
    have eFc : c1054.F = F1054 := rfl
    have eFh := f1054 n
    rw [← eFc] at eFh
    exact Does1.of hl0 eFh rfl
theorem f1050 (k : Int) (x : List Int) : F1050 [⟨.int .i64, k⟩, ⟨.sl (.int .u8), x⟩] = some [⟨.bool, okF (k, x)⟩] := by
  simp only [F1050, Fof, ir1050]
  unfold okF
  by_cases c1 : 1 ≤ k <;> by_cases c2 : k ≤ 250 <;> by_cases c3 : (x.length : Int) ≤ 1048576 <;> simp -implicitDefEqProofs [c1, c2, c3] <;> omega
theorem s1050 {lc : List Ct} (hl0 : look (lc.map fun c => (c.sig.id, c)) 1050 = some c1050) : ∀ (k : Int) (x : List Int), Does1 (Phi lc) 1050 [⟨.int .i64, k⟩, ⟨.sl (.int .u8), x⟩] [⟨.bool, okF (k, x)⟩] :=
  fun k x => by
    have eFc : c1050.F = F1050 := rfl
    have eFh := f1050 k x
    rw [← eFc] at eFh
    exact Does1.of hl0 eFh rfl
theorem f1052 (k : Int) (x : List Int) (h0 : 0 ≤ k) (h1 : k < 256) (hb : ∀ c ∈ x, 0 ≤ c ∧ c < 256) (hl : x.length < 100000000000) : F1052 [⟨.int .u8, k⟩, ⟨.sl (.int .u8), x⟩] = some [⟨.int .u32, crcOf (k :: x)⟩] := by
  have h73 := s73 (lc := [c73, c122]) rfl
  have h122 := s122 (lc := [c73, c122]) rfl
  simp only [F1052, Fof, ir1052]
  generalize Phi [c73, c122] = Φ at *
  have k1 := h73 [k] (by intro c hc; simp only [List.mem_singleton] at hc; omega) (by simp)
  have hr := crcOf_lt [k]
  have k2 := h122 (crcOf [k]) x hr.1 hr.2 hb (by omega)
  rw [crc_more] at k2
  have hmk : mkD (.int .u8) 1 [⟨.int .u8, k⟩] = some ⟨.sl (.int .u8), [k]⟩ := rfl
  simp -implicitDefEqProofs [k1, k2, hmk]
theorem s1052 {lc : List Ct} (hl0 : look (lc.map fun c => (c.sig.id, c)) 1052 = some c1052) : ∀ (k : Int) (x : List Int) (h0 : 0 ≤ k) (h1 : k < 256) (hb : ∀ c ∈ x, 0 ≤ c ∧ c < 256) (hl : x.length < 100000000000), Does1 (Phi lc) 1052 [⟨.int .u8, k⟩, ⟨.sl (.int .u8), x⟩] [⟨.int .u32, crcOf (k :: x)⟩] :=
  fun k x h0 h1 hb hl => by
    have eFc : c1052.F = F1052 := rfl
    have eFh := f1052 k x h0 h1 hb hl
    rw [← eFc] at eFh
    exact Does1.of hl0 eFh rfl
theorem f1053 (x : List Int) (hl : x.length < 100000000000) : F1053 [⟨.sl (.int .u8), x⟩] = some [⟨.bool, gapF x⟩] := by
  simp only [F1053, Fof, ir1053]
  unfold gapF
  by_cases c : (x.length : Int) < 3
  rotate_left
  · have c' : ¬ x.length < 3 := by omega
    simp -implicitDefEqProofs [c, c']
  have c' : x.length < 3 := by omega
  simp -implicitDefEqProofs [c, c']
  refine (iter_meas (fun s : Int => (x.length - s).toNat) (fun s => ([⟨.bool, (x.drop s.toNat).all (fun c => decide (128 ≤ c))⟩] : List D)) (fun s => 0 ≤ s ∧ s ≤ x.length) (by exact ⟨by omega, by omega⟩) ?_).trans (by simp)
  rintro i ⟨h1, h2⟩
  by_cases hi : i < x.length
  · rw [dropI h1 hi]
    have g1 := getG (l := x) (d := dflt (Ty.int IntKind.u8)) h1 (by omega)
    have b1 : 0 ≤ i ∧ i < (x.length : Int) := ⟨h1, hi⟩
    have wi : IntKind.i64.wrap (i + 1) = i + 1 := wi64 _ (by omega) (by omega)
    generalize hcx : x[i.toNat]'(by omega) = y at *
    by_cases hy : y < 128
    · have hy' : ¬ 128 ≤ y := by omega
      refine .inr ?_
      simp -implicitDefEqProofs [hi, b1, g1, hcx, hy, hy', c, h1]
    · have hy' : 128 ≤ y := by omega
      refine .inl ⟨i + 1, ?_, ⟨by omega, by omega⟩, by omega, by simp -implicitDefEqProofs [hy']⟩
      simp -implicitDefEqProofs [hi, b1, g1, hcx, hy, wi]
  · rw [List.drop_eq_nil_of_le (by omega)]
    refine .inr ?_
    simp -implicitDefEqProofs [hi]
theorem s1053 {lc : List Ct} (hl0 : look (lc.map fun c => (c.sig.id, c)) 1053 = some c1053) : ∀ (x : List Int) (hl : x.length < 100000000000), Does1 (Phi lc) 1053 [⟨.sl (.int .u8), x⟩] [⟨.bool, gapF x⟩] :=
  fun x hl => by
    have eFc : c1053.F = F1053 := rfl
    have eFh := f1053 x hl
    rw [← eFc] at eFh
    exact Does1.of hl0 eFh rfl
theorem f1055 (a b c d : Int) (l : List Int) (ha : 0 ≤ a ∧ a < 256) (hb : 0 ≤ b ∧ b < 256) (hc : 0 ≤ c ∧ c < 256) (hd : 0 ≤ d ∧ d < 256) : F1055 [⟨.sl (.int .u8), a :: b :: c :: d :: l⟩] = some [⟨.int .u32, a + b * 256 + c * 65536 + d * 16777216⟩] := by
  simp only [F1055, Fof, ir1055]
  have e : bOr .u32 (bOr .u32 (bOr .u32 (IntKind.u32.wrap a) (IntKind.u32.wrap (IntKind.u32.wrap b * 2 ^ Nat.min 8 IntKind.u32.bits))) (IntKind.u32.wrap (IntKind.u32.wrap c * 2 ^ Nat.min 16 IntKind.u32.bits)))
      (IntKind.u32.wrap (IntKind.u32.wrap d * 2 ^ Nat.min 24 IntKind.u32.bits)) = a + b * 256 + c * 65536 + d * 16777216 := by
    rw [wu32 a (by omega) (by omega), wu32 b (by omega) (by omega), wu32 c (by omega) (by omega), wu32 d (by omega) (by omega)]
    rw [show Nat.min 8 IntKind.u32.bits = 8 from rfl, show Nat.min 16 IntKind.u32.bits = 16 from rfl, show Nat.min 24 IntKind.u32.bits = 24 from rfl]
    rw [or_pow32 a b 8 (by omega) (by omega) (by omega) (by omega), or_pow32 _ c 16 (by omega) (by omega) (by omega) (by omega), or_pow32 _ d 24 (by omega) (by omega) (by omega) (by omega)]
    rfl
  simp -implicitDefEqProofs
  exact ⟨by omega, by omega, by omega, by omega, e⟩
theorem s1055 {lc : List Ct} (hl0 : look (lc.map fun c => (c.sig.id, c)) 1055 = some c1055) : ∀ (a b c d : Int) (l : List Int) (ha : 0 ≤ a ∧ a < 256) (hb : 0 ≤ b ∧ b < 256) (hc : 0 ≤ c ∧ c < 256) (hd : 0 ≤ d ∧ d < 256), Does1 (Phi lc) 1055 [⟨.sl (.int .u8), a :: b :: c :: d :: l⟩] [⟨.int .u32, a + b * 256 + c * 65536 + d * 16777216⟩] :=
  fun a b c d l ha hb hc hd => by
    have eFc : c1055.F = F1055 := rfl
    have eFh := f1055 a b c d l ha hb hc hd
    rw [← eFc] at eFh
    exact Does1.of hl0 eFh rfl
theorem f1056 (x : List Int) (hl : x.length < 100000000000) : F1056 [⟨.sl (.int .u8), x⟩] = some [⟨.sl (.int .u8), x⟩] := by
  simp only [F1056, Fof, ir1056]
  have hb : x.length ≤ BIG := by simp only [BIG]; omega
  by_cases hx : x = []
  · subst hx; simp -implicitDefEqProofs [eqO, BIG]
  · simp -implicitDefEqProofs [hb, hx]
theorem s1056 {lc : List Ct} (hl0 : look (lc.map fun c => (c.sig.id, c)) 1056 = some c1056) : ∀ (x : List Int) (hl : x.length < 100000000000), Does1 (Phi lc) 1056 [⟨.sl (.int .u8), x⟩] [⟨.sl (.int .u8), x⟩] :=
  fun x hl => by
    have eFc : c1056.F = F1056 := rfl
    have eFh := f1056 x hl
    rw [← eFc] at eFh
    exact Does1.of hl0 eFh rfl
end Go.Proofs.YtolcekkcenedjaaGreat.Sx

set_option maxHeartbeats 2000000
namespace Go.Proofs.YtolcekkcenedjaaGreat.Sx

theorem sum4_w (s : Int) : [IntKind.u8.wrap s, IntKind.u8.wrap (s.fdiv (2 ^ Nat.min 8 IntKind.u32.bits)), IntKind.u8.wrap (s.fdiv (2 ^ Nat.min 16 IntKind.u32.bits)), IntKind.u8.wrap (s.fdiv (2 ^ Nat.min 24 IntKind.u32.bits))] = sum4 s := by
  simp only [wu8, fdiv8, fdiv16, fdiv24, sum4]
theorem putL_1 (u : Int) : putL [u] = one u.toNat := by simp [putL]

def resFr (o : Bool) (l : List Fr) (acc : List Int) : List D := if o = true then [⟨.sl (.int .u8), acc ++ putFs l⟩, ⟨.int .i64, 0⟩] else [⟨.sl (.int .u8), []⟩, ⟨.int .i64, 1⟩]
theorem f1035 (l : List Fr) (hl : l.length ≤ 20000) (hn : ∀ f ∈ l, f.2.length < 100000000000) (hb : ∀ f ∈ l, ∀ c ∈ f.2, 0 ≤ c ∧ c < 256) : F1035 [⟨.sl FrT, l⟩] = some (resFr (l.all okF) l []) := by
  have h1050 := s1050 (lc := [c1050, c66, c1052]) rfl
  have h66 := s66 (lc := [c1050, c66, c1052]) rfl
  have h1052 := s1052 (lc := [c1050, c66, c1052]) rfl
  simp only [F1035, Fof, ir1035]
  generalize Phi [c1050, c66, c1052] = Φ at *
  simp -implicitDefEqProofs
  refine (iter_meas (fun s : List Int × Int => (l.length - s.2).toNat) (fun s => resFr ((l.drop s.2.toNat).all okF) (l.drop s.2.toNat) s.1) (fun s => 0 ≤ s.2 ∧ s.2 ≤ l.length ∧ s.1.length ≤ 1048600 * s.2.toNat) (by exact ⟨by simp, by simp, by simp⟩) ?_).trans (by simp)
  rintro ⟨acc, i⟩ ⟨h1, h2, h3⟩
  simp only at h1 h2 h3 ⊢
  by_cases hi : i < l.length
  rotate_left
  · refine .inr ?_
    rw [List.drop_eq_nil_of_le (by omega)]
    simp -implicitDefEqProofs [hi, resFr, putFs]
  rw [dropI h1 hi]
  have g1 := getG (l := l) (d := dflt FrT) h1 (by omega)
  have b1 : 0 ≤ i ∧ i < (l.length : Int) := ⟨h1, hi⟩
  have wi : IntKind.i64.wrap (i + 1) = i + 1 := wi64 _ (by omega) (by omega)
  have hm : l[i.toNat]'(by omega) ∈ l := List.getElem_mem _
  generalize hcx : l[i.toNat]'(by omega) = x at *
  obtain ⟨k, y⟩ := x
  have k1 := h1050 k y
  have hn1 := hn _ hm
  have hb1 := hb _ hm
  simp only at hn1 hb1
  cases ho : okF (k, y) <;> rw [ho] at k1
  · refine .inr ?_
    simp -implicitDefEqProofs [hi, b1, g1, hcx, k1, resFr, ho]
  have ho' := ho
  simp only [okF, decide_eq_true_eq] at ho'
  have w1 : IntKind.u64.wrap (y.length : Int) = y.length := wu64 _ (by omega) (by omega)
  have w2 : IntKind.u8.wrap k = k := by rw [wu8]; omega
  have k2 := h66 [(y.length : Int)] (by intro u hu; simp only [List.mem_singleton] at hu; omega) (by simp)
  rw [putL_1, Int.toNat_natCast] at k2
  have k3 := h1052 k y (by omega) (by omega) hb1 (by omega)
  have ho1 := one_len5 (n := y.length) (by omega)
  have hs := sum4_w (crcOf (k :: y))
  have hlen : (putF (k, y)).length = (one y.length).length + 1 + y.length + 4 := putF_len (k, y)
  refine .inl ⟨(acc ++ putF (k, y), i + 1), ?_, ⟨by (try simp only); omega, by (try simp only); omega, ?_⟩, by (try simp only); omega, ?_⟩
  · simp -implicitDefEqProofs [hi, b1, g1, hcx, k1, w1, w2, k2, k3, wi]
    refine ⟨by (first | omega | (simp only [List.length_append, List.length_cons, List.length_nil, List.length_drop, List.length_take, BIG]; omega)), by (first | omega | (simp only [List.length_append, List.length_cons, List.length_nil, List.length_drop, List.length_take, BIG]; omega)), by (first | omega | (simp only [List.length_append, List.length_cons, List.length_nil, List.length_drop, List.length_take, BIG]; omega)), by (first | omega | (simp only [List.length_append, List.length_cons, List.length_nil, List.length_drop, List.length_take, BIG]; omega)), ?_⟩
    rw [hs]
    simp -implicitDefEqProofs [putF]
  · simp only [List.length_append, hlen]; omega
  · simp only [resFr, List.all_cons, ho, Bool.true_and, putFs, List.append_assoc]
theorem s1035 {lc : List Ct} (hl0 : look (lc.map fun c => (c.sig.id, c)) 1035 = some c1035) : ∀ (l : List Fr) (hl : l.length ≤ 20000) (hn : ∀ f ∈ l, f.2.length < 100000000000) (hb : ∀ f ∈ l, ∀ c ∈ f.2, 0 ≤ c ∧ c < 256), Does1 (Phi lc) 1035 [⟨.sl FrT, l⟩] (resFr (l.all okF) l []) :=
  fun l hl hn hb => by
    have eFc : c1035.F = F1035 := rfl
    have eFh := f1035 l hl hn hb
    rw [← eFc] at eFh
    exact Does1.of hl0 eFh (by unfold resFr; split <;> rfl)

def resF1 (b : List Int) (o : Option (Int × List Int × Nat)) : List D := match o with
  | some (k, y, n) => [⟨.int .i64, k⟩, ⟨.sl (.int .u8), y⟩, ⟨.int .i64, n⟩, ⟨.int .i64, 0⟩]
  | none => [⟨.int .i64, 0⟩, ⟨.sl (.int .u8), []⟩, ⟨.int .i64, 0⟩, ⟨.int .i64, errF b⟩]
theorem gap_none {b : List Int} (hb : ∀ c ∈ b, 0 ≤ c ∧ c < 256) (h : gapF b = true) : gvN b = 0 := by
  by_cases hz : gvN b = 0
  · exact hz
  · exfalso
    obtain ⟨g1, g2⟩ := gv_inv hb hz
    simp only [gapF, Bool.and_eq_true, decide_eq_true_eq, List.all_eq_true] at h
    have key : ∀ (m : Nat) (v : Nat), (one v).length = m + 1 → ∃ c ∈ one v, c < 128 := by
      intro m
      induction m with
      | zero =>
        intro v hv
        by_cases hv1 : v < 128
        · exact ⟨v, by rw [one_small hv1]; simp, by omega⟩
        · rw [one_big hv1, List.length_cons] at hv
          have := one_pos (v / 128); omega
      | succ m ih =>
        intro v hv
        by_cases hv1 : v < 128
        · exact ⟨v, by rw [one_small hv1]; simp, by omega⟩
        · rw [one_big hv1, List.length_cons] at hv
          obtain ⟨c, hc, hc2⟩ := ih (v / 128) (by omega)
          exact ⟨c, by rw [one_big hv1]; exact List.mem_cons_of_mem _ hc, hc2⟩
    obtain ⟨c, hc, hc2⟩ := key ((one (gvV b).toNat).length - 1) (gvV b).toNat (by have := one_pos (gvV b).toNat; omega)
    rw [← g1] at hc
    have := h.2 c (List.mem_of_mem_take hc)
    omega
theorem firstF_gap {b : List Int} (hb : ∀ c ∈ b, 0 ≤ c ∧ c < 256) (h : gapF b = true) : firstF b = none := by
  unfold firstF; rw [if_pos (.inl (gap_none hb h))]

theorem sumv_sum4 {r : List Int} (hb : ∀ c ∈ r, 0 ≤ c ∧ c < 256) (h : 4 ≤ r.length) (s : Int) (h0 : 0 ≤ s) (h1 : s < 4294967296) : sumv r = s ↔ r.take 4 = sum4 s := by
  obtain ⟨a, b, c, d, r', rfl⟩ := four h
  have ha := hb a (by simp); have hb' := hb b (by simp); have hc := hb c (by simp); have hd := hb d (by simp)
  simp only [sumv, sum4, List.take_succ_cons, List.take_zero, List.cons.injEq, and_true]
  constructor
  · rintro rfl; omega
  · rintro ⟨rfl, rfl, rfl, rfl⟩; omega

theorem getD0 {l : List Int} {n : Nat} {k : Int} {r : List Int} (h : l.drop n = k :: r) : n < l.length ∧ l[n]? = some k ∧ l.drop (n + 1) = r ∧ l.length = n + 1 + r.length := by
  have h1 : n < l.length := by
    by_cases hn : n < l.length
    · exact hn
    · rw [List.drop_eq_nil_of_le (by omega)] at h; cases h
  rw [List.drop_eq_getElem_cons h1] at h
  simp only [List.cons.injEq] at h
  refine ⟨h1, by rw [List.getElem?_eq_getElem h1, h.1], h.2, ?_⟩
  have := congrArg List.length h.2
  simp only [List.length_drop] at this; omega

theorem f1036 (b : List Int) (hb : ∀ c ∈ b, 0 ≤ c ∧ c < 256) (hl : b.length < 10000000000) : F1036 [⟨.sl (.int .u8), b⟩] = some (resF1 b (firstF b)) := by
  have h1053 := s1053 (lc := [c1053, c90, c1054, c1055, c1052, c1056]) rfl
  have h90 := s90 (lc := [c1053, c90, c1054, c1055, c1052, c1056]) rfl
  have h1054 := s1054 (lc := [c1053, c90, c1054, c1055, c1052, c1056]) rfl
  have h1055 := s1055 (lc := [c1053, c90, c1054, c1055, c1052, c1056]) rfl
  have h1052 := s1052 (lc := [c1053, c90, c1054, c1055, c1052, c1056]) rfl
  have h1056 := s1056 (lc := [c1053, c90, c1054, c1055, c1052, c1056]) rfl
  simp only [F1036, Fof, ir1036]
  generalize Phi [c1053, c90, c1054, c1055, c1052, c1056] = Φ at *
  have k1 := h1053 b (by omega)
  cases hg : gapF b <;> rw [hg] at k1
  rotate_left
  · rw [firstF_gap hb hg]
    simp -implicitDefEqProofs [k1, resF1, errF, hg]
  have k2 := h90 b hb
  have hr := gv_range hb
  unfold firstF
  have he : errF b = if gvN b = 0 ∨ 1048576 < gvV b then 2 else match b.drop (gvN b) with | [] => 5 | k :: r => if k < 1 ∨ 250 < k then 2 else if r.length < (gvV b).toNat + 4 then 5 else 2 := by
    unfold errF; rw [hg]; rfl
  by_cases c1 : gvN b = 0
  · rw [if_pos c1] at k2
    rw [if_pos (.inl c1)] at he ⊢
    simp -implicitDefEqProofs [k1, k2, resF1, he]
  rw [if_neg c1] at k2
  by_cases c2 : 1048576 < gvV b
  · rw [if_pos (.inr c2)] at he ⊢
    simp -implicitDefEqProofs [k1, k2, resF1, he, c2]
  rw [if_neg (by rintro (h | h); exact c1 h; exact c2 h)] at he ⊢
  generalize hu : gvV b = u at *
  generalize hn : gvN b = n at *
  have wu : IntKind.i64.wrap u = u := wi64 _ (by omega) (by omega)
  have wn : IntKind.i64.wrap ((n : Int) + 1) = n + 1 := wi64 _ (by omega) (by omega)
  have wn2 : IntKind.i64.wrap ((n : Int) + 1 + u) = n + 1 + u := wi64 _ (by omega) (by omega)
  have k3 := h1054 u
  unfold sizeI at k3
  rw [if_neg (by omega)] at k3
  obtain ⟨g1, g2⟩ := gv_inv hb (by rw [hn]; exact c1)
  rw [hn, hu] at g1 g2
  have hsz : (headN u.toNat : Int) = n + 1 := by unfold headN; omega
  rw [hsz] at k3
  cases hd : b.drop n with
  | nil =>
    have e : (n : Int) = b.length := by have := congrArg List.length hd; simp only [List.length_drop, List.length_nil] at this; omega
    have e' : n = b.length := by omega
    rw [hd] at he
    simp -implicitDefEqProofs [k1, k2, resF1, he, c2, e, e']
  | cons k r =>
    obtain ⟨d1, d2, d3, d4⟩ := getD0 hd
    rw [hd] at he
    simp only at he ⊢
    have d5 : b[n]'d1 = k := by rw [List.getElem?_eq_getElem d1] at d2; simpa using d2
    have e : ¬ (n : Int) = b.length := by omega
    have e' : ¬ n = b.length := by omega
    have b1 : 0 ≤ (n : Int) ∧ (n : Int) < b.length := by omega
    have hkb := hb k (List.mem_of_getElem? d2)
    by_cases q1 : k < 1
    · rw [if_pos (.inl q1)] at he ⊢
      simp -implicitDefEqProofs [k1, k2, resF1, he, c2, e, e', d1, d5, q1]
    by_cases q2 : 250 < k
    · rw [if_pos (.inr q2)] at he ⊢
      simp -implicitDefEqProofs [k1, k2, resF1, he, c2, e, e', d1, d5, q1, q2]
    rw [if_neg (by omega)] at he ⊢
    by_cases q3 : r.length < u.toNat + 4
    · rw [if_pos q3] at he ⊢
      have q3' : (b.length : Int) < n + 1 + u + 4 := by omega
      simp -implicitDefEqProofs [k1, k2, k3, resF1, he, c2, e, e', d1, d5, q1, q2, q3', wu]
    rw [if_neg q3] at he ⊢
    have q3' : ¬ (b.length : Int) < n + 1 + u + 4 := by omega
    have b2 : 0 ≤ (n : Int) + 1 ∧ (n : Int) + 1 ≤ n + 1 + u ∧ (n : Int) + 1 + u ≤ b.length := by omega
    have b3 : 0 ≤ (n : Int) + 1 + u ∧ (n : Int) + 1 + u ≤ b.length := by omega
    have t1 : (b.take ((n : Int) + 1 + u).toNat).drop (n + 1) = r.take u.toNat := by
      rw [show ((n : Int) + 1 + u).toNat = (n + 1) + u.toNat by omega, List.drop_take, show n + 1 + u.toNat - (n + 1) = u.toNat by omega, d3]
    have t2 : b.drop ((n : Int) + 1 + u).toNat = r.drop u.toNat := by
      rw [show ((n : Int) + 1 + u).toNat = (n + 1) + u.toNat by omega, ← List.drop_drop, d3]
    have hrb : ∀ c ∈ r, 0 ≤ c ∧ c < 256 := fun c hc => hb c (by rw [← d3] at hc; exact List.mem_of_mem_drop hc)
    have hrd : ∀ c ∈ r.drop u.toNat, 0 ≤ c ∧ c < 256 := fun c hc => hrb c (List.mem_of_mem_drop hc)
    have hlr : 4 ≤ (r.drop u.toNat).length := by rw [List.length_drop]; omega
    obtain ⟨p, q, s, t, r', hrr⟩ := four hlr
    have k4 := h1055 p q s t r' (hrd p (by rw [hrr]; simp)) (hrd q (by rw [hrr]; simp)) (hrd s (by rw [hrr]; simp)) (hrd t (by rw [hrr]; simp))
    have hsv : p + q * 256 + s * 65536 + t * 16777216 = sumv (r.drop u.toNat) := by rw [hrr]; rfl
    rw [← hrr, hsv] at k4
    have k5 := h1052 k (r.take u.toNat) (by omega) (by omega) (fun c hc => hrb c (List.mem_of_mem_take hc)) (by rw [List.length_take]; omega)
    have k6 := h1056 (r.take u.toNat) (by rw [List.length_take]; omega)
    have hc := crcOf_lt (k :: r.take u.toNat)
    have hiff := sumv_sum4 hrd hlr (crcOf (k :: r.take u.toNat)) hc.1 hc.2
    have wk : IntKind.i64.wrap k = k := wi64 _ (by omega) (by omega)
    generalize hT : r.take u.toNat = T at *
    generalize hD : r.drop u.toNat = Dd at *
    by_cases hs : sumv Dd = crcOf (k :: T)
    · rw [if_pos (hiff.1 hs)]
      simp -implicitDefEqProofs [k1, k2, k3, k4, k5, k6, resF1, c2, e, e', d1, d5, q1, q2, q3', wu, wn, wn2, b2, b3, t1, t2, hs, wk]
      exact (by omega : u = max u 0)
    · rw [if_neg (fun h => hs (hiff.2 h))]
      simp -implicitDefEqProofs [k1, k2, k3, k4, k5, k6, resF1, c2, e, e', d1, d5, q1, q2, q3', wu, wn, wn2, b2, b3, t1, t2, hs, he]
theorem s1036 {lc : List Ct} (hl0 : look (lc.map fun c => (c.sig.id, c)) 1036 = some c1036) : ∀ (b : List Int) (hb : ∀ c ∈ b, 0 ≤ c ∧ c < 256) (hl : b.length < 10000000000), Does1 (Phi lc) 1036 [⟨.sl (.int .u8), b⟩] (resF1 b (firstF b)) :=
  fun b hb hl => by
    have eFc : c1036.F = F1036 := rfl
    have eFh := f1036 b hb hl
    rw [← eFc] at eFh
    exact Does1.of hl0 eFh (by unfold resF1; split <;> rfl)
end Go.Proofs.YtolcekkcenedjaaGreat.Sx

set_option maxHeartbeats 4000000
namespace Go.Proofs.YtolcekkcenedjaaGreat.Sx

def placesF : Nat → List Fr → List Int
  | _, [] => []
  | a, f :: r => ((a + headN f.2.length : Nat) : Int) :: placesF (a + (putF f).length) r
def resS (l : List Fr) (p : List Int) (a : Nat) (r : List Fr) : List D := [⟨.sl FrT, l ++ r⟩, ⟨.sl (.int .i64), p ++ placesF a r⟩, ⟨.int .i64, ((a + (putFs r).length : Nat) : Int)⟩]

theorem f1027 (b : List Int) (hb : ∀ c ∈ b, 0 ≤ c ∧ c < 256) (hl : b.length < 10000000000) : F1027 [⟨.sl (.int .u8), b⟩] = some (resS [] [] 0 (scanF b)) := by
  have h1036 := s1036 (lc := [c1036, c1039]) rfl
  have h1039 := s1039 (lc := [c1036, c1039]) rfl
  simp only [F1027, Fof, ir1027]
  generalize Phi [c1036, c1039] = Φ at *
  simp -implicitDefEqProofs
  refine (iter_meas (fun s : List Fr × List Int × Int => (b.length - s.2.2).toNat) (fun s => resS s.1 s.2.1 s.2.2.toNat (scanF (b.drop s.2.2.toNat))) (fun s => 0 ≤ s.2.2 ∧ s.2.2 ≤ b.length ∧ s.1.length ≤ s.2.2 ∧ s.2.1.length ≤ s.2.2) (by exact ⟨by simp, by simp, by simp, by simp⟩) ?_).trans (by simp)
  rintro ⟨l, p, a⟩ ⟨h1, h2, h3, h4⟩
  simp only at h1 h2 h3 h4 ⊢
  have hbd : ∀ c ∈ b.drop a.toNat, 0 ≤ c ∧ c < 256 := fun c hc => hb c (List.mem_of_mem_drop hc)
  have k1 := h1036 (b.drop a.toNat) hbd (by rw [List.length_drop]; omega)
  have b1 : 0 ≤ a ∧ a ≤ (b.length : Int) := ⟨h1, h2⟩
  cases hf : firstF (b.drop a.toNat) with
  | none =>
    rw [hf] at k1
    simp only [resF1] at k1
    have he := errF_pos (b.drop a.toNat)
    have he' : ¬ errF (b.drop a.toNat) = 0 := by omega
    rw [scanF_none hf]
    refine .inr ?_
    simp -implicitDefEqProofs [b1, k1, he', resS, placesF, putFs]
    exact (by omega : a = max a 0)
  | some x =>
    obtain ⟨k, y, n⟩ := x
    rw [hf] at k1
    simp only [resF1] at k1
    obtain ⟨i1, i2, i3, i4⟩ := firstF_inv hbd hf
    rw [scanF_cons hbd hf]
    have hp := putF_pos (k, y)
    have hpl : (putF (k, y)).length = (one y.length).length + 1 + y.length + 4 := putF_len (k, y)
    rw [List.length_drop] at i4
    have k2 := h1039 (y.length : Int)
    simp only [okF, decide_eq_true_eq] at i3
    have hz : headI (y.length : Int) = headN y.length := by unfold headI; rw [if_neg (by omega), Int.toNat_natCast]
    rw [hz] at k2
    have hr := headN_r (n := y.length) (by omega)
    have w1 : IntKind.i64.wrap (a + (headN y.length : Int)) = a + headN y.length := wi64 _ (by omega) (by omega)
    have w2 : IntKind.i64.wrap (a + (n : Int)) = a + n := wi64 _ (by omega) (by omega)
    have hmk : mkD FrT 1 [⟨.int .i64, k⟩, ⟨.sl (.int .u8), y⟩] = some ⟨.sl FrT, [(k, y)]⟩ := rfl
    have hB1 : l.length + 1 ≤ BIG := by simp only [BIG]; omega
    have hB2 : p.length + 1 ≤ BIG := by simp only [BIG]; omega
    refine .inl ⟨(l ++ [(k, y)], p ++ [a + (headN y.length : Int)], a + n), ?_, ⟨by (try simp only); omega, by (try simp only); omega, by simp; omega, by simp; omega⟩, by (try simp only); omega, ?_⟩
    · simp -implicitDefEqProofs [b1, k1, hmk, k2, w1, w2, hB1, hB2]
    · simp only [resS, placesF, putFs, List.append_assoc, List.cons_append, List.nil_append, List.length_append, List.drop_drop]
      rw [show (a + (n : Int)).toNat = a.toNat + n by omega, ← i2, show (a + (headN y.length : Int)) = ((a.toNat + headN y.length : Nat) : Int) by omega, Nat.add_assoc]
theorem s1027 {lc : List Ct} (hl0 : look (lc.map fun c => (c.sig.id, c)) 1027 = some c1027) : ∀ (b : List Int) (hb : ∀ c ∈ b, 0 ≤ c ∧ c < 256) (hl : b.length < 10000000000), Does1 (Phi lc) 1027 [⟨.sl (.int .u8), b⟩] (resS [] [] 0 (scanF b)) :=
  fun b hb hl => by
    have eFc : c1027.F = F1027 := rfl
    have eFh := f1027 b hb hl
    rw [← eFc] at eFh
    exact Does1.of hl0 eFh (by rfl)

def dg : Nat → Int → List Int
  | 0, _ => [] | n + 1, s => s % 256 :: dg n (s / 256)
theorem dg_sum4 (s : Int) (h : 0 ≤ s) : dg 4 s = sum4 s := by
  simp only [dg, sum4]
  rw [show s / 256 / 256 = s / 65536 by omega, show s / 65536 / 256 = s / 16777216 by omega]
theorem f1023 (k : Int) (x : List Int) (h0 : 0 ≤ k) (h1 : k < 256) (hb : ∀ c ∈ x, 0 ≤ c ∧ c < 256) (hl : x.length < 10000000000) : F1023 [⟨.int .i64, k⟩, ⟨.sl (.int .u8), x⟩] = some [⟨.sl (.int .u8), putF (k, x)⟩] := by
  have h71 := s71 (lc := [c71, c74]) rfl
  have h74 := s74 (lc := [c71, c74]) rfl
  simp only [F1023, Fof, ir1023]
  generalize Phi [c71, c74] = Φ at *
  have w1 : IntKind.u64.wrap (x.length : Int) = x.length := wu64 _ (by omega) (by omega)
  have k1 := h71 (x.length : Int) (by omega)
  have w2 : IntKind.u8.wrap k = k := by rw [wu8]; omega
  have k2 := h74 (k :: x) (by intro c hc; rcases List.mem_cons.1 hc with rfl | hc; omega; exact hb c hc) (by simp only [List.length_cons]; omega)
  have hlo := one_len5 (n := x.length) (by omega)
  rw [Int.toNat_natCast] at k1
  have hr := crcOf_lt (k :: x)
  unfold putF
  rw [← dg_sum4 _ hr.1]
  generalize crcOf (k :: x) = z at *
  have c1 : (one x.length).length + 1 ≤ BIG := by simp only [BIG]; omega
  have c2 : (one x.length).length + 1 + x.length ≤ BIG := by simp only [BIG]; omega
  have c3 : 1 + x.length ≤ BIG := by simp only [BIG]; omega
  simp -implicitDefEqProofs [w1, w2, k1, k2, c1, c2, c3]
  refine (iter_meas (fun s : List Int × Int × Int => (4 - s.2.2).toNat) (fun s => ([⟨.sl (.int .u8), s.1 ++ dg (4 - s.2.2).toNat s.2.1⟩] : List D)) (fun s => 0 ≤ s.2.2 ∧ s.2.2 ≤ 4 ∧ 0 ≤ s.2.1 ∧ s.2.1 < 4294967296 ∧ s.1.length ≤ 20000000000 + s.2.2.toNat) (by exact ⟨by simp, by simp, hr.1, hr.2, by simp; omega⟩) ?_).trans (by simp)
  rintro ⟨acc, s, i⟩ ⟨i1, i2, i3, i4, i5⟩
  simp only at i1 i2 i3 i4 i5 ⊢
  by_cases hi : i < 4
  · have wi : IntKind.i64.wrap (i + 1) = i + 1 := wi64 _ (by omega) (by omega)
    have hB : acc.length + 1 ≤ BIG := by simp only [BIG]; omega
    have e1 : IntKind.u8.wrap (s.tmod 256) = s % 256 := by rw [tm _ 256 i3, wu8]; omega
    have e2 : IntKind.u32.wrap (s.tdiv 256) = s / 256 := by rw [td _ 256 i3]; exact wu32 _ (by omega) (by omega)
    refine .inl ⟨(acc ++ [s % 256], s / 256, i + 1), ?_, ⟨by (try simp only); omega, by (try simp only); omega, by (try simp only); omega, by (try simp only); omega, by simp; omega⟩, by (try simp only); omega, ?_⟩
    · simp -implicitDefEqProofs [hi, wi, hB, e1, e2]
    · simp only [show (4 - i).toNat = (4 - (i + 1)).toNat + 1 by omega, dg, List.append_assoc, List.cons_append, List.nil_append]
  · refine .inr ?_
    rw [show (4 - i).toNat = 0 by omega]
    simp -implicitDefEqProofs [hi, dg]
theorem s1023 {lc : List Ct} (hl0 : look (lc.map fun c => (c.sig.id, c)) 1023 = some c1023) : ∀ (k : Int) (x : List Int) (h0 : 0 ≤ k) (h1 : k < 256) (hb : ∀ c ∈ x, 0 ≤ c ∧ c < 256) (hl : x.length < 10000000000), Does1 (Phi lc) 1023 [⟨.int .i64, k⟩, ⟨.sl (.int .u8), x⟩] [⟨.sl (.int .u8), putF (k, x)⟩] :=
  fun k x h0 h1 hb hl => by
    have eFc : c1023.F = F1023 := rfl
    have eFh := f1023 k x h0 h1 hb hl
    rw [← eFc] at eFh
    exact Does1.of hl0 eFh rfl
theorem f1024 (l : List Fr) (hl : l.length ≤ 500) (hn : ∀ f ∈ l, f.2.length < 100000000) (hk : ∀ f ∈ l, 0 ≤ f.1 ∧ f.1 < 256) (hb : ∀ f ∈ l, ∀ c ∈ f.2, 0 ≤ c ∧ c < 256) : F1024 [⟨.sl FrT, l⟩] = some [⟨.sl (.int .u8), putFs l⟩] := by
  have h1023 := s1023 (lc := [c1023]) rfl
  simp only [F1024, Fof, ir1024]
  generalize Phi [c1023] = Φ at *
  simp -implicitDefEqProofs
  refine (iter_meas (fun s : List Int × Int => (l.length - s.2).toNat) (fun s => ([⟨.sl (.int .u8), s.1 ++ putFs (l.drop s.2.toNat)⟩] : List D)) (fun s => 0 ≤ s.2 ∧ s.2 ≤ l.length ∧ s.1.length ≤ 100000010 * s.2.toNat) (by exact ⟨by simp, by simp, by simp⟩) ?_).trans (by simp)
  rintro ⟨acc, i⟩ ⟨h1, h2, h3⟩
  simp only at h1 h2 h3 ⊢
  by_cases hi : i < l.length
  rotate_left
  · refine .inr ?_
    rw [List.drop_eq_nil_of_le (by omega)]
    simp -implicitDefEqProofs [hi, putFs]
  rw [dropI h1 hi]
  have g1 := getG (l := l) (d := dflt FrT) h1 (by omega)
  have b1 : 0 ≤ i ∧ i < (l.length : Int) := ⟨h1, hi⟩
  have wi : IntKind.i64.wrap (i + 1) = i + 1 := wi64 _ (by omega) (by omega)
  have hm : l[i.toNat]'(by omega) ∈ l := List.getElem_mem _
  generalize hcx : l[i.toNat]'(by omega) = x at *
  obtain ⟨k, y⟩ := x
  have hn1 := hn _ hm
  have hb1 := hb _ hm
  have hk1 := hk _ hm
  simp only at hn1 hb1 hk1
  have k1 := h1023 k y hk1.1 hk1.2 hb1 (by omega)
  have hlen : (putF (k, y)).length = (one y.length).length + 1 + y.length + 4 := putF_len (k, y)
  have ho1 := one_len5 (n := y.length) (by omega)
  have hB : acc.length + (putF (k, y)).length ≤ BIG := by simp only [BIG]; omega
  refine .inl ⟨(acc ++ putF (k, y), i + 1), ?_, ⟨by (try simp only); omega, by (try simp only); omega, ?_⟩, by (try simp only); omega, ?_⟩
  · simp -implicitDefEqProofs [hi, b1, g1, hcx, k1, wi, hB]
  · simp only [List.length_append, hlen]; omega
  · simp only [putFs, List.append_assoc]
theorem s1024 {lc : List Ct} (hl0 : look (lc.map fun c => (c.sig.id, c)) 1024 = some c1024) : ∀ (l : List Fr) (hl : l.length ≤ 500) (hn : ∀ f ∈ l, f.2.length < 100000000) (hk : ∀ f ∈ l, 0 ≤ f.1 ∧ f.1 < 256) (hb : ∀ f ∈ l, ∀ c ∈ f.2, 0 ≤ c ∧ c < 256), Does1 (Phi lc) 1024 [⟨.sl FrT, l⟩] [⟨.sl (.int .u8), putFs l⟩] :=
  fun l hl hn hk hb => by
    have eFc : c1024.F = F1024 := rfl
    have eFh := f1024 l hl hn hk hb
    rw [← eFc] at eFh
    exact Does1.of hl0 eFh rfl
end Go.Proofs.YtolcekkcenedjaaGreat.Sx

set_option maxHeartbeats 8000000
namespace Go.Proofs.YtolcekkcenedjaaGreat.Sx

theorem gap_loop {R : Type} (b : List Int) {st : Int → Option (LS Int R)} {K : Int → Option (LS Int R)} {r : R}
    (hst : ∀ s, st s = if s < (b.length : Int) then (if s < 3 then (if 0 ≤ s ∧ s < (b.length : Int) then (if 127 < b[Int.toNat s]?.getD (dflt (Ty.int IntKind.u8)) then some (LS.again (IntKind.i64.wrap (s + 1))) else K s) else none) else K s) else K s)
    (h : ∀ j : Int, 0 ≤ j → j ≤ b.length → ((j = b.length ∧ j < 3) ↔ gapF b = true) → K j = some (.out r)) : iter st 0 = some r := by
  refine iter_meas (fun s : Int => (b.length - s).toNat) (fun s => r) (fun s => 0 ≤ s ∧ s ≤ b.length ∧ s ≤ 3 ∧ ∀ i : Nat, i < s.toNat → ∀ c, b[i]? = some c → 128 ≤ c) (by exact ⟨by omega, by omega, by omega, fun i hi => by simp at hi⟩) ?_
  rintro i ⟨h1, h2, h3, h4⟩
  rw [hst i]
  have hall : ∀ (h5 : i = b.length), b.all (fun c => decide (128 ≤ c)) = true := by
    intro h5
    refine List.all_eq_true.2 (fun c hc => ?_)
    obtain ⟨n, hn, e⟩ := List.mem_iff_getElem.1 hc
    exact decide_eq_true (h4 n (by omega) c (by rw [List.getElem?_eq_getElem hn, e]))
  by_cases hi : i < b.length
  · rw [if_pos hi]
    by_cases hk : i < 3
    · rw [if_pos hk, if_pos ⟨h1, hi⟩]
      have g1 := getG (l := b) (d := dflt (Ty.int IntKind.u8)) h1 hi
      rw [g1]
      by_cases hc : 127 < b[i.toNat]'(by omega)
      · rw [if_pos hc]
        refine .inl ⟨i + 1, by rw [wi64 _ (by omega) (by omega)], ⟨by omega, by omega, by omega, fun n hn c hcc => ?_⟩, by omega, rfl⟩
        by_cases hni : n < i.toNat
        · exact h4 n hni c hcc
        · have : n = i.toNat := by omega
          subst this
          rw [List.getElem?_eq_getElem (by omega)] at hcc
          simp only [Option.some.injEq] at hcc; omega
      · rw [if_neg hc]
        refine .inr (h i h1 h2 ?_)
        constructor
        · rintro ⟨e, _⟩; omega
        · intro hg
          simp only [gapF, Bool.and_eq_true, decide_eq_true_eq, List.all_eq_true] at hg
          have := hg.2 _ (List.getElem_mem (l := b) (n := i.toNat) (by omega))
          omega
    · rw [if_neg hk]
      refine .inr (h i h1 h2 ?_)
      constructor
      · rintro ⟨e, _⟩; omega
      · intro hg
        simp only [gapF, Bool.and_eq_true, decide_eq_true_eq] at hg
        omega
  · rw [if_neg hi]
    refine .inr (h i h1 h2 ?_)
    have e : i = b.length := by omega
    constructor
    · rintro ⟨_, h5⟩
      simp only [gapF, Bool.and_eq_true, decide_eq_true_eq]
      exact ⟨by omega, hall e⟩
    · intro hg
      simp only [gapF, Bool.and_eq_true, decide_eq_true_eq] at hg
      omega

theorem gap_loop2 {R : Type} (b : List Int) {st : Int → Option (LS Int R)} {r1 r2 : R}
    (hst : ∀ s, st s = if s < (b.length : Int) then (if s < 3 then (if 0 ≤ s ∧ s < (b.length : Int) then (if 127 < b[Int.toNat s]?.getD (dflt (Ty.int IntKind.u8)) then some (LS.again (IntKind.i64.wrap (s + 1))) else
      (if s = (b.length : Int) then (if s < 3 then some (.out r1) else some (.out r2)) else some (.out r2))) else none) else (if s = (b.length : Int) then (if s < 3 then some (.out r1) else some (.out r2)) else some (.out r2))) else (if s = (b.length : Int) then (if s < 3 then some (.out r1) else some (.out r2)) else some (.out r2))) :
    iter st 0 = some (if gapF b = true then r1 else r2) := by
  refine gap_loop b (K := fun s => if s = (b.length : Int) then (if s < 3 then some (.out r1) else some (.out r2)) else some (.out r2)) hst ?_
  intro j j0 j1 hq
  show (if j = (b.length : Int) then (if j < 3 then some (.out r1) else some (.out r2)) else some (.out r2) : Option (LS Int R)) = _
  by_cases e1 : j = b.length
  · rw [if_pos e1]
    by_cases e2 : j < 3
    · rw [if_pos e2, if_pos (hq.1 ⟨e1, e2⟩)]
    · rw [if_neg e2, if_neg (fun h => e2 (hq.2 h).2)]
  · rw [if_neg e1, if_neg (fun h => e1 (hq.2 h).1)]
theorem gap_loop3 {R : Type} (b : List Int) {st : Int → Option (LS Int R)} {r : R}
    (hst : ∀ s, st s = if s < (b.length : Int) then (if s < 3 then (if 0 ≤ s ∧ s < (b.length : Int) then (if 127 < b[Int.toNat s]?.getD (dflt (Ty.int IntKind.u8)) then some (LS.again (IntKind.i64.wrap (s + 1))) else
      some (.out r)) else none) else some (.out r)) else some (.out r)) : iter st 0 = some r :=
  gap_loop b (K := fun s => some (.out r)) hst (fun j _ _ _ => rfl)

theorem f1038 (b : List Int) (hb : ∀ c ∈ b, 0 ≤ c ∧ c < 256) (hl : b.length < 10000000000) : F1038 [⟨.sl (.int .u8), b⟩] = some (resF1 b (firstF b)) := by
  have h92 := s92 (lc := [c92, c1023, c21]) rfl
  have h1023 := s1023 (lc := [c92, c1023, c21]) rfl
  have h21 := s21 (lc := [c92, c1023, c21]) rfl
  simp only [F1038, Fof, ir1038]
  generalize Phi [c92, c1023, c21] = Φ at *
  have k2 := h92 b hb (by omega)
  have hr := gv_range hb
  have hB0 : BIG = 549755813888 := rfl
  cases hg : gapF b
  rotate_left
  · rw [firstF_gap hb hg]
    have c1 := gap_none hb hg
    simp -implicitDefEqProofs [k2, c1]
    refine (gap_loop2 b (fun s => rfl)).trans ?_
    simp only [hg, if_true, resF1, errF]
  have he : errF b = if gvN b = 0 ∨ 1048576 < gvV b then 2 else match b.drop (gvN b) with | [] => 5 | k :: r => if k < 1 ∨ 250 < k then 2 else if r.length < (gvV b).toNat + 4 then 5 else 2 := by
    unfold errF; rw [hg]; rfl
  have hfe := @firstF_inv b hb
  have hfp : ∀ (k : Int) (y : List Int) (n : Nat), okF (k, y) = true → n ≤ b.length → putF (k, y) = b.take n → firstF b = some (k, y, n) := by
    intro k y n ho hn hp
    have e : b = putF (k, y) ++ b.drop n := by rw [hp, List.take_append_drop]
    have hln : (putF (k, y)).length = n := by rw [hp, List.length_take]; omega
    rw [e, firstF_put ho, hln]
  unfold firstF at hfp hfe ⊢
  by_cases c1 : gvN b = 0
  · rw [if_pos (.inl c1)] at he ⊢
    simp -implicitDefEqProofs [k2, resF1, he, c1]
    first | exact gap_loop3 b (fun s => rfl) | (refine (gap_loop2 b (fun s => rfl)).trans ?_; simp [hg])
  by_cases c2 : 1048576 < gvV b
  · rw [if_pos (.inr c2)] at he ⊢
    simp -implicitDefEqProofs [k2, resF1, he, c1, c2]
    first | exact gap_loop3 b (fun s => rfl) | (refine (gap_loop2 b (fun s => rfl)).trans ?_; simp [hg])
  rw [if_neg (by rintro (h | h); exact c1 h; exact c2 h)] at he hfp hfe ⊢
  obtain ⟨g1, g2⟩ := gv_inv hb c1
  generalize hu : gvV b = u at *
  generalize hn : gvN b = n at *
  have wu : IntKind.i64.wrap u = u := wi64 _ (by omega) (by omega)
  have wn : IntKind.i64.wrap ((n : Int) + 1) = n + 1 := wi64 _ (by omega) (by omega)
  have wn2 : IntKind.i64.wrap ((n : Int) + 1 + u) = n + 1 + u := wi64 _ (by omega) (by omega)
  have wn3 : IntKind.i64.wrap ((n : Int) + 1 + u + 4) = n + 1 + u + 4 := wi64 _ (by omega) (by omega)
  cases hd : b.drop n with
  | nil =>
    have e : (n : Int) = b.length := by have := congrArg List.length hd; simp only [List.length_drop, List.length_nil] at this; omega
    have e' : n = b.length := by omega
    have e'' : ¬ b.length = 0 := by omega
    rw [hd] at he
    simp -implicitDefEqProofs [k2, resF1, he, c1, c2, e, e', e'']
    first | exact gap_loop3 b (fun s => rfl) | (refine (gap_loop2 b (fun s => rfl)).trans ?_; simp [hg])
  | cons k r =>
    obtain ⟨d1, d2, d3, d4⟩ := getD0 hd
    rw [hd] at he hfp hfe
    simp only at he hfp hfe ⊢
    have d5 : b[n]'d1 = k := by rw [List.getElem?_eq_getElem d1] at d2; simpa using d2
    have e : ¬ (n : Int) = b.length := by omega
    have e' : ¬ n = b.length := by omega
    have hkb := hb k (List.mem_of_getElem? d2)
    have wk : IntKind.i64.wrap k = k := wi64 _ (by omega) (by omega)
    by_cases q1 : k < 1
    · rw [if_pos (.inl q1)] at he ⊢
      simp -implicitDefEqProofs [k2, resF1, he, c1, c2, e, e', d1, d5, wk, q1]
      first | exact gap_loop3 b (fun s => rfl) | (refine (gap_loop2 b (fun s => rfl)).trans ?_; simp [hg])
    by_cases q2 : 250 < k
    · rw [if_pos (.inr q2)] at he ⊢
      simp -implicitDefEqProofs [k2, resF1, he, c1, c2, e, e', d1, d5, wk, q1, q2]
      first | exact gap_loop3 b (fun s => rfl) | (refine (gap_loop2 b (fun s => rfl)).trans ?_; simp [hg])
    rw [if_neg (by omega)] at he hfp hfe ⊢
    by_cases q3 : r.length < u.toNat + 4
    · rw [if_pos q3] at he ⊢
      have q3' : (b.length : Int) < n + 1 + u + 4 := by omega
      simp -implicitDefEqProofs [k2, resF1, he, c1, c2, e, e', d1, d5, wk, q1, q2, q3', wu, wn, wn2, wn3]
      first | exact gap_loop3 b (fun s => rfl) | (refine (gap_loop2 b (fun s => rfl)).trans ?_; simp [hg])
    rw [if_neg q3] at he hfp hfe ⊢
    have q3' : ¬ (b.length : Int) < n + 1 + u + 4 := by omega
    have b2 : 0 ≤ (n : Int) + 1 ∧ (n : Int) + 1 ≤ n + 1 + u ∧ (n : Int) + 1 + u ≤ b.length := by omega
    have b3 : 0 ≤ (n : Int) + 1 + u + 4 ∧ (n : Int) + 1 + u + 4 ≤ b.length := by omega
    have b4 : min u.toNat r.length ≤ BIG := by rw [hB0]; omega
    have hmu : max u 0 = u := by omega
    have t1 : (b.take ((n : Int) + 1 + u).toNat).drop (n + 1) = r.take u.toNat := by
      rw [show ((n : Int) + 1 + u).toNat = (n + 1) + u.toNat by omega, List.drop_take, show n + 1 + u.toNat - (n + 1) = u.toNat by omega, d3]
    have hrb : ∀ c ∈ r, 0 ≤ c ∧ c < 256 := fun c hc => hb c (by rw [← d3] at hc; exact List.mem_of_mem_drop hc)
    have hTl : (r.take u.toNat).length = u.toNat := by rw [List.length_take]; omega
    have k5 := h1023 k (r.take u.toNat) (by omega) (by omega) (fun c hc => hrb c (List.mem_of_mem_take hc)) (by omega)
    have hpl : (putF (k, r.take u.toNat)).length = (one (r.take u.toNat).length).length + 1 + (r.take u.toNat).length + 4 := putF_len (k, r.take u.toNat)
    rw [hTl, ← g2] at hpl
    have k6 := h21 (putF (k, r.take u.toNat)) (b.take ((n : Int) + 1 + u + 4).toNat) (by omega)
    have ho : okF (k, r.take u.toNat) = true := by simp only [okF, decide_eq_true_eq, hTl]; omega
    have hfp2 := hfp k (r.take u.toNat) (n + 1 + u.toNat + 4) ho (by omega)
    have hT4 : ((n : Int) + 1 + u + 4).toNat = n + 1 + u.toNat + 4 := by omega
    rw [hT4] at k6
    by_cases hs : (r.drop u.toNat).take 4 = sum4 (crcOf (k :: r.take u.toNat))
    · rw [if_pos hs] at hfe ⊢
      have hE : putF (k, r.take u.toNat) = b.take (n + 1 + u.toNat + 4) := by
        obtain ⟨x1, x2, _⟩ := hfe rfl
        conv => rhs; rw [x1, x2, List.take_left]
      rw [decide_eq_true hE] at k6
      simp -implicitDefEqProofs [k2, resF1, he, c1, c2, e, e', d1, d5, wk, q1, q2, q3', wu, wn, wn2, wn3, b2, b3, b4, t1, k5, hT4, k6, hmu]
      first | exact gap_loop3 b (fun s => rfl) | (refine (gap_loop2 b (fun s => rfl)).trans ?_; simp [hg])
    · rw [if_neg hs] at hfp2 ⊢
      have hE : ¬ putF (k, r.take u.toNat) = b.take (n + 1 + u.toNat + 4) := fun h => by cases hfp2 h
      rw [decide_eq_false hE] at k6
      simp -implicitDefEqProofs [k2, resF1, he, c1, c2, e, e', d1, d5, wk, q1, q2, q3', wu, wn, wn2, wn3, b2, b3, b4, t1, k5, hT4, k6, hmu]
      first | exact gap_loop3 b (fun s => rfl) | (refine (gap_loop2 b (fun s => rfl)).trans ?_; simp [hg])
theorem s1038 {lc : List Ct} (hl0 : look (lc.map fun c => (c.sig.id, c)) 1038 = some c1038) : ∀ (b : List Int) (hb : ∀ c ∈ b, 0 ≤ c ∧ c < 256) (hl : b.length < 10000000000), Does1 (Phi lc) 1038 [⟨.sl (.int .u8), b⟩] (resF1 b (firstF b)) :=
  fun b hb hl => by
    have eFc : c1038.F = F1038 := rfl
    have eFh := f1038 b hb hl
    rw [← eFc] at eFh
    exact Does1.of hl0 eFh (by unfold resF1; split <;> rfl)

theorem f1019 (b : List Int) (hb : ∀ c ∈ b, 0 ≤ c ∧ c < 256) (hl : b.length < 10000000000) : F1019 [⟨.sl (.int .u8), b⟩] = some (resS [] [] 0 (scanF b)) := by
  have h1038 := s1038 (lc := [c1038]) rfl
  simp only [F1019, Fof, ir1019]
  generalize Phi [c1038] = Φ at *
  simp -implicitDefEqProofs
  refine (iter_meas (fun s : List Fr × List Int × Int => (b.length - s.2.2).toNat) (fun s => resS s.1 s.2.1 s.2.2.toNat (scanF (b.drop s.2.2.toNat))) (fun s => 0 ≤ s.2.2 ∧ s.2.2 ≤ b.length ∧ s.1.length ≤ s.2.2 ∧ s.2.1.length ≤ s.2.2) (by exact ⟨by simp, by simp, by simp, by simp⟩) ?_).trans (by simp)
  rintro ⟨l, p, a⟩ ⟨h1, h2, h3, h4⟩
  simp only at h1 h2 h3 h4 ⊢
  have hbd : ∀ c ∈ b.drop a.toNat, 0 ≤ c ∧ c < 256 := fun c hc => hb c (List.mem_of_mem_drop hc)
  have k1 := h1038 (b.drop a.toNat) hbd (by rw [List.length_drop]; omega)
  have b1 : 0 ≤ a ∧ a ≤ (b.length : Int) := ⟨h1, h2⟩
  cases hf : firstF (b.drop a.toNat) with
  | none =>
    rw [hf] at k1
    simp only [resF1] at k1
    have he := errF_pos (b.drop a.toNat)
    have he' : ¬ errF (b.drop a.toNat) = 0 := by omega
    rw [scanF_none hf]
    refine .inr ?_
    simp -implicitDefEqProofs [b1, k1, he', resS, placesF, putFs]
    exact (by omega : a = max a 0)
  | some x =>
    obtain ⟨k, y, n⟩ := x
    rw [hf] at k1
    simp only [resF1] at k1
    obtain ⟨i1, i2, i3, i4⟩ := firstF_inv hbd hf
    rw [scanF_cons hbd hf]
    have hp := putF_pos (k, y)
    have hpl : (putF (k, y)).length = (one y.length).length + 1 + y.length + 4 := putF_len (k, y)
    rw [List.length_drop] at i4
    simp only [okF, decide_eq_true_eq] at i3
    have w1 : IntKind.i64.wrap (a + (n : Int)) = a + n := wi64 _ (by omega) (by omega)
    have w2 : IntKind.i64.wrap (a + (n : Int) - 4) = a + n - 4 := wi64 _ (by omega) (by omega)
    have w3 : IntKind.i64.wrap (a + (n : Int) - 4 - y.length) = a + n - 4 - y.length := wi64 _ (by omega) (by omega)
    have hmk : mkD FrT 1 [⟨.int .i64, k⟩, ⟨.sl (.int .u8), y⟩] = some ⟨.sl FrT, [(k, y)]⟩ := rfl
    have hB1 : l.length + 1 ≤ BIG := by simp only [BIG]; omega
    have hB2 : p.length + 1 ≤ BIG := by simp only [BIG]; omega
    refine .inl ⟨(l ++ [(k, y)], p ++ [a + (n : Int) - 4 - y.length], a + n), ?_, ⟨by (try simp only); omega, by (try simp only); omega, by simp; omega, by simp; omega⟩, by (try simp only); omega, ?_⟩
    · simp -implicitDefEqProofs [b1, k1, hmk, w1, w2, w3, hB1, hB2]
    · simp only [resS, placesF, putFs, List.append_assoc, List.cons_append, List.nil_append, List.length_append, List.drop_drop]
      have hh : headN y.length = (one y.length).length + 1 := rfl
      rw [show (a + (n : Int)).toNat = a.toNat + n by omega, ← i2, show (a + (n : Int) - 4 - y.length) = ((a.toNat + headN y.length : Nat) : Int) by omega, Nat.add_assoc]
theorem s1019 {lc : List Ct} (hl0 : look (lc.map fun c => (c.sig.id, c)) 1019 = some c1019) : ∀ (b : List Int) (hb : ∀ c ∈ b, 0 ≤ c ∧ c < 256) (hl : b.length < 10000000000), Does1 (Phi lc) 1019 [⟨.sl (.int .u8), b⟩] (resS [] [] 0 (scanF b)) :=
  fun b hb hl => by
    have eFc : c1019.F = F1019 := rfl
    have eFh := f1019 b hb hl
    rw [← eFc] at eFh
    exact Does1.of hl0 eFh (by rfl)
end Go.Proofs.YtolcekkcenedjaaGreat.Sx
