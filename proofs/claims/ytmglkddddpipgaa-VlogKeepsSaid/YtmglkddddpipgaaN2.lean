/-
  Cells that are read.
-/
import Derived.Test.YtmglkddddpipgaaN1
set_option linter.unusedVariables false
set_option linter.unusedSimpArgs false
namespace Go.Proofs.Ytmglkddddpipgaa.Sx

structure Stop (x : List Int) (n : Nat) : Prop where
  pos : 1 ≤ n
  le : n ≤ x.length
  big : ∀ j c, j + 1 < n → x[j]? = some c → 128 ≤ c
  small : ∀ c, x[n - 1]? = some c → c < 128

end Go.Proofs.Ytmglkddddpipgaa.Sx

namespace Go.Proofs.Ytmglkddddpipgaa.Sx

theorem or_pow32 (x y : Int) (k : Nat) (h0 : 0 ≤ x) (h1 : x < 2 ^ k) (h2 : 0 ≤ y) (h3 : x + y * 2 ^ k < 4294967296) : bOr .u32 x (IntKind.u32.wrap (y * 2 ^ k)) = x + y * 2 ^ k := by
  obtain ⟨a, rfl⟩ := Int.eq_ofNat_of_zero_le h0; obtain ⟨b, rfl⟩ := Int.eq_ofNat_of_zero_le h2; have hy : (0 : Int) ≤ (b : Int) * 2 ^ k := Int.mul_nonneg (by omega) (Int.le_of_lt (Int.pow_pos (by omega)))
  have e1 : ((b : Int) * 2 ^ k) = ((b * 2 ^ k : Nat) : Int) := by push_cast; rfl
  have ha : a < 2 ^ k := by
    have : ((a : Int)) < ((2 ^ k : Nat) : Int) := by push_cast; exact h1
    omega
  rw [wu32 _ hy (by omega)]; rw [e1] at h3 ⊢; unfold bOr; rw [BitVec.toNat_or, ofInt_nat, ofInt_nat]; show IntKind.u32.wrap ((a % 4294967296 ||| b * 2 ^ k % 4294967296 : Nat) : Int) = _
  rw [Nat.mod_eq_of_lt (by omega), Nat.mod_eq_of_lt (by omega), Nat.or_comm, Nat.mul_comm b, ← Nat.two_pow_add_eq_or_of_lt ha]; rw [wu32 _ (by omega) (by rw [Nat.mul_comm] at h3; omega)]
  push_cast
  omega
def sumv : List Int → Int
  | a :: b :: c :: d :: _ => a + b * 256 + c * 65536 + d * 16777216
  | _ => 0
theorem four {l : List Int} (h : 4 ≤ l.length) : ∃ a b c d r, l = a :: b :: c :: d :: r := by
  match l, h with
  | a :: b :: c :: d :: r, _ => exact ⟨a, b, c, d, r, rfl⟩
end Go.Proofs.Ytmglkddddpipgaa.Sx

namespace Go.Proofs.Ytmglkddddpipgaa.Sx

end Go.Proofs.Ytmglkddddpipgaa.Sx

namespace Go.Proofs.Ytmglkddddpipgaa.Sx

theorem gv_one (v : Nat) (r : List Int) (h : v < 18446744073709551616) : gvV (one v ++ r) = v ∧ gvN (one v ++ r) = (one v).length := gv_some (getv_one v r h)

end Go.Proofs.Ytmglkddddpipgaa.Sx

namespace Go.Proofs.Ytmglkddddpipgaa.Sx

end Go.Proofs.Ytmglkddddpipgaa.Sx

namespace Go.Proofs.Ytmglkddddpipgaa.Sx

abbrev It : Type := List Int × Bool × Bool × List Int × Int × Int × Int × Int

theorem getG {α : Type} {l : List α} {i : Int} {d : α} (h0 : 0 ≤ i) (h1 : i < l.length) : l[i.toNat]?.getD d = l[i.toNat]'(by omega) := by
  rw [List.getElem?_eq_getElem (by omega)]; rfl

end Go.Proofs.Ytmglkddddpipgaa.Sx

namespace Go.Proofs.Ytmglkddddpipgaa.Sx

end Go.Proofs.Ytmglkddddpipgaa.Sx

namespace Go.Proofs.Ytmglkddddpipgaa.Sx
end Go.Proofs.Ytmglkddddpipgaa.Sx

namespace Go.Proofs.Ytmglkddddpipgaa.Sx

abbrev two : List It := [([97, 98], true, false, [], 0, 0, 0, 0), ([97, 99], true, false, [], 0, 0, 0, 0)]
end Go.Proofs.Ytmglkddddpipgaa.Sx

namespace Go.Proofs.Ytmglkddddpipgaa.Sx

end Go.Proofs.Ytmglkddddpipgaa.Sx

namespace Go.Proofs.Ytmglkddddpipgaa.Sx

end Go.Proofs.Ytmglkddddpipgaa.Sx

namespace Go.Proofs.Ytmglkddddpipgaa.Sx

end Go.Proofs.Ytmglkddddpipgaa.Sx

namespace Go.Proofs.Ytmglkddddpipgaa.Sx

theorem gv_inv {b : List Int} (hb : ∀ c ∈ b, 0 ≤ c ∧ c < 256) (h : gvN b ≠ 0) : b.take (gvN b) = one (gvV b).toNat ∧ gvN b = (one (gvV b).toNat).length := by
  cases hg : getv b with
  | none => exact absurd (gv_none hg).2 h
  | some y =>
    obtain ⟨v, n⟩ := y; obtain ⟨h1, h2⟩ := gv_some hg; obtain ⟨k1, k2, k3, _⟩ := getv_inv hb hg; rw [h1, h2, Int.toNat_natCast]; exact ⟨k2, k3⟩

end Go.Proofs.Ytmglkddddpipgaa.Sx

namespace Go.Proofs.Ytmglkddddpipgaa.Sx

end Go.Proofs.Ytmglkddddpipgaa.Sx

namespace Go.Proofs.Ytmglkddddpipgaa.Sx

end Go.Proofs.Ytmglkddddpipgaa.Sx
