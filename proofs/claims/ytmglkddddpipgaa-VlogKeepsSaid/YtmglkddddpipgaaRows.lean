/-
  No cell of these rows narrows 'for every input' (looked for: loops, veiled, ifaces, maps, wideKeys, modest, calm, conditions, laid).
  DERIVED. THE GIVEN ROWS OF THIS SEAT. 4 by the template 'for every input the law returns true; each argument reads behind the call as it read before'; 0 by the template 'total and deterministic' (their statements: YtmglkddddpipgaaTotals.lean).
  GIVEN WITH THE SEED: the statements are not yours to turn. If you find one false, say at which input.
  Laid BY PROGRAM, IN A SANDBOX (cutbox-rows.mjs): the forced cells as the released guide's own fill.sh prints them over the translation 3cd15a010981c50e… (all of the seat's roots in one cut). By AI agents, Wed Nov 11 2026. No macro, syntax, notation, axiom, sorry.
-/
import Derived.Test.YtmglkddddpipgaaChecked
import GoSem.Claim
import GoSem.ClaimJoined
import GoSem.ClaimMapViews
import Derived.JoinedTies
import Derived.KernelRfl
namespace Go.Proofs.Ytmglkddddpipgaa
/- THE CELL 'sum', in the pinned program and in every row, IS THE sha256 OF THE DUMP (.gsa) THAT YtmglkddddpipgaaProg.lean LOADS. Nothing in Lean hashes anything: it is a label: what it is worth is what the hold of that sum in a sandbox is worth. -/
noncomputable def Try.pinned : Pinned := { name := "ytmglkddddpipgaa", sum := "3cd15a010981c50e1463429265afd11f0eccdcbd250cf5ff5e1e39eb6d319514", checked := Try.checked }
namespace Rows
def none {H : Type} : Left H := { results := [], args := [] }

/-- 'garnerlaw20.VlogActs': WHATEVER THE INPUT: true; the input reads as it did. -/
def vlogActsSpec : ChangeSpec := { name := "vlogActs", fn := fun _ => fun
  | [d1, d2] => { results := [.lit (.bool true)], args := [d1, d2] }
  | _ => none }
def vlogActsRow : OpenClaim := { program := "ytmglkddddpipgaa", sum := "3cd15a010981c50e1463429265afd11f0eccdcbd250cf5ff5e1e39eb6d319514", func := "garner/garnerlaw20.VlogActs", spec := "vlogActs", unfollowed := true, recurses := true, apart := false }
def VlogActsSaid : Prop := vlogActsRow.holds Try.pinned (OpenSpec.ofChange vlogActsSpec)

/-- ITS FALSE NEIGHBOUR: 'it returns false'. Refute it at one input. -/
def vlogActsWrong : ChangeSpec := { name := "vlogActs", fn := fun _ => fun
  | [d1, d2] => { results := [.lit (.bool false)], args := [d1, d2] }
  | _ => none }
def VlogActsWrongFalsely : Prop := vlogActsRow.holds Try.pinned (OpenSpec.ofChange vlogActsWrong)

/-- 'garnerlaw08.DiskQuota': WHATEVER THE INPUT: true; the input reads as it did. -/
def diskQuotaSpec : ChangeSpec := { name := "diskQuota", fn := fun _ => fun
  | [d1, d2] => { results := [.lit (.bool true)], args := [d1, d2] }
  | _ => none }
def diskQuotaRow : OpenClaim := { program := "ytmglkddddpipgaa", sum := "3cd15a010981c50e1463429265afd11f0eccdcbd250cf5ff5e1e39eb6d319514", func := "garner/garnerlaw08.DiskQuota", spec := "diskQuota", inPlace := ["maps.clone"], unfollowed := true, recurses := true, apart := false }
def DiskQuotaSaid : Prop := diskQuotaRow.holds Try.pinned (OpenSpec.ofChange diskQuotaSpec)

/-- ITS FALSE NEIGHBOUR: 'it returns false'. Refute it at one input. -/
def diskQuotaWrong : ChangeSpec := { name := "diskQuota", fn := fun _ => fun
  | [d1, d2] => { results := [.lit (.bool false)], args := [d1, d2] }
  | _ => none }
def DiskQuotaWrongFalsely : Prop := diskQuotaRow.holds Try.pinned (OpenSpec.ofChange diskQuotaWrong)

/-- 'garnerlaw08.DiskSafe': WHATEVER THE INPUT: true; the input reads as it did. -/
def diskSafeSpec : ChangeSpec := { name := "diskSafe", fn := fun _ => fun
  | [d1, d2] => { results := [.lit (.bool true)], args := [d1, d2] }
  | _ => none }
def diskSafeRow : OpenClaim := { program := "ytmglkddddpipgaa", sum := "3cd15a010981c50e1463429265afd11f0eccdcbd250cf5ff5e1e39eb6d319514", func := "garner/garnerlaw08.DiskSafe", spec := "diskSafe", inPlace := ["maps.clone"], unfollowed := true, recurses := true, apart := false }
def DiskSafeSaid : Prop := diskSafeRow.holds Try.pinned (OpenSpec.ofChange diskSafeSpec)

/-- ITS FALSE NEIGHBOUR: 'it returns false'. Refute it at one input. -/
def diskSafeWrong : ChangeSpec := { name := "diskSafe", fn := fun _ => fun
  | [d1, d2] => { results := [.lit (.bool false)], args := [d1, d2] }
  | _ => none }
def DiskSafeWrongFalsely : Prop := diskSafeRow.holds Try.pinned (OpenSpec.ofChange diskSafeWrong)

/-- 'garnerlaw20.VlogKeeps': WHATEVER THE INPUT: true; the input reads as it did. -/
def vlogKeepsSpec : ChangeSpec := { name := "vlogKeeps", fn := fun _ => fun
  | [d1, d2, d3] => { results := [.lit (.bool true)], args := [d1, d2, d3] }
  | _ => none }
def vlogKeepsRow : OpenClaim := { program := "ytmglkddddpipgaa", sum := "3cd15a010981c50e1463429265afd11f0eccdcbd250cf5ff5e1e39eb6d319514", func := "garner/garnerlaw20.VlogKeeps", spec := "vlogKeeps", inPlace := ["maps.clone"], unfollowed := true, recurses := true, apart := false }
def VlogKeepsSaid : Prop := vlogKeepsRow.holds Try.pinned (OpenSpec.ofChange vlogKeepsSpec)

/-- ITS FALSE NEIGHBOUR: 'it returns false'. Refute it at one input. -/
def vlogKeepsWrong : ChangeSpec := { name := "vlogKeeps", fn := fun _ => fun
  | [d1, d2, d3] => { results := [.lit (.bool false)], args := [d1, d2, d3] }
  | _ => none }
def VlogKeepsWrongFalsely : Prop := vlogKeepsRow.holds Try.pinned (OpenSpec.ofChange vlogKeepsWrong)

/- THE SECOND FORM. 'bulk': how many values and letters a reading holds, each counted each time it is reached (what is shared counts as often as it is met; a slice's spare places count too). A statement '..UptoSaid' is the law's where the arguments, and the package variables that the reading takes, are together of bulk at most 1048576: NARROWER than '..Said'. Prove '..Said' where nothing that the law and all that it calls make is longer than what came in: it says more and counts as full. Else prove '..UptoSaid'. A law counts once. -/
mutual
def uptoBulk {H : Type} : DataW H → Nat
  | .lit (.string bytes) => bytes.length + 1
  | .lit _ => 1
  | .nil => 1
  | .ptr d => uptoBulk d + 1
  | .slice elems spare => uptoBulkAll elems + uptoBulkAll spare + 1
  | .agg parts => uptoBulkAll parts + 1
  | .iface _ d => uptoBulk d + 1
  | .map entries => uptoBulkEntries entries + 1
  | .held _ => 1
def uptoBulkAll {H : Type} : List (DataW H) → Nat
  | [] => 0
  | d :: r => uptoBulk d + uptoBulkAll r
def uptoBulkEntries {H : Type} : List (Lit × DataW H) → Nat
  | [] => 0
  | x :: r => uptoBulkEntry x + uptoBulkEntries r
def uptoBulkEntry {H : Type} : Lit × DataW H → Nat
  | (.string bytes, d) => bytes.length + uptoBulk d + 1
  | (_, d) => uptoBulk d + 1
 end
def uptoSmall : (H : Type) → List (DataW H) → Bool := fun _ ds => decide (uptoBulkAll ds ≤ 1048576)
def OpenSpec.upto (s : _root_.Go.ChangeSpec) : _root_.Go.OpenSpec := { _root_.Go.OpenSpec.ofChange s with cond := some uptoSmall }

/-- 'garnerlaw20.VlogActs', WHERE WHAT IT READS IS OF BULK AT MOST 1048576: true; the input reads as it did. -/
def vlogActsUptoRow : OpenClaim := { program := "ytmglkddddpipgaa", sum := "3cd15a010981c50e1463429265afd11f0eccdcbd250cf5ff5e1e39eb6d319514", func := "garner/garnerlaw20.VlogActs", spec := "vlogActs", unfollowed := true, recurses := true, apart := false, narrowed := true }
def VlogActsUptoSaid : Prop := vlogActsUptoRow.holds Try.pinned (OpenSpec.upto vlogActsSpec)

/-- 'garnerlaw08.DiskQuota', WHERE WHAT IT READS IS OF BULK AT MOST 1048576: true; the input reads as it did. -/
def diskQuotaUptoRow : OpenClaim := { program := "ytmglkddddpipgaa", sum := "3cd15a010981c50e1463429265afd11f0eccdcbd250cf5ff5e1e39eb6d319514", func := "garner/garnerlaw08.DiskQuota", spec := "diskQuota", inPlace := ["maps.clone"], unfollowed := true, recurses := true, apart := false, narrowed := true }
def DiskQuotaUptoSaid : Prop := diskQuotaUptoRow.holds Try.pinned (OpenSpec.upto diskQuotaSpec)

/-- 'garnerlaw08.DiskSafe', WHERE WHAT IT READS IS OF BULK AT MOST 1048576: true; the input reads as it did. -/
def diskSafeUptoRow : OpenClaim := { program := "ytmglkddddpipgaa", sum := "3cd15a010981c50e1463429265afd11f0eccdcbd250cf5ff5e1e39eb6d319514", func := "garner/garnerlaw08.DiskSafe", spec := "diskSafe", inPlace := ["maps.clone"], unfollowed := true, recurses := true, apart := false, narrowed := true }
def DiskSafeUptoSaid : Prop := diskSafeUptoRow.holds Try.pinned (OpenSpec.upto diskSafeSpec)

/-- 'garnerlaw20.VlogKeeps', WHERE WHAT IT READS IS OF BULK AT MOST 1048576: true; the input reads as it did. -/
def vlogKeepsUptoRow : OpenClaim := { program := "ytmglkddddpipgaa", sum := "3cd15a010981c50e1463429265afd11f0eccdcbd250cf5ff5e1e39eb6d319514", func := "garner/garnerlaw20.VlogKeeps", spec := "vlogKeeps", inPlace := ["maps.clone"], unfollowed := true, recurses := true, apart := false, narrowed := true }
def VlogKeepsUptoSaid : Prop := vlogKeepsUptoRow.holds Try.pinned (OpenSpec.upto vlogKeepsSpec)

end Rows
end Go.Proofs.Ytmglkddddpipgaa
