/-
  No cell of these rows narrows 'for every input' (looked for: loops, veiled, ifaces, maps, wideKeys, modest, calm, conditions, laid).
  DERIVED. THE GIVEN ROWS OF THIS SEAT. 7 by the template 'for every input the law returns true; each argument reads behind the call as it read before'; 0 by the template 'total and deterministic' (their statements: YtfmadiepefbepaaTotals.lean).
  GIVEN WITH THE SEED: the statements are not yours to turn. If you find one false, say at which input.
  Laid BY PROGRAM, IN A SANDBOX (cutbox-rows.mjs): the forced cells as the released guide's own fill.sh prints them over the translation 30a10c82d64cda0a… (all of the seat's roots in one cut). By AI agents, Wed Nov 11 2026. No macro, syntax, notation, axiom, sorry.
-/
import Derived.Test.YtfmadiepefbepaaChecked
import GoSem.Claim
import GoSem.ClaimJoined
import GoSem.ClaimMapViews
import Derived.JoinedTies
import Derived.KernelRfl
namespace Go.Proofs.Ytfmadiepefbepaa
/- THE CELL 'sum', in the pinned program and in every row, IS THE sha256 OF THE DUMP (.gsa) THAT YtfmadiepefbepaaProg.lean LOADS. Nothing in Lean hashes anything: it is a label: what it is worth is what the hold of that sum in a sandbox is worth. -/
noncomputable def Try.pinned : Pinned := { name := "ytfmadiepefbepaa", sum := "30a10c82d64cda0a9b2e92a0386f7744e1e77209f1f1285a713b8c84f62ce6b6", checked := Try.checked }
namespace Rows
def none {H : Type} : Left H := { results := [], args := [] }

/-- 'watchwordlaw02.ModularPrimes': WHATEVER THE INPUT: true; the input reads as it did. -/
def modularPrimesSpec : ChangeSpec := { name := "modularPrimes", fn := fun _ => fun
  | [d1, d2] => { results := [.lit (.bool true)], args := [d1, d2] }
  | _ => none }
def modularPrimesRow : OpenClaim := { program := "ytfmadiepefbepaa", sum := "30a10c82d64cda0a9b2e92a0386f7744e1e77209f1f1285a713b8c84f62ce6b6", func := "watchword/watchwordlaw02.ModularPrimes", spec := "modularPrimes", unfollowed := true, recurses := true, apart := false }
def ModularPrimesSaid : Prop := modularPrimesRow.holds Try.pinned (OpenSpec.ofChange modularPrimesSpec)

/-- ITS FALSE NEIGHBOUR: 'it returns false'. Refute it at one input. -/
def modularPrimesWrong : ChangeSpec := { name := "modularPrimes", fn := fun _ => fun
  | [d1, d2] => { results := [.lit (.bool false)], args := [d1, d2] }
  | _ => none }
def ModularPrimesWrongFalsely : Prop := modularPrimesRow.holds Try.pinned (OpenSpec.ofChange modularPrimesWrong)

/-- 'watchwordlaw02.ModularHolds': WHATEVER THE INPUT: true; the input reads as it did. -/
def modularHoldsSpec : ChangeSpec := { name := "modularHolds", fn := fun _ => fun
  | [d1, d2, d3, d4, d5, d6] => { results := [.lit (.bool true)], args := [d1, d2, d3, d4, d5, d6] }
  | _ => none }
def modularHoldsRow : OpenClaim := { program := "ytfmadiepefbepaa", sum := "30a10c82d64cda0a9b2e92a0386f7744e1e77209f1f1285a713b8c84f62ce6b6", func := "watchword/watchwordlaw02.ModularHolds", spec := "modularHolds", unfollowed := true, recurses := true, apart := false }
def ModularHoldsSaid : Prop := modularHoldsRow.holds Try.pinned (OpenSpec.ofChange modularHoldsSpec)

/-- ITS FALSE NEIGHBOUR: 'it returns false'. Refute it at one input. -/
def modularHoldsWrong : ChangeSpec := { name := "modularHolds", fn := fun _ => fun
  | [d1, d2, d3, d4, d5, d6] => { results := [.lit (.bool false)], args := [d1, d2, d3, d4, d5, d6] }
  | _ => none }
def ModularHoldsWrongFalsely : Prop := modularHoldsRow.holds Try.pinned (OpenSpec.ofChange modularHoldsWrong)

/-- 'watchwordlaw02.ModularProducts': WHATEVER THE INPUT: true; the input reads as it did. -/
def modularProductsSpec : ChangeSpec := { name := "modularProducts", fn := fun _ => fun
  | [d1, d2, d3] => { results := [.lit (.bool true)], args := [d1, d2, d3] }
  | _ => none }
def modularProductsRow : OpenClaim := { program := "ytfmadiepefbepaa", sum := "30a10c82d64cda0a9b2e92a0386f7744e1e77209f1f1285a713b8c84f62ce6b6", func := "watchword/watchwordlaw02.ModularProducts", spec := "modularProducts", unfollowed := true, recurses := true, apart := false }
def ModularProductsSaid : Prop := modularProductsRow.holds Try.pinned (OpenSpec.ofChange modularProductsSpec)

/-- ITS FALSE NEIGHBOUR: 'it returns false'. Refute it at one input. -/
def modularProductsWrong : ChangeSpec := { name := "modularProducts", fn := fun _ => fun
  | [d1, d2, d3] => { results := [.lit (.bool false)], args := [d1, d2, d3] }
  | _ => none }
def ModularProductsWrongFalsely : Prop := modularProductsRow.holds Try.pinned (OpenSpec.ofChange modularProductsWrong)

/-- 'watchwordlaw02.ModularPowers': WHATEVER THE INPUT: true; the input reads as it did. -/
def modularPowersSpec : ChangeSpec := { name := "modularPowers", fn := fun _ => fun
  | [d1, d2, d3] => { results := [.lit (.bool true)], args := [d1, d2, d3] }
  | _ => none }
def modularPowersRow : OpenClaim := { program := "ytfmadiepefbepaa", sum := "30a10c82d64cda0a9b2e92a0386f7744e1e77209f1f1285a713b8c84f62ce6b6", func := "watchword/watchwordlaw02.ModularPowers", spec := "modularPowers", unfollowed := true, recurses := true, apart := false }
def ModularPowersSaid : Prop := modularPowersRow.holds Try.pinned (OpenSpec.ofChange modularPowersSpec)

/-- ITS FALSE NEIGHBOUR: 'it returns false'. Refute it at one input. -/
def modularPowersWrong : ChangeSpec := { name := "modularPowers", fn := fun _ => fun
  | [d1, d2, d3] => { results := [.lit (.bool false)], args := [d1, d2, d3] }
  | _ => none }
def ModularPowersWrongFalsely : Prop := modularPowersRow.holds Try.pinned (OpenSpec.ofChange modularPowersWrong)

/-- 'watchwordlaw02.ModularInverses': WHATEVER THE INPUT: true; the input reads as it did. -/
def modularInversesSpec : ChangeSpec := { name := "modularInverses", fn := fun _ => fun
  | [d1, d2] => { results := [.lit (.bool true)], args := [d1, d2] }
  | _ => none }
def modularInversesRow : OpenClaim := { program := "ytfmadiepefbepaa", sum := "30a10c82d64cda0a9b2e92a0386f7744e1e77209f1f1285a713b8c84f62ce6b6", func := "watchword/watchwordlaw02.ModularInverses", spec := "modularInverses", unfollowed := true, recurses := true, apart := false }
def ModularInversesSaid : Prop := modularInversesRow.holds Try.pinned (OpenSpec.ofChange modularInversesSpec)

/-- ITS FALSE NEIGHBOUR: 'it returns false'. Refute it at one input. -/
def modularInversesWrong : ChangeSpec := { name := "modularInverses", fn := fun _ => fun
  | [d1, d2] => { results := [.lit (.bool false)], args := [d1, d2] }
  | _ => none }
def ModularInversesWrongFalsely : Prop := modularInversesRow.holds Try.pinned (OpenSpec.ofChange modularInversesWrong)

/-- 'watchwordlaw02.ModularFermat': WHATEVER THE INPUT: true; the input reads as it did. -/
def modularFermatSpec : ChangeSpec := { name := "modularFermat", fn := fun _ => fun
  | [d1, d2, d3] => { results := [.lit (.bool true)], args := [d1, d2, d3] }
  | _ => none }
def modularFermatRow : OpenClaim := { program := "ytfmadiepefbepaa", sum := "30a10c82d64cda0a9b2e92a0386f7744e1e77209f1f1285a713b8c84f62ce6b6", func := "watchword/watchwordlaw02.ModularFermat", spec := "modularFermat", unfollowed := true, recurses := true, apart := false }
def ModularFermatSaid : Prop := modularFermatRow.holds Try.pinned (OpenSpec.ofChange modularFermatSpec)

/-- ITS FALSE NEIGHBOUR: 'it returns false'. Refute it at one input. -/
def modularFermatWrong : ChangeSpec := { name := "modularFermat", fn := fun _ => fun
  | [d1, d2, d3] => { results := [.lit (.bool false)], args := [d1, d2, d3] }
  | _ => none }
def ModularFermatWrongFalsely : Prop := modularFermatRow.holds Try.pinned (OpenSpec.ofChange modularFermatWrong)

/-- 'watchwordlaw02.ModularSums': WHATEVER THE INPUT: true; the input reads as it did. -/
def modularSumsSpec : ChangeSpec := { name := "modularSums", fn := fun _ => fun
  | [d1, d2, d3] => { results := [.lit (.bool true)], args := [d1, d2, d3] }
  | _ => none }
def modularSumsRow : OpenClaim := { program := "ytfmadiepefbepaa", sum := "30a10c82d64cda0a9b2e92a0386f7744e1e77209f1f1285a713b8c84f62ce6b6", func := "watchword/watchwordlaw02.ModularSums", spec := "modularSums", unfollowed := true, recurses := true, apart := false }
def ModularSumsSaid : Prop := modularSumsRow.holds Try.pinned (OpenSpec.ofChange modularSumsSpec)

/-- ITS FALSE NEIGHBOUR: 'it returns false'. Refute it at one input. -/
def modularSumsWrong : ChangeSpec := { name := "modularSums", fn := fun _ => fun
  | [d1, d2, d3] => { results := [.lit (.bool false)], args := [d1, d2, d3] }
  | _ => none }
def ModularSumsWrongFalsely : Prop := modularSumsRow.holds Try.pinned (OpenSpec.ofChange modularSumsWrong)

/- THE SECOND FORM. 'bulk': how many values and letters a reading holds, each counted each time it is reached (what is shared counts as often as it is met; a slice's spare places count too). A statement '..UptoSaid' is the law's where the arguments, and the package variables that the reading takes, are together of bulk at most 1048576: NARROWER than '..Said'. Prove '..Said' where nothing that the law and all that it calls make is longer than what came in: it says more and counts as full. Else prove '..UptoSaid'. A law counts once. -/
mutual
def uptoBulk {H : Type} : DataW H → Nat
  | .lit (.string bytes) => bytes.length + 1
  | .lit _ => 1
  | .nil => 1
  | .ptr d => uptoBulk d + 1
  | .slice elems spare => uptoBulkAll elems + uptoBulkAll spare + 1
  | .agg parts => uptoBulkAll parts + 1
  | .iface _ d => uptoBulk d + 1
  | .map entries => uptoBulkEntries entries + 1
  | .held _ => 1
def uptoBulkAll {H : Type} : List (DataW H) → Nat
  | [] => 0
  | d :: r => uptoBulk d + uptoBulkAll r
def uptoBulkEntries {H : Type} : List (Lit × DataW H) → Nat
  | [] => 0
  | x :: r => uptoBulkEntry x + uptoBulkEntries r
def uptoBulkEntry {H : Type} : Lit × DataW H → Nat
  | (.string bytes, d) => bytes.length + uptoBulk d + 1
  | (_, d) => uptoBulk d + 1
 end
def uptoSmall : (H : Type) → List (DataW H) → Bool := fun _ ds => decide (uptoBulkAll ds ≤ 1048576)
def OpenSpec.upto (s : _root_.Go.ChangeSpec) : _root_.Go.OpenSpec := { _root_.Go.OpenSpec.ofChange s with cond := some uptoSmall }

/-- 'watchwordlaw02.ModularPrimes', WHERE WHAT IT READS IS OF BULK AT MOST 1048576: true; the input reads as it did. -/
def modularPrimesUptoRow : OpenClaim := { program := "ytfmadiepefbepaa", sum := "30a10c82d64cda0a9b2e92a0386f7744e1e77209f1f1285a713b8c84f62ce6b6", func := "watchword/watchwordlaw02.ModularPrimes", spec := "modularPrimes", unfollowed := true, recurses := true, apart := false, narrowed := true }
def ModularPrimesUptoSaid : Prop := modularPrimesUptoRow.holds Try.pinned (OpenSpec.upto modularPrimesSpec)

/-- 'watchwordlaw02.ModularHolds', WHERE WHAT IT READS IS OF BULK AT MOST 1048576: true; the input reads as it did. -/
def modularHoldsUptoRow : OpenClaim := { program := "ytfmadiepefbepaa", sum := "30a10c82d64cda0a9b2e92a0386f7744e1e77209f1f1285a713b8c84f62ce6b6", func := "watchword/watchwordlaw02.ModularHolds", spec := "modularHolds", unfollowed := true, recurses := true, apart := false, narrowed := true }
def ModularHoldsUptoSaid : Prop := modularHoldsUptoRow.holds Try.pinned (OpenSpec.upto modularHoldsSpec)

/-- 'watchwordlaw02.ModularProducts', WHERE WHAT IT READS IS OF BULK AT MOST 1048576: true; the input reads as it did. -/
def modularProductsUptoRow : OpenClaim := { program := "ytfmadiepefbepaa", sum := "30a10c82d64cda0a9b2e92a0386f7744e1e77209f1f1285a713b8c84f62ce6b6", func := "watchword/watchwordlaw02.ModularProducts", spec := "modularProducts", unfollowed := true, recurses := true, apart := false, narrowed := true }
def ModularProductsUptoSaid : Prop := modularProductsUptoRow.holds Try.pinned (OpenSpec.upto modularProductsSpec)

/-- 'watchwordlaw02.ModularPowers', WHERE WHAT IT READS IS OF BULK AT MOST 1048576: true; the input reads as it did. -/
def modularPowersUptoRow : OpenClaim := { program := "ytfmadiepefbepaa", sum := "30a10c82d64cda0a9b2e92a0386f7744e1e77209f1f1285a713b8c84f62ce6b6", func := "watchword/watchwordlaw02.ModularPowers", spec := "modularPowers", unfollowed := true, recurses := true, apart := false, narrowed := true }
def ModularPowersUptoSaid : Prop := modularPowersUptoRow.holds Try.pinned (OpenSpec.upto modularPowersSpec)

/-- 'watchwordlaw02.ModularInverses', WHERE WHAT IT READS IS OF BULK AT MOST 1048576: true; the input reads as it did. -/
def modularInversesUptoRow : OpenClaim := { program := "ytfmadiepefbepaa", sum := "30a10c82d64cda0a9b2e92a0386f7744e1e77209f1f1285a713b8c84f62ce6b6", func := "watchword/watchwordlaw02.ModularInverses", spec := "modularInverses", unfollowed := true, recurses := true, apart := false, narrowed := true }
def ModularInversesUptoSaid : Prop := modularInversesUptoRow.holds Try.pinned (OpenSpec.upto modularInversesSpec)

/-- 'watchwordlaw02.ModularFermat', WHERE WHAT IT READS IS OF BULK AT MOST 1048576: true; the input reads as it did. -/
def modularFermatUptoRow : OpenClaim := { program := "ytfmadiepefbepaa", sum := "30a10c82d64cda0a9b2e92a0386f7744e1e77209f1f1285a713b8c84f62ce6b6", func := "watchword/watchwordlaw02.ModularFermat", spec := "modularFermat", unfollowed := true, recurses := true, apart := false, narrowed := true }
def ModularFermatUptoSaid : Prop := modularFermatUptoRow.holds Try.pinned (OpenSpec.upto modularFermatSpec)

/-- 'watchwordlaw02.ModularSums', WHERE WHAT IT READS IS OF BULK AT MOST 1048576: true; the input reads as it did. -/
def modularSumsUptoRow : OpenClaim := { program := "ytfmadiepefbepaa", sum := "30a10c82d64cda0a9b2e92a0386f7744e1e77209f1f1285a713b8c84f62ce6b6", func := "watchword/watchwordlaw02.ModularSums", spec := "modularSums", unfollowed := true, recurses := true, apart := false, narrowed := true }
def ModularSumsUptoSaid : Prop := modularSumsUptoRow.holds Try.pinned (OpenSpec.upto modularSumsSpec)

end Rows
end Go.Proofs.Ytfmadiepefbepaa
