/-
  No cell of these rows narrows 'for every input' (looked for: loops, veiled, ifaces, maps, wideKeys, modest, calm, conditions, laid).
  DERIVED. THE GIVEN ROWS OF THIS SEAT. 8 by the template 'for every input the law returns true; each argument reads behind the call as it read before'; 0 by the template 'total and deterministic' (their statements: YtomiapceefbmeaaTotals.lean).
  GIVEN WITH THE SEED: the statements are not yours to turn. If you find one false, say at which input.
  Laid BY PROGRAM, IN A SANDBOX (cutbox-rows.mjs): the forced cells as the released guide's own fill.sh prints them over the translation 7d15f7b9313c4163… (all of the seat's roots in one cut). By AI agents, Wed Nov 11 2026. No macro, syntax, notation, axiom, sorry.
-/
import Derived.Test.YtomiapceefbmeaaChecked
import GoSem.Claim
import GoSem.ClaimJoined
import GoSem.ClaimMapViews
import Derived.JoinedTies
import Derived.KernelRfl
namespace Go.Proofs.Ytomiapceefbmeaa
/- THE CELL 'sum', in the pinned program and in every row, IS THE sha256 OF THE DUMP (.gsa) THAT YtomiapceefbmeaaProg.lean LOADS. Nothing in Lean hashes anything: it is a label: what it is worth is what the hold of that sum in a sandbox is worth. -/
noncomputable def Try.pinned : Pinned := { name := "ytomiapceefbmeaa", sum := "7d15f7b9313c41639308eeed7616c0d3ada3ad08bb0a5e4211967db3cdcfa78a", checked := Try.checked }
namespace Rows
def none {H : Type} : Left H := { results := [], args := [] }

/-- 'watchwordlaw01.NatReads': WHATEVER THE INPUT: true; the input reads as it did. -/
def natReadsSpec : ChangeSpec := { name := "natReads", fn := fun _ => fun
  | [d1, d2] => { results := [.lit (.bool true)], args := [d1, d2] }
  | _ => none }
def natReadsRow : OpenClaim := { program := "ytomiapceefbmeaa", sum := "7d15f7b9313c41639308eeed7616c0d3ada3ad08bb0a5e4211967db3cdcfa78a", func := "watchword/watchwordlaw01.NatReads", spec := "natReads", unfollowed := true, recurses := true, apart := false }
def NatReadsSaid : Prop := natReadsRow.holds Try.pinned (OpenSpec.ofChange natReadsSpec)

/-- ITS FALSE NEIGHBOUR: 'it returns false'. Refute it at one input. -/
def natReadsWrong : ChangeSpec := { name := "natReads", fn := fun _ => fun
  | [d1, d2] => { results := [.lit (.bool false)], args := [d1, d2] }
  | _ => none }
def NatReadsWrongFalsely : Prop := natReadsRow.holds Try.pinned (OpenSpec.ofChange natReadsWrong)

/-- 'watchwordlaw01.NatInts': WHATEVER THE INPUT: true; the input reads as it did. -/
def natIntsSpec : ChangeSpec := { name := "natInts", fn := fun _ => fun
  | [d1, d2] => { results := [.lit (.bool true)], args := [d1, d2] }
  | _ => none }
def natIntsRow : OpenClaim := { program := "ytomiapceefbmeaa", sum := "7d15f7b9313c41639308eeed7616c0d3ada3ad08bb0a5e4211967db3cdcfa78a", func := "watchword/watchwordlaw01.NatInts", spec := "natInts", unfollowed := true, recurses := true, apart := false }
def NatIntsSaid : Prop := natIntsRow.holds Try.pinned (OpenSpec.ofChange natIntsSpec)

/-- ITS FALSE NEIGHBOUR: 'it returns false'. Refute it at one input. -/
def natIntsWrong : ChangeSpec := { name := "natInts", fn := fun _ => fun
  | [d1, d2] => { results := [.lit (.bool false)], args := [d1, d2] }
  | _ => none }
def NatIntsWrongFalsely : Prop := natIntsRow.holds Try.pinned (OpenSpec.ofChange natIntsWrong)

/-- 'watchwordlaw01.NatBits': WHATEVER THE INPUT: true; the input reads as it did. -/
def natBitsSpec : ChangeSpec := { name := "natBits", fn := fun _ => fun
  | [d1, d2, d3] => { results := [.lit (.bool true)], args := [d1, d2, d3] }
  | _ => none }
def natBitsRow : OpenClaim := { program := "ytomiapceefbmeaa", sum := "7d15f7b9313c41639308eeed7616c0d3ada3ad08bb0a5e4211967db3cdcfa78a", func := "watchword/watchwordlaw01.NatBits", spec := "natBits", unfollowed := true, recurses := true, apart := false }
def NatBitsSaid : Prop := natBitsRow.holds Try.pinned (OpenSpec.ofChange natBitsSpec)

/-- ITS FALSE NEIGHBOUR: 'it returns false'. Refute it at one input. -/
def natBitsWrong : ChangeSpec := { name := "natBits", fn := fun _ => fun
  | [d1, d2, d3] => { results := [.lit (.bool false)], args := [d1, d2, d3] }
  | _ => none }
def NatBitsWrongFalsely : Prop := natBitsRow.holds Try.pinned (OpenSpec.ofChange natBitsWrong)

/-- 'watchwordlaw01.NatDivides': WHATEVER THE INPUT: true; the input reads as it did. -/
def natDividesSpec : ChangeSpec := { name := "natDivides", fn := fun _ => fun
  | [d1, d2] => { results := [.lit (.bool true)], args := [d1, d2] }
  | _ => none }
def natDividesRow : OpenClaim := { program := "ytomiapceefbmeaa", sum := "7d15f7b9313c41639308eeed7616c0d3ada3ad08bb0a5e4211967db3cdcfa78a", func := "watchword/watchwordlaw01.NatDivides", spec := "natDivides", unfollowed := true, recurses := true, apart := false }
def NatDividesSaid : Prop := natDividesRow.holds Try.pinned (OpenSpec.ofChange natDividesSpec)

/-- ITS FALSE NEIGHBOUR: 'it returns false'. Refute it at one input. -/
def natDividesWrong : ChangeSpec := { name := "natDivides", fn := fun _ => fun
  | [d1, d2] => { results := [.lit (.bool false)], args := [d1, d2] }
  | _ => none }
def NatDividesWrongFalsely : Prop := natDividesRow.holds Try.pinned (OpenSpec.ofChange natDividesWrong)

/-- 'watchwordlaw01.NatSums': WHATEVER THE INPUT: true; the input reads as it did. -/
def natSumsSpec : ChangeSpec := { name := "natSums", fn := fun _ => fun
  | [d1, d2] => { results := [.lit (.bool true)], args := [d1, d2] }
  | _ => none }
def natSumsRow : OpenClaim := { program := "ytomiapceefbmeaa", sum := "7d15f7b9313c41639308eeed7616c0d3ada3ad08bb0a5e4211967db3cdcfa78a", func := "watchword/watchwordlaw01.NatSums", spec := "natSums", unfollowed := true, recurses := true, apart := false }
def NatSumsSaid : Prop := natSumsRow.holds Try.pinned (OpenSpec.ofChange natSumsSpec)

/-- ITS FALSE NEIGHBOUR: 'it returns false'. Refute it at one input. -/
def natSumsWrong : ChangeSpec := { name := "natSums", fn := fun _ => fun
  | [d1, d2] => { results := [.lit (.bool false)], args := [d1, d2] }
  | _ => none }
def NatSumsWrongFalsely : Prop := natSumsRow.holds Try.pinned (OpenSpec.ofChange natSumsWrong)

/-- 'watchwordlaw01.NatShifts': WHATEVER THE INPUT: true; the input reads as it did. -/
def natShiftsSpec : ChangeSpec := { name := "natShifts", fn := fun _ => fun
  | [d1, d2] => { results := [.lit (.bool true)], args := [d1, d2] }
  | _ => none }
def natShiftsRow : OpenClaim := { program := "ytomiapceefbmeaa", sum := "7d15f7b9313c41639308eeed7616c0d3ada3ad08bb0a5e4211967db3cdcfa78a", func := "watchword/watchwordlaw01.NatShifts", spec := "natShifts", unfollowed := true, recurses := true, apart := false }
def NatShiftsSaid : Prop := natShiftsRow.holds Try.pinned (OpenSpec.ofChange natShiftsSpec)

/-- ITS FALSE NEIGHBOUR: 'it returns false'. Refute it at one input. -/
def natShiftsWrong : ChangeSpec := { name := "natShifts", fn := fun _ => fun
  | [d1, d2] => { results := [.lit (.bool false)], args := [d1, d2] }
  | _ => none }
def NatShiftsWrongFalsely : Prop := natShiftsRow.holds Try.pinned (OpenSpec.ofChange natShiftsWrong)

/-- 'watchwordlaw01.NatProducts': WHATEVER THE INPUT: true; the input reads as it did. -/
def natProductsSpec : ChangeSpec := { name := "natProducts", fn := fun _ => fun
  | [d1, d2] => { results := [.lit (.bool true)], args := [d1, d2] }
  | _ => none }
def natProductsRow : OpenClaim := { program := "ytomiapceefbmeaa", sum := "7d15f7b9313c41639308eeed7616c0d3ada3ad08bb0a5e4211967db3cdcfa78a", func := "watchword/watchwordlaw01.NatProducts", spec := "natProducts", unfollowed := true, recurses := true, apart := false }
def NatProductsSaid : Prop := natProductsRow.holds Try.pinned (OpenSpec.ofChange natProductsSpec)

/-- ITS FALSE NEIGHBOUR: 'it returns false'. Refute it at one input. -/
def natProductsWrong : ChangeSpec := { name := "natProducts", fn := fun _ => fun
  | [d1, d2] => { results := [.lit (.bool false)], args := [d1, d2] }
  | _ => none }
def NatProductsWrongFalsely : Prop := natProductsRow.holds Try.pinned (OpenSpec.ofChange natProductsWrong)

/-- 'watchwordlaw01.NatHolds': WHATEVER THE INPUT: true; the input reads as it did. -/
def natHoldsSpec : ChangeSpec := { name := "natHolds", fn := fun _ => fun
  | [d1, d2, d3] => { results := [.lit (.bool true)], args := [d1, d2, d3] }
  | _ => none }
def natHoldsRow : OpenClaim := { program := "ytomiapceefbmeaa", sum := "7d15f7b9313c41639308eeed7616c0d3ada3ad08bb0a5e4211967db3cdcfa78a", func := "watchword/watchwordlaw01.NatHolds", spec := "natHolds", unfollowed := true, recurses := true, apart := false }
def NatHoldsSaid : Prop := natHoldsRow.holds Try.pinned (OpenSpec.ofChange natHoldsSpec)

/-- ITS FALSE NEIGHBOUR: 'it returns false'. Refute it at one input. -/
def natHoldsWrong : ChangeSpec := { name := "natHolds", fn := fun _ => fun
  | [d1, d2, d3] => { results := [.lit (.bool false)], args := [d1, d2, d3] }
  | _ => none }
def NatHoldsWrongFalsely : Prop := natHoldsRow.holds Try.pinned (OpenSpec.ofChange natHoldsWrong)

/- THE SECOND FORM. 'bulk': how many values and letters a reading holds, each counted each time it is reached (what is shared counts as often as it is met; a slice's spare places count too). A statement '..UptoSaid' is the law's where the arguments, and the package variables that the reading takes, are together of bulk at most 1048576: NARROWER than '..Said'. Prove '..Said' where nothing that the law and all that it calls make is longer than what came in: it says more and counts as full. Else prove '..UptoSaid'. A law counts once. -/
mutual
def uptoBulk {H : Type} : DataW H → Nat
  | .lit (.string bytes) => bytes.length + 1
  | .lit _ => 1
  | .nil => 1
  | .ptr d => uptoBulk d + 1
  | .slice elems spare => uptoBulkAll elems + uptoBulkAll spare + 1
  | .agg parts => uptoBulkAll parts + 1
  | .iface _ d => uptoBulk d + 1
  | .map entries => uptoBulkEntries entries + 1
  | .held _ => 1
def uptoBulkAll {H : Type} : List (DataW H) → Nat
  | [] => 0
  | d :: r => uptoBulk d + uptoBulkAll r
def uptoBulkEntries {H : Type} : List (Lit × DataW H) → Nat
  | [] => 0
  | x :: r => uptoBulkEntry x + uptoBulkEntries r
def uptoBulkEntry {H : Type} : Lit × DataW H → Nat
  | (.string bytes, d) => bytes.length + uptoBulk d + 1
  | (_, d) => uptoBulk d + 1
 end
def uptoSmall : (H : Type) → List (DataW H) → Bool := fun _ ds => decide (uptoBulkAll ds ≤ 1048576)
def OpenSpec.upto (s : _root_.Go.ChangeSpec) : _root_.Go.OpenSpec := { _root_.Go.OpenSpec.ofChange s with cond := some uptoSmall }

/-- 'watchwordlaw01.NatReads', WHERE WHAT IT READS IS OF BULK AT MOST 1048576: true; the input reads as it did. -/
def natReadsUptoRow : OpenClaim := { program := "ytomiapceefbmeaa", sum := "7d15f7b9313c41639308eeed7616c0d3ada3ad08bb0a5e4211967db3cdcfa78a", func := "watchword/watchwordlaw01.NatReads", spec := "natReads", unfollowed := true, recurses := true, apart := false, narrowed := true }
def NatReadsUptoSaid : Prop := natReadsUptoRow.holds Try.pinned (OpenSpec.upto natReadsSpec)

/-- 'watchwordlaw01.NatInts', WHERE WHAT IT READS IS OF BULK AT MOST 1048576: true; the input reads as it did. -/
def natIntsUptoRow : OpenClaim := { program := "ytomiapceefbmeaa", sum := "7d15f7b9313c41639308eeed7616c0d3ada3ad08bb0a5e4211967db3cdcfa78a", func := "watchword/watchwordlaw01.NatInts", spec := "natInts", unfollowed := true, recurses := true, apart := false, narrowed := true }
def NatIntsUptoSaid : Prop := natIntsUptoRow.holds Try.pinned (OpenSpec.upto natIntsSpec)

/-- 'watchwordlaw01.NatBits', WHERE WHAT IT READS IS OF BULK AT MOST 1048576: true; the input reads as it did. -/
def natBitsUptoRow : OpenClaim := { program := "ytomiapceefbmeaa", sum := "7d15f7b9313c41639308eeed7616c0d3ada3ad08bb0a5e4211967db3cdcfa78a", func := "watchword/watchwordlaw01.NatBits", spec := "natBits", unfollowed := true, recurses := true, apart := false, narrowed := true }
def NatBitsUptoSaid : Prop := natBitsUptoRow.holds Try.pinned (OpenSpec.upto natBitsSpec)

/-- 'watchwordlaw01.NatDivides', WHERE WHAT IT READS IS OF BULK AT MOST 1048576: true; the input reads as it did. -/
def natDividesUptoRow : OpenClaim := { program := "ytomiapceefbmeaa", sum := "7d15f7b9313c41639308eeed7616c0d3ada3ad08bb0a5e4211967db3cdcfa78a", func := "watchword/watchwordlaw01.NatDivides", spec := "natDivides", unfollowed := true, recurses := true, apart := false, narrowed := true }
def NatDividesUptoSaid : Prop := natDividesUptoRow.holds Try.pinned (OpenSpec.upto natDividesSpec)

/-- 'watchwordlaw01.NatSums', WHERE WHAT IT READS IS OF BULK AT MOST 1048576: true; the input reads as it did. -/
def natSumsUptoRow : OpenClaim := { program := "ytomiapceefbmeaa", sum := "7d15f7b9313c41639308eeed7616c0d3ada3ad08bb0a5e4211967db3cdcfa78a", func := "watchword/watchwordlaw01.NatSums", spec := "natSums", unfollowed := true, recurses := true, apart := false, narrowed := true }
def NatSumsUptoSaid : Prop := natSumsUptoRow.holds Try.pinned (OpenSpec.upto natSumsSpec)

/-- 'watchwordlaw01.NatShifts', WHERE WHAT IT READS IS OF BULK AT MOST 1048576: true; the input reads as it did. -/
def natShiftsUptoRow : OpenClaim := { program := "ytomiapceefbmeaa", sum := "7d15f7b9313c41639308eeed7616c0d3ada3ad08bb0a5e4211967db3cdcfa78a", func := "watchword/watchwordlaw01.NatShifts", spec := "natShifts", unfollowed := true, recurses := true, apart := false, narrowed := true }
def NatShiftsUptoSaid : Prop := natShiftsUptoRow.holds Try.pinned (OpenSpec.upto natShiftsSpec)

/-- 'watchwordlaw01.NatProducts', WHERE WHAT IT READS IS OF BULK AT MOST 1048576: true; the input reads as it did. -/
def natProductsUptoRow : OpenClaim := { program := "ytomiapceefbmeaa", sum := "7d15f7b9313c41639308eeed7616c0d3ada3ad08bb0a5e4211967db3cdcfa78a", func := "watchword/watchwordlaw01.NatProducts", spec := "natProducts", unfollowed := true, recurses := true, apart := false, narrowed := true }
def NatProductsUptoSaid : Prop := natProductsUptoRow.holds Try.pinned (OpenSpec.upto natProductsSpec)

/-- 'watchwordlaw01.NatHolds', WHERE WHAT IT READS IS OF BULK AT MOST 1048576: true; the input reads as it did. -/
def natHoldsUptoRow : OpenClaim := { program := "ytomiapceefbmeaa", sum := "7d15f7b9313c41639308eeed7616c0d3ada3ad08bb0a5e4211967db3cdcfa78a", func := "watchword/watchwordlaw01.NatHolds", spec := "natHolds", unfollowed := true, recurses := true, apart := false, narrowed := true }
def NatHoldsUptoSaid : Prop := natHoldsUptoRow.holds Try.pinned (OpenSpec.upto natHoldsSpec)

end Rows
end Go.Proofs.Ytomiapceefbmeaa
