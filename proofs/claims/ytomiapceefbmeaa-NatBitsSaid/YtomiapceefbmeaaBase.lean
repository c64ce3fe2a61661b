/- What all walks of this seat begin with: the element types' rows, what comes back as bytes. -/
import Derived.Test.YtomiapceefbmeaaProg
import Derived.Test.YtomiapceefbmeaaWords
import Derived.KernelRfl
set_option linter.unusedVariables false
set_option linter.unusedSimpArgs false
namespace Go.Proofs.Ytomiapceefbmeaa
open Go.RowKit

theorem infoU8 : (Try.prog.info? 5).map (fun i => (i.zero, i.size, i.bytes)) = some (some (.int .u8 0), 1, 1) := by kernel_rfl
theorem eiU8 : EI Try.prog 22 5 (.int .u8 0) 1 := by
  obtain ⟨i0, hi, hz0, hz1, hz2⟩ := info_parts infoU8
  exact ⟨Try.underlying22, ⟨i0, hi, hz0, hz1, hz2⟩, rfl⟩

/-- What comes back as bytes in new memory. -/
def RetB (w : World) (xs : List UInt8) (e : Ending) (w' : World) : Prop := ∃ v, e = .returned v ∧ OwnB w' w.heap.size v xs ∧ Below w.heap.size w w'
theorem RetB.of {w W w' : World} {xs : List UInt8} {v : Value} (hb : Below w.heap.size w W) (ho : OwnB w' W.heap.size v xs) (hb' : Below W.heap.size W w') : RetB w xs (.returned v) w' :=
  ⟨v, rfl, ho.mono hb.size, hb.trans (hb'.mono hb.size)⟩

end Go.Proofs.Ytomiapceefbmeaa
