/- What was there when a world was is as it was; Put, in such a world. -/
import Derived.Test.YtflgelkpblnkcaaOctPut
set_option linter.unusedSimpArgs false
set_option linter.unusedVariables false
namespace Go.Proofs.Ytflgelkpblnkcaa
open Go.RowKit Mp

/-- what was there when w was is as it was. -/
def Since (w w' : World) : Prop := Below w.heap.size w w'
theorem Since.refl (w : World) : Since w w := Below.refl _ _
theorem Since.drew {w w' : World} (h : Since w w') : Since w w'.drew := Below.drew h
theorem Since.step {w w' w'' : World} (h : Since w w') (k : Below w'.heap.size w' w'') : Since w w'' := Below.trans h (k.mono h.size)
theorem Since.bytes {w w' : World} (h : Since w w') {A : Option Addr} {l : List UInt8} (hb : Bytes w w.heap.size A l) : Bytes w' w'.heap.size A l := (hb.below h).more h.size
end Go.Proofs.Ytflgelkpblnkcaa
