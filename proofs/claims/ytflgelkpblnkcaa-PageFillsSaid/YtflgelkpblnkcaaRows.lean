/-
  No cell of these rows narrows 'for every input' (looked for: loops, veiled, ifaces, maps, wideKeys, modest, calm, conditions, laid).
  DERIVED. THE GIVEN ROWS OF THIS SEAT. 7 by the template 'for every input the law returns true; each argument reads behind the call as it read before'; 0 by the template 'total and deterministic' (their statements: YtflgelkpblnkcaaTotals.lean).
  GIVEN WITH THE SEED: the statements are not yours to turn. If you find one false, say at which input.
  Laid BY PROGRAM, IN A SANDBOX (cutbox-rows.mjs): the forced cells as the released guide's own fill.sh prints them over the translation 19b2db618aef741d… (all of the seat's roots in one cut). By AI agents, Wed Nov 11 2026. No macro, syntax, notation, axiom, sorry.
-/
import Derived.Test.YtflgelkpblnkcaaChecked
import GoSem.Claim
import GoSem.ClaimJoined
import GoSem.ClaimMapViews
import Derived.JoinedTies
import Derived.KernelRfl
namespace Go.Proofs.Ytflgelkpblnkcaa
/- THE CELL 'sum', in the pinned program and in every row, IS THE sha256 OF THE DUMP (.gsa) THAT YtflgelkpblnkcaaProg.lean LOADS. Nothing in Lean hashes anything: it is a label: what it is worth is what the hold of that sum in a sandbox is worth. -/
noncomputable def Try.pinned : Pinned := { name := "ytflgelkpblnkcaa", sum := "19b2db618aef741de7a77b6c0f5296f062d24d46c55f2685715f34319bbd642d", checked := Try.checked }
namespace Rows
def none {H : Type} : Left H := { results := [], args := [] }

/-- 'milepostlaw07.PageMakes': WHATEVER THE INPUT: true; the input reads as it did. -/
def pageMakesSpec : ChangeSpec := { name := "pageMakes", fn := fun _ => fun
  | [d1, d2, d3] => { results := [.lit (.bool true)], args := [d1, d2, d3] }
  | _ => none }
def pageMakesRow : OpenClaim := { program := "ytflgelkpblnkcaa", sum := "19b2db618aef741de7a77b6c0f5296f062d24d46c55f2685715f34319bbd642d", func := "milepost/milepostlaw07.PageMakes", spec := "pageMakes", unfollowed := true, recurses := true, apart := false }
def PageMakesSaid : Prop := pageMakesRow.holds Try.pinned (OpenSpec.ofChange pageMakesSpec)

/-- ITS FALSE NEIGHBOUR: 'it returns false'. Refute it at one input. -/
def pageMakesWrong : ChangeSpec := { name := "pageMakes", fn := fun _ => fun
  | [d1, d2, d3] => { results := [.lit (.bool false)], args := [d1, d2, d3] }
  | _ => none }
def PageMakesWrongFalsely : Prop := pageMakesRow.holds Try.pinned (OpenSpec.ofChange pageMakesWrong)

/-- 'milepostlaw07.PageOpens': WHATEVER THE INPUT: true; the input reads as it did. -/
def pageOpensSpec : ChangeSpec := { name := "pageOpens", fn := fun _ => fun
  | [d1, d2, d3] => { results := [.lit (.bool true)], args := [d1, d2, d3] }
  | _ => none }
def pageOpensRow : OpenClaim := { program := "ytflgelkpblnkcaa", sum := "19b2db618aef741de7a77b6c0f5296f062d24d46c55f2685715f34319bbd642d", func := "milepost/milepostlaw07.PageOpens", spec := "pageOpens", unfollowed := true, recurses := true, apart := false }
def PageOpensSaid : Prop := pageOpensRow.holds Try.pinned (OpenSpec.ofChange pageOpensSpec)

/-- ITS FALSE NEIGHBOUR: 'it returns false'. Refute it at one input. -/
def pageOpensWrong : ChangeSpec := { name := "pageOpens", fn := fun _ => fun
  | [d1, d2, d3] => { results := [.lit (.bool false)], args := [d1, d2, d3] }
  | _ => none }
def PageOpensWrongFalsely : Prop := pageOpensRow.holds Try.pinned (OpenSpec.ofChange pageOpensWrong)

/-- 'milepostlaw07.PageBack': WHATEVER THE INPUT: true; the input reads as it did. -/
def pageBackSpec : ChangeSpec := { name := "pageBack", fn := fun _ => fun
  | [d] => { results := [.lit (.bool true)], args := [d] }
  | _ => none }
def pageBackRow : OpenClaim := { program := "ytflgelkpblnkcaa", sum := "19b2db618aef741de7a77b6c0f5296f062d24d46c55f2685715f34319bbd642d", func := "milepost/milepostlaw07.PageBack", spec := "pageBack", unfollowed := true, recurses := true, apart := false }
def PageBackSaid : Prop := pageBackRow.holds Try.pinned (OpenSpec.ofChange pageBackSpec)

/-- ITS FALSE NEIGHBOUR: 'it returns false'. Refute it at one input. -/
def pageBackWrong : ChangeSpec := { name := "pageBack", fn := fun _ => fun
  | [d] => { results := [.lit (.bool false)], args := [d] }
  | _ => none }
def PageBackWrongFalsely : Prop := pageBackRow.holds Try.pinned (OpenSpec.ofChange pageBackWrong)

/-- 'milepostlaw07.PageBursts': WHATEVER THE INPUT: true; the input reads as it did. -/
def pageBurstsSpec : ChangeSpec := { name := "pageBursts", fn := fun _ => fun
  | [d] => { results := [.lit (.bool true)], args := [d] }
  | _ => none }
def pageBurstsRow : OpenClaim := { program := "ytflgelkpblnkcaa", sum := "19b2db618aef741de7a77b6c0f5296f062d24d46c55f2685715f34319bbd642d", func := "milepost/milepostlaw07.PageBursts", spec := "pageBursts", unfollowed := true, recurses := true, apart := false }
def PageBurstsSaid : Prop := pageBurstsRow.holds Try.pinned (OpenSpec.ofChange pageBurstsSpec)

/-- ITS FALSE NEIGHBOUR: 'it returns false'. Refute it at one input. -/
def pageBurstsWrong : ChangeSpec := { name := "pageBursts", fn := fun _ => fun
  | [d] => { results := [.lit (.bool false)], args := [d] }
  | _ => none }
def PageBurstsWrongFalsely : Prop := pageBurstsRow.holds Try.pinned (OpenSpec.ofChange pageBurstsWrong)

/-- 'milepostlaw07.PageSizes': WHATEVER THE INPUT: true; the input reads as it did. -/
def pageSizesSpec : ChangeSpec := { name := "pageSizes", fn := fun _ => fun
  | [d1, d2, d3] => { results := [.lit (.bool true)], args := [d1, d2, d3] }
  | _ => none }
def pageSizesRow : OpenClaim := { program := "ytflgelkpblnkcaa", sum := "19b2db618aef741de7a77b6c0f5296f062d24d46c55f2685715f34319bbd642d", func := "milepost/milepostlaw07.PageSizes", spec := "pageSizes", unfollowed := true, recurses := true, apart := false }
def PageSizesSaid : Prop := pageSizesRow.holds Try.pinned (OpenSpec.ofChange pageSizesSpec)

/-- ITS FALSE NEIGHBOUR: 'it returns false'. Refute it at one input. -/
def pageSizesWrong : ChangeSpec := { name := "pageSizes", fn := fun _ => fun
  | [d1, d2, d3] => { results := [.lit (.bool false)], args := [d1, d2, d3] }
  | _ => none }
def PageSizesWrongFalsely : Prop := pageSizesRow.holds Try.pinned (OpenSpec.ofChange pageSizesWrong)

/-- 'milepostlaw07.PageCuts': WHATEVER THE INPUT: true; the input reads as it did. -/
def pageCutsSpec : ChangeSpec := { name := "pageCuts", fn := fun _ => fun
  | [d1, d2] => { results := [.lit (.bool true)], args := [d1, d2] }
  | _ => none }
def pageCutsRow : OpenClaim := { program := "ytflgelkpblnkcaa", sum := "19b2db618aef741de7a77b6c0f5296f062d24d46c55f2685715f34319bbd642d", func := "milepost/milepostlaw07.PageCuts", spec := "pageCuts", unfollowed := true, recurses := true, apart := false }
def PageCutsSaid : Prop := pageCutsRow.holds Try.pinned (OpenSpec.ofChange pageCutsSpec)

/-- ITS FALSE NEIGHBOUR: 'it returns false'. Refute it at one input. -/
def pageCutsWrong : ChangeSpec := { name := "pageCuts", fn := fun _ => fun
  | [d1, d2] => { results := [.lit (.bool false)], args := [d1, d2] }
  | _ => none }
def PageCutsWrongFalsely : Prop := pageCutsRow.holds Try.pinned (OpenSpec.ofChange pageCutsWrong)

/-- 'milepostlaw07.PageFills': WHATEVER THE INPUT: true; the input reads as it did. -/
def pageFillsSpec : ChangeSpec := { name := "pageFills", fn := fun _ => fun
  | [d1, d2, d3] => { results := [.lit (.bool true)], args := [d1, d2, d3] }
  | _ => none }
def pageFillsRow : OpenClaim := { program := "ytflgelkpblnkcaa", sum := "19b2db618aef741de7a77b6c0f5296f062d24d46c55f2685715f34319bbd642d", func := "milepost/milepostlaw07.PageFills", spec := "pageFills", unfollowed := true, recurses := true, apart := false }
def PageFillsSaid : Prop := pageFillsRow.holds Try.pinned (OpenSpec.ofChange pageFillsSpec)

/-- ITS FALSE NEIGHBOUR: 'it returns false'. Refute it at one input. -/
def pageFillsWrong : ChangeSpec := { name := "pageFills", fn := fun _ => fun
  | [d1, d2, d3] => { results := [.lit (.bool false)], args := [d1, d2, d3] }
  | _ => none }
def PageFillsWrongFalsely : Prop := pageFillsRow.holds Try.pinned (OpenSpec.ofChange pageFillsWrong)

/- THE SECOND FORM. 'bulk': how many values and letters a reading holds, each counted each time it is reached (what is shared counts as often as it is met; a slice's spare places count too). A statement '..UptoSaid' is the law's where the arguments, and the package variables that the reading takes, are together of bulk at most 1048576: NARROWER than '..Said'. Prove '..Said' where nothing that the law and all that it calls make is longer than what came in: it says more and counts as full. Else prove '..UptoSaid'. A law counts once. -/
mutual
def uptoBulk {H : Type} : DataW H → Nat
  | .lit (.string bytes) => bytes.length + 1
  | .lit _ => 1
  | .nil => 1
  | .ptr d => uptoBulk d + 1
  | .slice elems spare => uptoBulkAll elems + uptoBulkAll spare + 1
  | .agg parts => uptoBulkAll parts + 1
  | .iface _ d => uptoBulk d + 1
  | .map entries => uptoBulkEntries entries + 1
  | .held _ => 1
def uptoBulkAll {H : Type} : List (DataW H) → Nat
  | [] => 0
  | d :: r => uptoBulk d + uptoBulkAll r
def uptoBulkEntries {H : Type} : List (Lit × DataW H) → Nat
  | [] => 0
  | x :: r => uptoBulkEntry x + uptoBulkEntries r
def uptoBulkEntry {H : Type} : Lit × DataW H → Nat
  | (.string bytes, d) => bytes.length + uptoBulk d + 1
  | (_, d) => uptoBulk d + 1
 end
def uptoSmall : (H : Type) → List (DataW H) → Bool := fun _ ds => decide (uptoBulkAll ds ≤ 1048576)
def OpenSpec.upto (s : _root_.Go.ChangeSpec) : _root_.Go.OpenSpec := { _root_.Go.OpenSpec.ofChange s with cond := some uptoSmall }

/-- 'milepostlaw07.PageMakes', WHERE WHAT IT READS IS OF BULK AT MOST 1048576: true; the input reads as it did. -/
def pageMakesUptoRow : OpenClaim := { program := "ytflgelkpblnkcaa", sum := "19b2db618aef741de7a77b6c0f5296f062d24d46c55f2685715f34319bbd642d", func := "milepost/milepostlaw07.PageMakes", spec := "pageMakes", unfollowed := true, recurses := true, apart := false, narrowed := true }
def PageMakesUptoSaid : Prop := pageMakesUptoRow.holds Try.pinned (OpenSpec.upto pageMakesSpec)

/-- 'milepostlaw07.PageOpens', WHERE WHAT IT READS IS OF BULK AT MOST 1048576: true; the input reads as it did. -/
def pageOpensUptoRow : OpenClaim := { program := "ytflgelkpblnkcaa", sum := "19b2db618aef741de7a77b6c0f5296f062d24d46c55f2685715f34319bbd642d", func := "milepost/milepostlaw07.PageOpens", spec := "pageOpens", unfollowed := true, recurses := true, apart := false, narrowed := true }
def PageOpensUptoSaid : Prop := pageOpensUptoRow.holds Try.pinned (OpenSpec.upto pageOpensSpec)

/-- 'milepostlaw07.PageBack', WHERE WHAT IT READS IS OF BULK AT MOST 1048576: true; the input reads as it did. -/
def pageBackUptoRow : OpenClaim := { program := "ytflgelkpblnkcaa", sum := "19b2db618aef741de7a77b6c0f5296f062d24d46c55f2685715f34319bbd642d", func := "milepost/milepostlaw07.PageBack", spec := "pageBack", unfollowed := true, recurses := true, apart := false, narrowed := true }
def PageBackUptoSaid : Prop := pageBackUptoRow.holds Try.pinned (OpenSpec.upto pageBackSpec)

/-- 'milepostlaw07.PageBursts', WHERE WHAT IT READS IS OF BULK AT MOST 1048576: true; the input reads as it did. -/
def pageBurstsUptoRow : OpenClaim := { program := "ytflgelkpblnkcaa", sum := "19b2db618aef741de7a77b6c0f5296f062d24d46c55f2685715f34319bbd642d", func := "milepost/milepostlaw07.PageBursts", spec := "pageBursts", unfollowed := true, recurses := true, apart := false, narrowed := true }
def PageBurstsUptoSaid : Prop := pageBurstsUptoRow.holds Try.pinned (OpenSpec.upto pageBurstsSpec)

/-- 'milepostlaw07.PageSizes', WHERE WHAT IT READS IS OF BULK AT MOST 1048576: true; the input reads as it did. -/
def pageSizesUptoRow : OpenClaim := { program := "ytflgelkpblnkcaa", sum := "19b2db618aef741de7a77b6c0f5296f062d24d46c55f2685715f34319bbd642d", func := "milepost/milepostlaw07.PageSizes", spec := "pageSizes", unfollowed := true, recurses := true, apart := false, narrowed := true }
def PageSizesUptoSaid : Prop := pageSizesUptoRow.holds Try.pinned (OpenSpec.upto pageSizesSpec)

/-- 'milepostlaw07.PageCuts', WHERE WHAT IT READS IS OF BULK AT MOST 1048576: true; the input reads as it did. -/
def pageCutsUptoRow : OpenClaim := { program := "ytflgelkpblnkcaa", sum := "19b2db618aef741de7a77b6c0f5296f062d24d46c55f2685715f34319bbd642d", func := "milepost/milepostlaw07.PageCuts", spec := "pageCuts", unfollowed := true, recurses := true, apart := false, narrowed := true }
def PageCutsUptoSaid : Prop := pageCutsUptoRow.holds Try.pinned (OpenSpec.upto pageCutsSpec)

/-- 'milepostlaw07.PageFills', WHERE WHAT IT READS IS OF BULK AT MOST 1048576: true; the input reads as it did. -/
def pageFillsUptoRow : OpenClaim := { program := "ytflgelkpblnkcaa", sum := "19b2db618aef741de7a77b6c0f5296f062d24d46c55f2685715f34319bbd642d", func := "milepost/milepostlaw07.PageFills", spec := "pageFills", unfollowed := true, recurses := true, apart := false, narrowed := true }
def PageFillsUptoSaid : Prop := pageFillsUptoRow.holds Try.pinned (OpenSpec.upto pageFillsSpec)

end Rows
end Go.Proofs.Ytflgelkpblnkcaa
