/-
  No cell of these rows narrows 'for every input' (looked for: loops, veiled, ifaces, maps, wideKeys, modest, calm, conditions, laid).
  DERIVED. THE GIVEN ROWS OF THIS SEAT. 7 by the template 'for every input the law returns true; each argument reads behind the call as it read before'; 0 by the template 'total and deterministic' (their statements: YtjiiabekjiilbaaTotals.lean).
  GIVEN WITH THE SEED: the statements are not yours to turn. If you find one false, say at which input.
  Laid BY PROGRAM, IN A SANDBOX (cutbox-rows.mjs): the forced cells as the released guide's own fill.sh prints them over the translation 31be5a593cb8bff5… (all of the seat's roots in one cut). By AI agents, Wed Nov 11 2026. No macro, syntax, notation, axiom, sorry.
-/
import Derived.Test.YtjiiabekjiilbaaChecked
import GoSem.Claim
import GoSem.ClaimJoined
import GoSem.ClaimMapViews
import Derived.JoinedTies
import Derived.KernelRfl
namespace Go.Proofs.Ytjiiabekjiilbaa
/- THE CELL 'sum', in the pinned program and in every row, IS THE sha256 OF THE DUMP (.gsa) THAT YtjiiabekjiilbaaProg.lean LOADS. Nothing in Lean hashes anything: it is a label: what it is worth is what the hold of that sum in a sandbox is worth. -/
noncomputable def Try.pinned : Pinned := { name := "ytjiiabekjiilbaa", sum := "31be5a593cb8bff5e2069dfcde0f7006c5cce9a73b3da875855199c7fd146983", checked := Try.checked }
namespace Rows
def none {H : Type} : Left H := { results := [], args := [] }

/-- 'milepostlaw26.RequestAsks': WHATEVER THE INPUT: true; the input reads as it did. -/
def requestAsksSpec : ChangeSpec := { name := "requestAsks", fn := fun _ => fun
  | [d1, d2] => { results := [.lit (.bool true)], args := [d1, d2] }
  | _ => none }
def requestAsksRow : OpenClaim := { program := "ytjiiabekjiilbaa", sum := "31be5a593cb8bff5e2069dfcde0f7006c5cce9a73b3da875855199c7fd146983", func := "milepost/milepostlaw26.RequestAsks", spec := "requestAsks", unfollowed := true, recurses := true, apart := false }
def RequestAsksSaid : Prop := requestAsksRow.holds Try.pinned (OpenSpec.ofChange requestAsksSpec)

/-- ITS FALSE NEIGHBOUR: 'it returns false'. Refute it at one input. -/
def requestAsksWrong : ChangeSpec := { name := "requestAsks", fn := fun _ => fun
  | [d1, d2] => { results := [.lit (.bool false)], args := [d1, d2] }
  | _ => none }
def RequestAsksWrongFalsely : Prop := requestAsksRow.holds Try.pinned (OpenSpec.ofChange requestAsksWrong)

/-- 'milepostlaw26.RequestAnswers': WHATEVER THE INPUT: true; the input reads as it did. -/
def requestAnswersSpec : ChangeSpec := { name := "requestAnswers", fn := fun _ => fun
  | [d1, d2] => { results := [.lit (.bool true)], args := [d1, d2] }
  | _ => none }
def requestAnswersRow : OpenClaim := { program := "ytjiiabekjiilbaa", sum := "31be5a593cb8bff5e2069dfcde0f7006c5cce9a73b3da875855199c7fd146983", func := "milepost/milepostlaw26.RequestAnswers", spec := "requestAnswers", unfollowed := true, recurses := true, apart := false }
def RequestAnswersSaid : Prop := requestAnswersRow.holds Try.pinned (OpenSpec.ofChange requestAnswersSpec)

/-- ITS FALSE NEIGHBOUR: 'it returns false'. Refute it at one input. -/
def requestAnswersWrong : ChangeSpec := { name := "requestAnswers", fn := fun _ => fun
  | [d1, d2] => { results := [.lit (.bool false)], args := [d1, d2] }
  | _ => none }
def RequestAnswersWrongFalsely : Prop := requestAnswersRow.holds Try.pinned (OpenSpec.ofChange requestAnswersWrong)

/-- 'milepostlaw26.RequestReads': WHATEVER THE INPUT: true; the input reads as it did. -/
def requestReadsSpec : ChangeSpec := { name := "requestReads", fn := fun _ => fun
  | [d1, d2] => { results := [.lit (.bool true)], args := [d1, d2] }
  | _ => none }
def requestReadsRow : OpenClaim := { program := "ytjiiabekjiilbaa", sum := "31be5a593cb8bff5e2069dfcde0f7006c5cce9a73b3da875855199c7fd146983", func := "milepost/milepostlaw26.RequestReads", spec := "requestReads", unfollowed := true, recurses := true, apart := false }
def RequestReadsSaid : Prop := requestReadsRow.holds Try.pinned (OpenSpec.ofChange requestReadsSpec)

/-- ITS FALSE NEIGHBOUR: 'it returns false'. Refute it at one input. -/
def requestReadsWrong : ChangeSpec := { name := "requestReads", fn := fun _ => fun
  | [d1, d2] => { results := [.lit (.bool false)], args := [d1, d2] }
  | _ => none }
def RequestReadsWrongFalsely : Prop := requestReadsRow.holds Try.pinned (OpenSpec.ofChange requestReadsWrong)

/-- 'milepostlaw26.RequestBack': WHATEVER THE INPUT: true; the input reads as it did. -/
def requestBackSpec : ChangeSpec := { name := "requestBack", fn := fun _ => fun
  | [d1, d2, d3] => { results := [.lit (.bool true)], args := [d1, d2, d3] }
  | _ => none }
def requestBackRow : OpenClaim := { program := "ytjiiabekjiilbaa", sum := "31be5a593cb8bff5e2069dfcde0f7006c5cce9a73b3da875855199c7fd146983", func := "milepost/milepostlaw26.RequestBack", spec := "requestBack", unfollowed := true, recurses := true, apart := false }
def RequestBackSaid : Prop := requestBackRow.holds Try.pinned (OpenSpec.ofChange requestBackSpec)

/-- ITS FALSE NEIGHBOUR: 'it returns false'. Refute it at one input. -/
def requestBackWrong : ChangeSpec := { name := "requestBack", fn := fun _ => fun
  | [d1, d2, d3] => { results := [.lit (.bool false)], args := [d1, d2, d3] }
  | _ => none }
def RequestBackWrongFalsely : Prop := requestBackRow.holds Try.pinned (OpenSpec.ofChange requestBackWrong)

/-- 'milepostlaw26.RequestSizes': WHATEVER THE INPUT: true; the input reads as it did. -/
def requestSizesSpec : ChangeSpec := { name := "requestSizes", fn := fun _ => fun
  | [d1, d2] => { results := [.lit (.bool true)], args := [d1, d2] }
  | _ => none }
def requestSizesRow : OpenClaim := { program := "ytjiiabekjiilbaa", sum := "31be5a593cb8bff5e2069dfcde0f7006c5cce9a73b3da875855199c7fd146983", func := "milepost/milepostlaw26.RequestSizes", spec := "requestSizes", unfollowed := true, recurses := true, apart := false }
def RequestSizesSaid : Prop := requestSizesRow.holds Try.pinned (OpenSpec.ofChange requestSizesSpec)

/-- ITS FALSE NEIGHBOUR: 'it returns false'. Refute it at one input. -/
def requestSizesWrong : ChangeSpec := { name := "requestSizes", fn := fun _ => fun
  | [d1, d2] => { results := [.lit (.bool false)], args := [d1, d2] }
  | _ => none }
def RequestSizesWrongFalsely : Prop := requestSizesRow.holds Try.pinned (OpenSpec.ofChange requestSizesWrong)

/-- 'milepostlaw26.RequestCuts': WHATEVER THE INPUT: true; the input reads as it did. -/
def requestCutsSpec : ChangeSpec := { name := "requestCuts", fn := fun _ => fun
  | [d1, d2, d3] => { results := [.lit (.bool true)], args := [d1, d2, d3] }
  | _ => none }
def requestCutsRow : OpenClaim := { program := "ytjiiabekjiilbaa", sum := "31be5a593cb8bff5e2069dfcde0f7006c5cce9a73b3da875855199c7fd146983", func := "milepost/milepostlaw26.RequestCuts", spec := "requestCuts", unfollowed := true, recurses := true, apart := false }
def RequestCutsSaid : Prop := requestCutsRow.holds Try.pinned (OpenSpec.ofChange requestCutsSpec)

/-- ITS FALSE NEIGHBOUR: 'it returns false'. Refute it at one input. -/
def requestCutsWrong : ChangeSpec := { name := "requestCuts", fn := fun _ => fun
  | [d1, d2, d3] => { results := [.lit (.bool false)], args := [d1, d2, d3] }
  | _ => none }
def RequestCutsWrongFalsely : Prop := requestCutsRow.holds Try.pinned (OpenSpec.ofChange requestCutsWrong)

/-- 'milepostlaw26.RequestKinds': WHATEVER THE INPUT: true; the input reads as it did. -/
def requestKindsSpec : ChangeSpec := { name := "requestKinds", fn := fun _ => fun
  | [d1, d2] => { results := [.lit (.bool true)], args := [d1, d2] }
  | _ => none }
def requestKindsRow : OpenClaim := { program := "ytjiiabekjiilbaa", sum := "31be5a593cb8bff5e2069dfcde0f7006c5cce9a73b3da875855199c7fd146983", func := "milepost/milepostlaw26.RequestKinds", spec := "requestKinds", unfollowed := true, recurses := true, apart := false }
def RequestKindsSaid : Prop := requestKindsRow.holds Try.pinned (OpenSpec.ofChange requestKindsSpec)

/-- ITS FALSE NEIGHBOUR: 'it returns false'. Refute it at one input. -/
def requestKindsWrong : ChangeSpec := { name := "requestKinds", fn := fun _ => fun
  | [d1, d2] => { results := [.lit (.bool false)], args := [d1, d2] }
  | _ => none }
def RequestKindsWrongFalsely : Prop := requestKindsRow.holds Try.pinned (OpenSpec.ofChange requestKindsWrong)

/- THE SECOND FORM. 'bulk': how many values and letters a reading holds, each counted each time it is reached (what is shared counts as often as it is met; a slice's spare places count too). A statement '..UptoSaid' is the law's where the arguments, and the package variables that the reading takes, are together of bulk at most 1048576: NARROWER than '..Said'. Prove '..Said' where nothing that the law and all that it calls make is longer than what came in: it says more and counts as full. Else prove '..UptoSaid'. A law counts once. -/
mutual
def uptoBulk {H : Type} : DataW H → Nat
  | .lit (.string bytes) => bytes.length + 1
  | .lit _ => 1
  | .nil => 1
  | .ptr d => uptoBulk d + 1
  | .slice elems spare => uptoBulkAll elems + uptoBulkAll spare + 1
  | .agg parts => uptoBulkAll parts + 1
  | .iface _ d => uptoBulk d + 1
  | .map entries => uptoBulkEntries entries + 1
  | .held _ => 1
def uptoBulkAll {H : Type} : List (DataW H) → Nat
  | [] => 0
  | d :: r => uptoBulk d + uptoBulkAll r
def uptoBulkEntries {H : Type} : List (Lit × DataW H) → Nat
  | [] => 0
  | x :: r => uptoBulkEntry x + uptoBulkEntries r
def uptoBulkEntry {H : Type} : Lit × DataW H → Nat
  | (.string bytes, d) => bytes.length + uptoBulk d + 1
  | (_, d) => uptoBulk d + 1
 end
def uptoSmall : (H : Type) → List (DataW H) → Bool := fun _ ds => decide (uptoBulkAll ds ≤ 1048576)
def OpenSpec.upto (s : _root_.Go.ChangeSpec) : _root_.Go.OpenSpec := { _root_.Go.OpenSpec.ofChange s with cond := some uptoSmall }

/-- 'milepostlaw26.RequestAsks', WHERE WHAT IT READS IS OF BULK AT MOST 1048576: true; the input reads as it did. -/
def requestAsksUptoRow : OpenClaim := { program := "ytjiiabekjiilbaa", sum := "31be5a593cb8bff5e2069dfcde0f7006c5cce9a73b3da875855199c7fd146983", func := "milepost/milepostlaw26.RequestAsks", spec := "requestAsks", unfollowed := true, recurses := true, apart := false, narrowed := true }
def RequestAsksUptoSaid : Prop := requestAsksUptoRow.holds Try.pinned (OpenSpec.upto requestAsksSpec)

/-- 'milepostlaw26.RequestAnswers', WHERE WHAT IT READS IS OF BULK AT MOST 1048576: true; the input reads as it did. -/
def requestAnswersUptoRow : OpenClaim := { program := "ytjiiabekjiilbaa", sum := "31be5a593cb8bff5e2069dfcde0f7006c5cce9a73b3da875855199c7fd146983", func := "milepost/milepostlaw26.RequestAnswers", spec := "requestAnswers", unfollowed := true, recurses := true, apart := false, narrowed := true }
def RequestAnswersUptoSaid : Prop := requestAnswersUptoRow.holds Try.pinned (OpenSpec.upto requestAnswersSpec)

/-- 'milepostlaw26.RequestReads', WHERE WHAT IT READS IS OF BULK AT MOST 1048576: true; the input reads as it did. -/
def requestReadsUptoRow : OpenClaim := { program := "ytjiiabekjiilbaa", sum := "31be5a593cb8bff5e2069dfcde0f7006c5cce9a73b3da875855199c7fd146983", func := "milepost/milepostlaw26.RequestReads", spec := "requestReads", unfollowed := true, recurses := true, apart := false, narrowed := true }
def RequestReadsUptoSaid : Prop := requestReadsUptoRow.holds Try.pinned (OpenSpec.upto requestReadsSpec)

/-- 'milepostlaw26.RequestBack', WHERE WHAT IT READS IS OF BULK AT MOST 1048576: true; the input reads as it did. -/
def requestBackUptoRow : OpenClaim := { program := "ytjiiabekjiilbaa", sum := "31be5a593cb8bff5e2069dfcde0f7006c5cce9a73b3da875855199c7fd146983", func := "milepost/milepostlaw26.RequestBack", spec := "requestBack", unfollowed := true, recurses := true, apart := false, narrowed := true }
def RequestBackUptoSaid : Prop := requestBackUptoRow.holds Try.pinned (OpenSpec.upto requestBackSpec)

/-- 'milepostlaw26.RequestSizes', WHERE WHAT IT READS IS OF BULK AT MOST 1048576: true; the input reads as it did. -/
def requestSizesUptoRow : OpenClaim := { program := "ytjiiabekjiilbaa", sum := "31be5a593cb8bff5e2069dfcde0f7006c5cce9a73b3da875855199c7fd146983", func := "milepost/milepostlaw26.RequestSizes", spec := "requestSizes", unfollowed := true, recurses := true, apart := false, narrowed := true }
def RequestSizesUptoSaid : Prop := requestSizesUptoRow.holds Try.pinned (OpenSpec.upto requestSizesSpec)

/-- 'milepostlaw26.RequestCuts', WHERE WHAT IT READS IS OF BULK AT MOST 1048576: true; the input reads as it did. -/
def requestCutsUptoRow : OpenClaim := { program := "ytjiiabekjiilbaa", sum := "31be5a593cb8bff5e2069dfcde0f7006c5cce9a73b3da875855199c7fd146983", func := "milepost/milepostlaw26.RequestCuts", spec := "requestCuts", unfollowed := true, recurses := true, apart := false, narrowed := true }
def RequestCutsUptoSaid : Prop := requestCutsUptoRow.holds Try.pinned (OpenSpec.upto requestCutsSpec)

/-- 'milepostlaw26.RequestKinds', WHERE WHAT IT READS IS OF BULK AT MOST 1048576: true; the input reads as it did. -/
def requestKindsUptoRow : OpenClaim := { program := "ytjiiabekjiilbaa", sum := "31be5a593cb8bff5e2069dfcde0f7006c5cce9a73b3da875855199c7fd146983", func := "milepost/milepostlaw26.RequestKinds", spec := "requestKinds", unfollowed := true, recurses := true, apart := false, narrowed := true }
def RequestKindsUptoSaid : Prop := requestKindsUptoRow.holds Try.pinned (OpenSpec.upto requestKindsSpec)

end Rows
end Go.Proofs.Ytjiiabekjiilbaa
