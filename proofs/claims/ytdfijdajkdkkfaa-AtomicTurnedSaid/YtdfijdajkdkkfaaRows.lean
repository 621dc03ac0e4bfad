/-
  NARROWER THAN 'FOR EVERY INPUT', by the rows' own cells (each row's printed sentence says how): ArrCopies: loops · CoreSame: loops · CoreWraps: loops · LayoutOne: loops · LayoutReshapes: loops · LayoutBack: loops · LayoutRavels: loops · LayoutMay: loops · LayoutOwn: loops · FragFits: loops · FragParts: loops · AtomicCells: loops · AtomicTwo: loops · AtomicTurned: loops.
  DERIVED. THE GIVEN ROWS OF THIS SEAT. 15 by the template 'for every input the law returns true; each argument reads behind the call as it read before'; 0 by the template 'total and deterministic' (their statements: YtdfijdajkdkkfaaTotals.lean).
  GIVEN WITH THE SEED: the statements are not yours to turn. If you find one false, say at which input.
  Laid BY PROGRAM, IN A SANDBOX (cutbox-rows.mjs): the forced cells as the released guide's own fill.sh prints them over the translation 9cfa5c4d6ccfe6bc… (all of the seat's roots in one cut). By AI agents, Wed Nov 11 2026. No macro, syntax, notation, axiom, sorry.
-/
import Derived.Test.YtdfijdajkdkkfaaChecked
import GoSem.Claim
import GoSem.ClaimJoined
import GoSem.ClaimMapViews
import Derived.JoinedTies
import Derived.KernelRfl
namespace Go.Proofs.Ytdfijdajkdkkfaa
/- THE CELL 'sum', in the pinned program and in every row, IS THE sha256 OF THE DUMP (.gsa) THAT YtdfijdajkdkkfaaProg.lean LOADS. Nothing in Lean hashes anything: it is a label: what it is worth is what the hold of that sum in a sandbox is worth. -/
noncomputable def Try.pinned : Pinned := { name := "ytdfijdajkdkkfaa", sum := "9cfa5c4d6ccfe6bc98433abfba83c283986f5a2106a8527803f9d032cceb93e5", checked := Try.checked }
namespace Rows
def none {H : Type} : Left H := { results := [], args := [] }

/-- 'triglyphlaw03.ArrCopies': WHATEVER THE INPUT: true; the input reads as it did. -/
def arrCopiesSpec : ChangeSpec := { name := "arrCopies", fn := fun _ => fun
  | [d] => { results := [.lit (.bool true)], args := [d] }
  | _ => none }
def arrCopiesRow : OpenClaim := { program := "ytdfijdajkdkkfaa", sum := "9cfa5c4d6ccfe6bc98433abfba83c283986f5a2106a8527803f9d032cceb93e5", func := "triglyph/triglyphlaw03.ArrCopies", spec := "arrCopies", unfollowed := true, recurses := true, loops := true, apart := false }
def ArrCopiesSaid : Prop := arrCopiesRow.holds Try.pinned (OpenSpec.ofChange arrCopiesSpec)

/-- ITS FALSE NEIGHBOUR: 'it returns false'. Refute it at one input. -/
def arrCopiesWrong : ChangeSpec := { name := "arrCopies", fn := fun _ => fun
  | [d] => { results := [.lit (.bool false)], args := [d] }
  | _ => none }
def ArrCopiesWrongFalsely : Prop := arrCopiesRow.holds Try.pinned (OpenSpec.ofChange arrCopiesWrong)

/-- 'triglyphlaw10.CoreSame': WHATEVER THE INPUT: true; the input reads as it did. -/
def coreSameSpec : ChangeSpec := { name := "coreSame", fn := fun _ => fun
  | [d1, d2] => { results := [.lit (.bool true)], args := [d1, d2] }
  | _ => none }
def coreSameRow : OpenClaim := { program := "ytdfijdajkdkkfaa", sum := "9cfa5c4d6ccfe6bc98433abfba83c283986f5a2106a8527803f9d032cceb93e5", func := "triglyph/triglyphlaw10.CoreSame", spec := "coreSame", unfollowed := true, recurses := true, loops := true, apart := false }
def CoreSameSaid : Prop := coreSameRow.holds Try.pinned (OpenSpec.ofChange coreSameSpec)

/-- ITS FALSE NEIGHBOUR: 'it returns false'. Refute it at one input. -/
def coreSameWrong : ChangeSpec := { name := "coreSame", fn := fun _ => fun
  | [d1, d2] => { results := [.lit (.bool false)], args := [d1, d2] }
  | _ => none }
def CoreSameWrongFalsely : Prop := coreSameRow.holds Try.pinned (OpenSpec.ofChange coreSameWrong)

/-- 'triglyphlaw10.CoreWraps': WHATEVER THE INPUT: true; the input reads as it did. -/
def coreWrapsSpec : ChangeSpec := { name := "coreWraps", fn := fun _ => fun
  | [d1, d2, d3] => { results := [.lit (.bool true)], args := [d1, d2, d3] }
  | _ => none }
def coreWrapsRow : OpenClaim := { program := "ytdfijdajkdkkfaa", sum := "9cfa5c4d6ccfe6bc98433abfba83c283986f5a2106a8527803f9d032cceb93e5", func := "triglyph/triglyphlaw10.CoreWraps", spec := "coreWraps", unfollowed := true, recurses := true, loops := true, apart := false }
def CoreWrapsSaid : Prop := coreWrapsRow.holds Try.pinned (OpenSpec.ofChange coreWrapsSpec)

/-- ITS FALSE NEIGHBOUR: 'it returns false'. Refute it at one input. -/
def coreWrapsWrong : ChangeSpec := { name := "coreWraps", fn := fun _ => fun
  | [d1, d2, d3] => { results := [.lit (.bool false)], args := [d1, d2, d3] }
  | _ => none }
def CoreWrapsWrongFalsely : Prop := coreWrapsRow.holds Try.pinned (OpenSpec.ofChange coreWrapsWrong)

/-- 'triglyphlaw05.LayoutOne': WHATEVER THE INPUT: true; the input reads as it did. -/
def layoutOneSpec : ChangeSpec := { name := "layoutOne", fn := fun _ => fun
  | [d1, d2] => { results := [.lit (.bool true)], args := [d1, d2] }
  | _ => none }
def layoutOneRow : OpenClaim := { program := "ytdfijdajkdkkfaa", sum := "9cfa5c4d6ccfe6bc98433abfba83c283986f5a2106a8527803f9d032cceb93e5", func := "triglyph/triglyphlaw05.LayoutOne", spec := "layoutOne", recurses := true, loops := true, apart := false }
def LayoutOneSaid : Prop := layoutOneRow.holds Try.pinned (OpenSpec.ofChange layoutOneSpec)

/-- ITS FALSE NEIGHBOUR: 'it returns false'. Refute it at one input. -/
def layoutOneWrong : ChangeSpec := { name := "layoutOne", fn := fun _ => fun
  | [d1, d2] => { results := [.lit (.bool false)], args := [d1, d2] }
  | _ => none }
def LayoutOneWrongFalsely : Prop := layoutOneRow.holds Try.pinned (OpenSpec.ofChange layoutOneWrong)

/-- 'triglyphlaw05.LayoutReshapes': WHATEVER THE INPUT: true; the input reads as it did. -/
def layoutReshapesSpec : ChangeSpec := { name := "layoutReshapes", fn := fun _ => fun
  | [d1, d2] => { results := [.lit (.bool true)], args := [d1, d2] }
  | _ => none }
def layoutReshapesRow : OpenClaim := { program := "ytdfijdajkdkkfaa", sum := "9cfa5c4d6ccfe6bc98433abfba83c283986f5a2106a8527803f9d032cceb93e5", func := "triglyph/triglyphlaw05.LayoutReshapes", spec := "layoutReshapes", recurses := true, loops := true, apart := false }
def LayoutReshapesSaid : Prop := layoutReshapesRow.holds Try.pinned (OpenSpec.ofChange layoutReshapesSpec)

/-- ITS FALSE NEIGHBOUR: 'it returns false'. Refute it at one input. -/
def layoutReshapesWrong : ChangeSpec := { name := "layoutReshapes", fn := fun _ => fun
  | [d1, d2] => { results := [.lit (.bool false)], args := [d1, d2] }
  | _ => none }
def LayoutReshapesWrongFalsely : Prop := layoutReshapesRow.holds Try.pinned (OpenSpec.ofChange layoutReshapesWrong)

/-- 'triglyphlaw05.LayoutBack': WHATEVER THE INPUT: true; the input reads as it did. -/
def layoutBackSpec : ChangeSpec := { name := "layoutBack", fn := fun _ => fun
  | [d] => { results := [.lit (.bool true)], args := [d] }
  | _ => none }
def layoutBackRow : OpenClaim := { program := "ytdfijdajkdkkfaa", sum := "9cfa5c4d6ccfe6bc98433abfba83c283986f5a2106a8527803f9d032cceb93e5", func := "triglyph/triglyphlaw05.LayoutBack", spec := "layoutBack", recurses := true, loops := true, apart := false }
def LayoutBackSaid : Prop := layoutBackRow.holds Try.pinned (OpenSpec.ofChange layoutBackSpec)

/-- ITS FALSE NEIGHBOUR: 'it returns false'. Refute it at one input. -/
def layoutBackWrong : ChangeSpec := { name := "layoutBack", fn := fun _ => fun
  | [d] => { results := [.lit (.bool false)], args := [d] }
  | _ => none }
def LayoutBackWrongFalsely : Prop := layoutBackRow.holds Try.pinned (OpenSpec.ofChange layoutBackWrong)

/-- 'triglyphlaw05.LayoutRavels': WHATEVER THE INPUT: true; the input reads as it did. -/
def layoutRavelsSpec : ChangeSpec := { name := "layoutRavels", fn := fun _ => fun
  | [d] => { results := [.lit (.bool true)], args := [d] }
  | _ => none }
def layoutRavelsRow : OpenClaim := { program := "ytdfijdajkdkkfaa", sum := "9cfa5c4d6ccfe6bc98433abfba83c283986f5a2106a8527803f9d032cceb93e5", func := "triglyph/triglyphlaw05.LayoutRavels", spec := "layoutRavels", recurses := true, loops := true, apart := false }
def LayoutRavelsSaid : Prop := layoutRavelsRow.holds Try.pinned (OpenSpec.ofChange layoutRavelsSpec)

/-- ITS FALSE NEIGHBOUR: 'it returns false'. Refute it at one input. -/
def layoutRavelsWrong : ChangeSpec := { name := "layoutRavels", fn := fun _ => fun
  | [d] => { results := [.lit (.bool false)], args := [d] }
  | _ => none }
def LayoutRavelsWrongFalsely : Prop := layoutRavelsRow.holds Try.pinned (OpenSpec.ofChange layoutRavelsWrong)

/-- 'triglyphlaw05.LayoutMay': WHATEVER THE INPUT: true; the input reads as it did. -/
def layoutMaySpec : ChangeSpec := { name := "layoutMay", fn := fun _ => fun
  | [d1, d2, d3] => { results := [.lit (.bool true)], args := [d1, d2, d3] }
  | _ => none }
def layoutMayRow : OpenClaim := { program := "ytdfijdajkdkkfaa", sum := "9cfa5c4d6ccfe6bc98433abfba83c283986f5a2106a8527803f9d032cceb93e5", func := "triglyph/triglyphlaw05.LayoutMay", spec := "layoutMay", recurses := true, loops := true, apart := false }
def LayoutMaySaid : Prop := layoutMayRow.holds Try.pinned (OpenSpec.ofChange layoutMaySpec)

/-- ITS FALSE NEIGHBOUR: 'it returns false'. Refute it at one input. -/
def layoutMayWrong : ChangeSpec := { name := "layoutMay", fn := fun _ => fun
  | [d1, d2, d3] => { results := [.lit (.bool false)], args := [d1, d2, d3] }
  | _ => none }
def LayoutMayWrongFalsely : Prop := layoutMayRow.holds Try.pinned (OpenSpec.ofChange layoutMayWrong)

/-- 'triglyphlaw05.LayoutOwn': WHATEVER THE INPUT: true; the input reads as it did. -/
def layoutOwnSpec : ChangeSpec := { name := "layoutOwn", fn := fun _ => fun
  | [d1, d2] => { results := [.lit (.bool true)], args := [d1, d2] }
  | _ => none }
def layoutOwnRow : OpenClaim := { program := "ytdfijdajkdkkfaa", sum := "9cfa5c4d6ccfe6bc98433abfba83c283986f5a2106a8527803f9d032cceb93e5", func := "triglyph/triglyphlaw05.LayoutOwn", spec := "layoutOwn", recurses := true, loops := true, apart := false }
def LayoutOwnSaid : Prop := layoutOwnRow.holds Try.pinned (OpenSpec.ofChange layoutOwnSpec)

/-- ITS FALSE NEIGHBOUR: 'it returns false'. Refute it at one input. -/
def layoutOwnWrong : ChangeSpec := { name := "layoutOwn", fn := fun _ => fun
  | [d1, d2] => { results := [.lit (.bool false)], args := [d1, d2] }
  | _ => none }
def LayoutOwnWrongFalsely : Prop := layoutOwnRow.holds Try.pinned (OpenSpec.ofChange layoutOwnWrong)

/-- 'triglyphlaw24.FragFits': WHATEVER THE INPUT: true; the input reads as it did. -/
def fragFitsSpec : ChangeSpec := { name := "fragFits", fn := fun _ => fun
  | [d1, d2] => { results := [.lit (.bool true)], args := [d1, d2] }
  | _ => none }
def fragFitsRow : OpenClaim := { program := "ytdfijdajkdkkfaa", sum := "9cfa5c4d6ccfe6bc98433abfba83c283986f5a2106a8527803f9d032cceb93e5", func := "triglyph/triglyphlaw24.FragFits", spec := "fragFits", unfollowed := true, recurses := true, loops := true, apart := false }
def FragFitsSaid : Prop := fragFitsRow.holds Try.pinned (OpenSpec.ofChange fragFitsSpec)

/-- ITS FALSE NEIGHBOUR: 'it returns false'. Refute it at one input. -/
def fragFitsWrong : ChangeSpec := { name := "fragFits", fn := fun _ => fun
  | [d1, d2] => { results := [.lit (.bool false)], args := [d1, d2] }
  | _ => none }
def FragFitsWrongFalsely : Prop := fragFitsRow.holds Try.pinned (OpenSpec.ofChange fragFitsWrong)

/-- 'triglyphlaw24.FragParts': WHATEVER THE INPUT: true; the input reads as it did. -/
def fragPartsSpec : ChangeSpec := { name := "fragParts", fn := fun _ => fun
  | [d1, d2] => { results := [.lit (.bool true)], args := [d1, d2] }
  | _ => none }
def fragPartsRow : OpenClaim := { program := "ytdfijdajkdkkfaa", sum := "9cfa5c4d6ccfe6bc98433abfba83c283986f5a2106a8527803f9d032cceb93e5", func := "triglyph/triglyphlaw24.FragParts", spec := "fragParts", unfollowed := true, recurses := true, loops := true, apart := false }
def FragPartsSaid : Prop := fragPartsRow.holds Try.pinned (OpenSpec.ofChange fragPartsSpec)

/-- ITS FALSE NEIGHBOUR: 'it returns false'. Refute it at one input. -/
def fragPartsWrong : ChangeSpec := { name := "fragParts", fn := fun _ => fun
  | [d1, d2] => { results := [.lit (.bool false)], args := [d1, d2] }
  | _ => none }
def FragPartsWrongFalsely : Prop := fragPartsRow.holds Try.pinned (OpenSpec.ofChange fragPartsWrong)

/-- 'triglyphlaw04.AtomicCells': WHATEVER THE INPUT: true; the input reads as it did. -/
def atomicCellsSpec : ChangeSpec := { name := "atomicCells", fn := fun _ => fun
  | [d1, d2, d3] => { results := [.lit (.bool true)], args := [d1, d2, d3] }
  | _ => none }
def atomicCellsRow : OpenClaim := { program := "ytdfijdajkdkkfaa", sum := "9cfa5c4d6ccfe6bc98433abfba83c283986f5a2106a8527803f9d032cceb93e5", func := "triglyph/triglyphlaw04.AtomicCells", spec := "atomicCells", recurses := true, loops := true, apart := false }
def AtomicCellsSaid : Prop := atomicCellsRow.holds Try.pinned (OpenSpec.ofChange atomicCellsSpec)

/-- ITS FALSE NEIGHBOUR: 'it returns false'. Refute it at one input. -/
def atomicCellsWrong : ChangeSpec := { name := "atomicCells", fn := fun _ => fun
  | [d1, d2, d3] => { results := [.lit (.bool false)], args := [d1, d2, d3] }
  | _ => none }
def AtomicCellsWrongFalsely : Prop := atomicCellsRow.holds Try.pinned (OpenSpec.ofChange atomicCellsWrong)

/-- 'triglyphlaw04.AtomicTwo': WHATEVER THE INPUT: true; the input reads as it did. -/
def atomicTwoSpec : ChangeSpec := { name := "atomicTwo", fn := fun _ => fun
  | [d1, d2, d3] => { results := [.lit (.bool true)], args := [d1, d2, d3] }
  | _ => none }
def atomicTwoRow : OpenClaim := { program := "ytdfijdajkdkkfaa", sum := "9cfa5c4d6ccfe6bc98433abfba83c283986f5a2106a8527803f9d032cceb93e5", func := "triglyph/triglyphlaw04.AtomicTwo", spec := "atomicTwo", recurses := true, loops := true, apart := false }
def AtomicTwoSaid : Prop := atomicTwoRow.holds Try.pinned (OpenSpec.ofChange atomicTwoSpec)

/-- ITS FALSE NEIGHBOUR: 'it returns false'. Refute it at one input. -/
def atomicTwoWrong : ChangeSpec := { name := "atomicTwo", fn := fun _ => fun
  | [d1, d2, d3] => { results := [.lit (.bool false)], args := [d1, d2, d3] }
  | _ => none }
def AtomicTwoWrongFalsely : Prop := atomicTwoRow.holds Try.pinned (OpenSpec.ofChange atomicTwoWrong)

/-- 'triglyphlaw04.AtomicAgrees': WHATEVER THE INPUT: true; the input reads as it did. -/
def atomicAgreesSpec : ChangeSpec := { name := "atomicAgrees", fn := fun _ => fun
  | [d1, d2] => { results := [.lit (.bool true)], args := [d1, d2] }
  | _ => none }
def atomicAgreesRow : OpenClaim := { program := "ytdfijdajkdkkfaa", sum := "9cfa5c4d6ccfe6bc98433abfba83c283986f5a2106a8527803f9d032cceb93e5", func := "triglyph/triglyphlaw04.AtomicAgrees", spec := "atomicAgrees", recurses := true, apart := false }
def AtomicAgreesSaid : Prop := atomicAgreesRow.holds Try.pinned (OpenSpec.ofChange atomicAgreesSpec)

/-- ITS FALSE NEIGHBOUR: 'it returns false'. Refute it at one input. -/
def atomicAgreesWrong : ChangeSpec := { name := "atomicAgrees", fn := fun _ => fun
  | [d1, d2] => { results := [.lit (.bool false)], args := [d1, d2] }
  | _ => none }
def AtomicAgreesWrongFalsely : Prop := atomicAgreesRow.holds Try.pinned (OpenSpec.ofChange atomicAgreesWrong)

/-- 'triglyphlaw04.AtomicTurned': WHATEVER THE INPUT: true; the input reads as it did. -/
def atomicTurnedSpec : ChangeSpec := { name := "atomicTurned", fn := fun _ => fun
  | [d1, d2, d3] => { results := [.lit (.bool true)], args := [d1, d2, d3] }
  | _ => none }
def atomicTurnedRow : OpenClaim := { program := "ytdfijdajkdkkfaa", sum := "9cfa5c4d6ccfe6bc98433abfba83c283986f5a2106a8527803f9d032cceb93e5", func := "triglyph/triglyphlaw04.AtomicTurned", spec := "atomicTurned", recurses := true, loops := true, apart := false }
def AtomicTurnedSaid : Prop := atomicTurnedRow.holds Try.pinned (OpenSpec.ofChange atomicTurnedSpec)

/-- ITS FALSE NEIGHBOUR: 'it returns false'. Refute it at one input. -/
def atomicTurnedWrong : ChangeSpec := { name := "atomicTurned", fn := fun _ => fun
  | [d1, d2, d3] => { results := [.lit (.bool false)], args := [d1, d2, d3] }
  | _ => none }
def AtomicTurnedWrongFalsely : Prop := atomicTurnedRow.holds Try.pinned (OpenSpec.ofChange atomicTurnedWrong)

/- THE SECOND FORM. 'bulk': how many values and letters a reading holds, each counted each time it is reached (what is shared counts as often as it is met; a slice's spare places count too). A statement '..UptoSaid' is the law's where the arguments, and the package variables that the reading takes, are together of bulk at most 1048576: NARROWER than '..Said'. Prove '..Said' where nothing that the law and all that it calls make is longer than what came in: it says more and counts as full. Else prove '..UptoSaid'. A law counts once. -/
mutual
def uptoBulk {H : Type} : DataW H → Nat
  | .lit (.string bytes) => bytes.length + 1
  | .lit _ => 1
  | .nil => 1
  | .ptr d => uptoBulk d + 1
  | .slice elems spare => uptoBulkAll elems + uptoBulkAll spare + 1
  | .agg parts => uptoBulkAll parts + 1
  | .iface _ d => uptoBulk d + 1
  | .map entries => uptoBulkEntries entries + 1
  | .held _ => 1
def uptoBulkAll {H : Type} : List (DataW H) → Nat
  | [] => 0
  | d :: r => uptoBulk d + uptoBulkAll r
def uptoBulkEntries {H : Type} : List (Lit × DataW H) → Nat
  | [] => 0
  | x :: r => uptoBulkEntry x + uptoBulkEntries r
def uptoBulkEntry {H : Type} : Lit × DataW H → Nat
  | (.string bytes, d) => bytes.length + uptoBulk d + 1
  | (_, d) => uptoBulk d + 1
 end
def uptoSmall : (H : Type) → List (DataW H) → Bool := fun _ ds => decide (uptoBulkAll ds ≤ 1048576)
def OpenSpec.upto (s : _root_.Go.ChangeSpec) : _root_.Go.OpenSpec := { _root_.Go.OpenSpec.ofChange s with cond := some uptoSmall }

/-- 'triglyphlaw03.ArrCopies', WHERE WHAT IT READS IS OF BULK AT MOST 1048576: true; the input reads as it did. -/
def arrCopiesUptoRow : OpenClaim := { program := "ytdfijdajkdkkfaa", sum := "9cfa5c4d6ccfe6bc98433abfba83c283986f5a2106a8527803f9d032cceb93e5", func := "triglyph/triglyphlaw03.ArrCopies", spec := "arrCopies", unfollowed := true, recurses := true, loops := true, apart := false, narrowed := true }
def ArrCopiesUptoSaid : Prop := arrCopiesUptoRow.holds Try.pinned (OpenSpec.upto arrCopiesSpec)

/-- 'triglyphlaw10.CoreSame', WHERE WHAT IT READS IS OF BULK AT MOST 1048576: true; the input reads as it did. -/
def coreSameUptoRow : OpenClaim := { program := "ytdfijdajkdkkfaa", sum := "9cfa5c4d6ccfe6bc98433abfba83c283986f5a2106a8527803f9d032cceb93e5", func := "triglyph/triglyphlaw10.CoreSame", spec := "coreSame", unfollowed := true, recurses := true, loops := true, apart := false, narrowed := true }
def CoreSameUptoSaid : Prop := coreSameUptoRow.holds Try.pinned (OpenSpec.upto coreSameSpec)

/-- 'triglyphlaw10.CoreWraps', WHERE WHAT IT READS IS OF BULK AT MOST 1048576: true; the input reads as it did. -/
def coreWrapsUptoRow : OpenClaim := { program := "ytdfijdajkdkkfaa", sum := "9cfa5c4d6ccfe6bc98433abfba83c283986f5a2106a8527803f9d032cceb93e5", func := "triglyph/triglyphlaw10.CoreWraps", spec := "coreWraps", unfollowed := true, recurses := true, loops := true, apart := false, narrowed := true }
def CoreWrapsUptoSaid : Prop := coreWrapsUptoRow.holds Try.pinned (OpenSpec.upto coreWrapsSpec)

/-- 'triglyphlaw05.LayoutOne', WHERE WHAT IT READS IS OF BULK AT MOST 1048576: true; the input reads as it did. -/
def layoutOneUptoRow : OpenClaim := { program := "ytdfijdajkdkkfaa", sum := "9cfa5c4d6ccfe6bc98433abfba83c283986f5a2106a8527803f9d032cceb93e5", func := "triglyph/triglyphlaw05.LayoutOne", spec := "layoutOne", recurses := true, loops := true, apart := false, narrowed := true }
def LayoutOneUptoSaid : Prop := layoutOneUptoRow.holds Try.pinned (OpenSpec.upto layoutOneSpec)

/-- 'triglyphlaw05.LayoutReshapes', WHERE WHAT IT READS IS OF BULK AT MOST 1048576: true; the input reads as it did. -/
def layoutReshapesUptoRow : OpenClaim := { program := "ytdfijdajkdkkfaa", sum := "9cfa5c4d6ccfe6bc98433abfba83c283986f5a2106a8527803f9d032cceb93e5", func := "triglyph/triglyphlaw05.LayoutReshapes", spec := "layoutReshapes", recurses := true, loops := true, apart := false, narrowed := true }
def LayoutReshapesUptoSaid : Prop := layoutReshapesUptoRow.holds Try.pinned (OpenSpec.upto layoutReshapesSpec)

/-- 'triglyphlaw05.LayoutBack', WHERE WHAT IT READS IS OF BULK AT MOST 1048576: true; the input reads as it did. -/
def layoutBackUptoRow : OpenClaim := { program := "ytdfijdajkdkkfaa", sum := "9cfa5c4d6ccfe6bc98433abfba83c283986f5a2106a8527803f9d032cceb93e5", func := "triglyph/triglyphlaw05.LayoutBack", spec := "layoutBack", recurses := true, loops := true, apart := false, narrowed := true }
def LayoutBackUptoSaid : Prop := layoutBackUptoRow.holds Try.pinned (OpenSpec.upto layoutBackSpec)

/-- 'triglyphlaw05.LayoutRavels', WHERE WHAT IT READS IS OF BULK AT MOST 1048576: true; the input reads as it did. -/
def layoutRavelsUptoRow : OpenClaim := { program := "ytdfijdajkdkkfaa", sum := "9cfa5c4d6ccfe6bc98433abfba83c283986f5a2106a8527803f9d032cceb93e5", func := "triglyph/triglyphlaw05.LayoutRavels", spec := "layoutRavels", recurses := true, loops := true, apart := false, narrowed := true }
def LayoutRavelsUptoSaid : Prop := layoutRavelsUptoRow.holds Try.pinned (OpenSpec.upto layoutRavelsSpec)

/-- 'triglyphlaw05.LayoutMay', WHERE WHAT IT READS IS OF BULK AT MOST 1048576: true; the input reads as it did. -/
def layoutMayUptoRow : OpenClaim := { program := "ytdfijdajkdkkfaa", sum := "9cfa5c4d6ccfe6bc98433abfba83c283986f5a2106a8527803f9d032cceb93e5", func := "triglyph/triglyphlaw05.LayoutMay", spec := "layoutMay", recurses := true, loops := true, apart := false, narrowed := true }
def LayoutMayUptoSaid : Prop := layoutMayUptoRow.holds Try.pinned (OpenSpec.upto layoutMaySpec)

/-- 'triglyphlaw05.LayoutOwn', WHERE WHAT IT READS IS OF BULK AT MOST 1048576: true; the input reads as it did. -/
def layoutOwnUptoRow : OpenClaim := { program := "ytdfijdajkdkkfaa", sum := "9cfa5c4d6ccfe6bc98433abfba83c283986f5a2106a8527803f9d032cceb93e5", func := "triglyph/triglyphlaw05.LayoutOwn", spec := "layoutOwn", recurses := true, loops := true, apart := false, narrowed := true }
def LayoutOwnUptoSaid : Prop := layoutOwnUptoRow.holds Try.pinned (OpenSpec.upto layoutOwnSpec)

/-- 'triglyphlaw24.FragFits', WHERE WHAT IT READS IS OF BULK AT MOST 1048576: true; the input reads as it did. -/
def fragFitsUptoRow : OpenClaim := { program := "ytdfijdajkdkkfaa", sum := "9cfa5c4d6ccfe6bc98433abfba83c283986f5a2106a8527803f9d032cceb93e5", func := "triglyph/triglyphlaw24.FragFits", spec := "fragFits", unfollowed := true, recurses := true, loops := true, apart := false, narrowed := true }
def FragFitsUptoSaid : Prop := fragFitsUptoRow.holds Try.pinned (OpenSpec.upto fragFitsSpec)

/-- 'triglyphlaw24.FragParts', WHERE WHAT IT READS IS OF BULK AT MOST 1048576: true; the input reads as it did. -/
def fragPartsUptoRow : OpenClaim := { program := "ytdfijdajkdkkfaa", sum := "9cfa5c4d6ccfe6bc98433abfba83c283986f5a2106a8527803f9d032cceb93e5", func := "triglyph/triglyphlaw24.FragParts", spec := "fragParts", unfollowed := true, recurses := true, loops := true, apart := false, narrowed := true }
def FragPartsUptoSaid : Prop := fragPartsUptoRow.holds Try.pinned (OpenSpec.upto fragPartsSpec)

/-- 'triglyphlaw04.AtomicCells', WHERE WHAT IT READS IS OF BULK AT MOST 1048576: true; the input reads as it did. -/
def atomicCellsUptoRow : OpenClaim := { program := "ytdfijdajkdkkfaa", sum := "9cfa5c4d6ccfe6bc98433abfba83c283986f5a2106a8527803f9d032cceb93e5", func := "triglyph/triglyphlaw04.AtomicCells", spec := "atomicCells", recurses := true, loops := true, apart := false, narrowed := true }
def AtomicCellsUptoSaid : Prop := atomicCellsUptoRow.holds Try.pinned (OpenSpec.upto atomicCellsSpec)

/-- 'triglyphlaw04.AtomicTwo', WHERE WHAT IT READS IS OF BULK AT MOST 1048576: true; the input reads as it did. -/
def atomicTwoUptoRow : OpenClaim := { program := "ytdfijdajkdkkfaa", sum := "9cfa5c4d6ccfe6bc98433abfba83c283986f5a2106a8527803f9d032cceb93e5", func := "triglyph/triglyphlaw04.AtomicTwo", spec := "atomicTwo", recurses := true, loops := true, apart := false, narrowed := true }
def AtomicTwoUptoSaid : Prop := atomicTwoUptoRow.holds Try.pinned (OpenSpec.upto atomicTwoSpec)

/-- 'triglyphlaw04.AtomicAgrees', WHERE WHAT IT READS IS OF BULK AT MOST 1048576: true; the input reads as it did. -/
def atomicAgreesUptoRow : OpenClaim := { program := "ytdfijdajkdkkfaa", sum := "9cfa5c4d6ccfe6bc98433abfba83c283986f5a2106a8527803f9d032cceb93e5", func := "triglyph/triglyphlaw04.AtomicAgrees", spec := "atomicAgrees", recurses := true, apart := false, narrowed := true }
def AtomicAgreesUptoSaid : Prop := atomicAgreesUptoRow.holds Try.pinned (OpenSpec.upto atomicAgreesSpec)

/-- 'triglyphlaw04.AtomicTurned', WHERE WHAT IT READS IS OF BULK AT MOST 1048576: true; the input reads as it did. -/
def atomicTurnedUptoRow : OpenClaim := { program := "ytdfijdajkdkkfaa", sum := "9cfa5c4d6ccfe6bc98433abfba83c283986f5a2106a8527803f9d032cceb93e5", func := "triglyph/triglyphlaw04.AtomicTurned", spec := "atomicTurned", recurses := true, loops := true, apart := false, narrowed := true }
def AtomicTurnedUptoSaid : Prop := atomicTurnedUptoRow.holds Try.pinned (OpenSpec.upto atomicTurnedSpec)

end Rows
end Go.Proofs.Ytdfijdajkdkkfaa
