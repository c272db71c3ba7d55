/-
  No cell of these rows narrows 'for every input' (looked for: loops, veiled, ifaces, maps, wideKeys, modest, calm, conditions, laid).
  DERIVED. THE GIVEN ROWS OF THIS SEAT. 8 by the template 'for every input the law returns true; each argument reads behind the call as it read before'; 0 by the template 'total and deterministic' (their statements: YtnkeepjpkdjcdaaTotals.lean).
  GIVEN WITH THE SEED: the statements are not yours to turn. If you find one false, say at which input.
  Laid BY PROGRAM, IN A SANDBOX (cutbox-rows.mjs): the forced cells as the released guide's own fill.sh prints them over the translation 0b3362aed452f9a2… (all of the seat's roots in one cut). By AI agents, Wed Nov 11 2026. No macro, syntax, notation, axiom, sorry.
-/
import Derived.Test.YtnkeepjpkdjcdaaChecked
import GoSem.Claim
import GoSem.ClaimJoined
import GoSem.ClaimMapViews
import Derived.JoinedTies
import Derived.KernelRfl
namespace Go.Proofs.Ytnkeepjpkdjcdaa
/- THE CELL 'sum', in the pinned program and in every row, IS THE sha256 OF THE DUMP (.gsa) THAT YtnkeepjpkdjcdaaProg.lean LOADS. Nothing in Lean hashes anything: it is a label: what it is worth is what the hold of that sum in a sandbox is worth. -/
noncomputable def Try.pinned : Pinned := { name := "ytnkeepjpkdjcdaa", sum := "0b3362aed452f9a2bace729221f98660a35201b4c779ad4ae2eacf93c2b870bf", checked := Try.checked }
namespace Rows
def none {H : Type} : Left H := { results := [], args := [] }

/-- 'vellumlaw19.MarksShifts': WHATEVER THE INPUT: true; the input reads as it did. -/
def marksShiftsSpec : ChangeSpec := { name := "marksShifts", fn := fun _ => fun
  | [d1, d2] => { results := [.lit (.bool true)], args := [d1, d2] }
  | _ => none }
def marksShiftsRow : OpenClaim := { program := "ytnkeepjpkdjcdaa", sum := "0b3362aed452f9a2bace729221f98660a35201b4c779ad4ae2eacf93c2b870bf", func := "vellum/vellumlaw19.MarksShifts", spec := "marksShifts", inPlace := ["internal/abi.NoEscape"], unfollowed := true, recurses := true, apart := false }
def MarksShiftsSaid : Prop := marksShiftsRow.holds Try.pinned (OpenSpec.ofChange marksShiftsSpec)

/-- ITS FALSE NEIGHBOUR: 'it returns false'. Refute it at one input. -/
def marksShiftsWrong : ChangeSpec := { name := "marksShifts", fn := fun _ => fun
  | [d1, d2] => { results := [.lit (.bool false)], args := [d1, d2] }
  | _ => none }
def MarksShiftsWrongFalsely : Prop := marksShiftsRow.holds Try.pinned (OpenSpec.ofChange marksShiftsWrong)

/-- 'vellumlaw19.MarksGo': WHATEVER THE INPUT: true; the input reads as it did. -/
def marksGoSpec : ChangeSpec := { name := "marksGo", fn := fun _ => fun
  | [d1, d2] => { results := [.lit (.bool true)], args := [d1, d2] }
  | _ => none }
def marksGoRow : OpenClaim := { program := "ytnkeepjpkdjcdaa", sum := "0b3362aed452f9a2bace729221f98660a35201b4c779ad4ae2eacf93c2b870bf", func := "vellum/vellumlaw19.MarksGo", spec := "marksGo", inPlace := ["internal/abi.NoEscape"], unfollowed := true, recurses := true, apart := false }
def MarksGoSaid : Prop := marksGoRow.holds Try.pinned (OpenSpec.ofChange marksGoSpec)

/-- ITS FALSE NEIGHBOUR: 'it returns false'. Refute it at one input. -/
def marksGoWrong : ChangeSpec := { name := "marksGo", fn := fun _ => fun
  | [d1, d2] => { results := [.lit (.bool false)], args := [d1, d2] }
  | _ => none }
def MarksGoWrongFalsely : Prop := marksGoRow.holds Try.pinned (OpenSpec.ofChange marksGoWrong)

/-- 'vellumlaw19.MarksTwo': WHATEVER THE INPUT: true; the input reads as it did. -/
def marksTwoSpec : ChangeSpec := { name := "marksTwo", fn := fun _ => fun
  | [d1, d2, d3] => { results := [.lit (.bool true)], args := [d1, d2, d3] }
  | _ => none }
def marksTwoRow : OpenClaim := { program := "ytnkeepjpkdjcdaa", sum := "0b3362aed452f9a2bace729221f98660a35201b4c779ad4ae2eacf93c2b870bf", func := "vellum/vellumlaw19.MarksTwo", spec := "marksTwo", inPlace := ["internal/abi.NoEscape"], unfollowed := true, recurses := true, apart := false }
def MarksTwoSaid : Prop := marksTwoRow.holds Try.pinned (OpenSpec.ofChange marksTwoSpec)

/-- ITS FALSE NEIGHBOUR: 'it returns false'. Refute it at one input. -/
def marksTwoWrong : ChangeSpec := { name := "marksTwo", fn := fun _ => fun
  | [d1, d2, d3] => { results := [.lit (.bool false)], args := [d1, d2, d3] }
  | _ => none }
def MarksTwoWrongFalsely : Prop := marksTwoRow.holds Try.pinned (OpenSpec.ofChange marksTwoWrong)

/-- 'vellumlaw19.MarksSets': WHATEVER THE INPUT: true; the input reads as it did. -/
def marksSetsSpec : ChangeSpec := { name := "marksSets", fn := fun _ => fun
  | [d1, d2, d3] => { results := [.lit (.bool true)], args := [d1, d2, d3] }
  | _ => none }
def marksSetsRow : OpenClaim := { program := "ytnkeepjpkdjcdaa", sum := "0b3362aed452f9a2bace729221f98660a35201b4c779ad4ae2eacf93c2b870bf", func := "vellum/vellumlaw19.MarksSets", spec := "marksSets", inPlace := ["internal/abi.NoEscape"], unfollowed := true, recurses := true, apart := false }
def MarksSetsSaid : Prop := marksSetsRow.holds Try.pinned (OpenSpec.ofChange marksSetsSpec)

/-- ITS FALSE NEIGHBOUR: 'it returns false'. Refute it at one input. -/
def marksSetsWrong : ChangeSpec := { name := "marksSets", fn := fun _ => fun
  | [d1, d2, d3] => { results := [.lit (.bool false)], args := [d1, d2, d3] }
  | _ => none }
def MarksSetsWrongFalsely : Prop := marksSetsRow.holds Try.pinned (OpenSpec.ofChange marksSetsWrong)

/-- 'vellumlaw19.MarksOrders': WHATEVER THE INPUT: true; the input reads as it did. -/
def marksOrdersSpec : ChangeSpec := { name := "marksOrders", fn := fun _ => fun
  | [d] => { results := [.lit (.bool true)], args := [d] }
  | _ => none }
def marksOrdersRow : OpenClaim := { program := "ytnkeepjpkdjcdaa", sum := "0b3362aed452f9a2bace729221f98660a35201b4c779ad4ae2eacf93c2b870bf", func := "vellum/vellumlaw19.MarksOrders", spec := "marksOrders", inPlace := ["internal/abi.NoEscape"], unfollowed := true, recurses := true, apart := false }
def MarksOrdersSaid : Prop := marksOrdersRow.holds Try.pinned (OpenSpec.ofChange marksOrdersSpec)

/-- ITS FALSE NEIGHBOUR: 'it returns false'. Refute it at one input. -/
def marksOrdersWrong : ChangeSpec := { name := "marksOrders", fn := fun _ => fun
  | [d] => { results := [.lit (.bool false)], args := [d] }
  | _ => none }
def MarksOrdersWrongFalsely : Prop := marksOrdersRow.holds Try.pinned (OpenSpec.ofChange marksOrdersWrong)

/-- 'vellumlaw19.MarksPacks': WHATEVER THE INPUT: true; the input reads as it did. -/
def marksPacksSpec : ChangeSpec := { name := "marksPacks", fn := fun _ => fun
  | [d1, d2] => { results := [.lit (.bool true)], args := [d1, d2] }
  | _ => none }
def marksPacksRow : OpenClaim := { program := "ytnkeepjpkdjcdaa", sum := "0b3362aed452f9a2bace729221f98660a35201b4c779ad4ae2eacf93c2b870bf", func := "vellum/vellumlaw19.MarksPacks", spec := "marksPacks", inPlace := ["internal/abi.NoEscape"], unfollowed := true, recurses := true, apart := false }
def MarksPacksSaid : Prop := marksPacksRow.holds Try.pinned (OpenSpec.ofChange marksPacksSpec)

/-- ITS FALSE NEIGHBOUR: 'it returns false'. Refute it at one input. -/
def marksPacksWrong : ChangeSpec := { name := "marksPacks", fn := fun _ => fun
  | [d1, d2] => { results := [.lit (.bool false)], args := [d1, d2] }
  | _ => none }
def MarksPacksWrongFalsely : Prop := marksPacksRow.holds Try.pinned (OpenSpec.ofChange marksPacksWrong)

/-- 'vellumlaw19.MarksKeep': WHATEVER THE INPUT: true; the input reads as it did. -/
def marksKeepSpec : ChangeSpec := { name := "marksKeep", fn := fun _ => fun
  | [d1, d2] => { results := [.lit (.bool true)], args := [d1, d2] }
  | _ => none }
def marksKeepRow : OpenClaim := { program := "ytnkeepjpkdjcdaa", sum := "0b3362aed452f9a2bace729221f98660a35201b4c779ad4ae2eacf93c2b870bf", func := "vellum/vellumlaw19.MarksKeep", spec := "marksKeep", inPlace := ["internal/abi.NoEscape"], unfollowed := true, recurses := true, apart := false }
def MarksKeepSaid : Prop := marksKeepRow.holds Try.pinned (OpenSpec.ofChange marksKeepSpec)

/-- ITS FALSE NEIGHBOUR: 'it returns false'. Refute it at one input. -/
def marksKeepWrong : ChangeSpec := { name := "marksKeep", fn := fun _ => fun
  | [d1, d2] => { results := [.lit (.bool false)], args := [d1, d2] }
  | _ => none }
def MarksKeepWrongFalsely : Prop := marksKeepRow.holds Try.pinned (OpenSpec.ofChange marksKeepWrong)

/-- 'vellumlaw19.MarksKnown': WHATEVER THE INPUT: true; the input reads as it did. -/
def marksKnownSpec : ChangeSpec := { name := "marksKnown", fn := fun _ => fun
  | [] => { results := [.lit (.bool true)], args := [] }
  | _ => none }
def marksKnownRow : OpenClaim := { program := "ytnkeepjpkdjcdaa", sum := "0b3362aed452f9a2bace729221f98660a35201b4c779ad4ae2eacf93c2b870bf", func := "vellum/vellumlaw19.MarksKnown", spec := "marksKnown", inPlace := ["internal/abi.NoEscape"], unfollowed := true, recurses := true, apart := false }
def MarksKnownSaid : Prop := marksKnownRow.holds Try.pinned (OpenSpec.ofChange marksKnownSpec)

/-- ITS FALSE NEIGHBOUR: 'it returns false'. Refute it at one input. -/
def marksKnownWrong : ChangeSpec := { name := "marksKnown", fn := fun _ => fun
  | [] => { results := [.lit (.bool false)], args := [] }
  | _ => none }
def MarksKnownWrongFalsely : Prop := marksKnownRow.holds Try.pinned (OpenSpec.ofChange marksKnownWrong)

/- THE SECOND FORM. 'bulk': how many values and letters a reading holds, each counted each time it is reached (what is shared counts as often as it is met; a slice's spare places count too). A statement '..UptoSaid' is the law's where the arguments, and the package variables that the reading takes, are together of bulk at most 1048576: NARROWER than '..Said'. Prove '..Said' where nothing that the law and all that it calls make is longer than what came in: it says more and counts as full. Else prove '..UptoSaid'. A law counts once. -/
mutual
def uptoBulk {H : Type} : DataW H → Nat
  | .lit (.string bytes) => bytes.length + 1
  | .lit _ => 1
  | .nil => 1
  | .ptr d => uptoBulk d + 1
  | .slice elems spare => uptoBulkAll elems + uptoBulkAll spare + 1
  | .agg parts => uptoBulkAll parts + 1
  | .iface _ d => uptoBulk d + 1
  | .map entries => uptoBulkEntries entries + 1
  | .held _ => 1
def uptoBulkAll {H : Type} : List (DataW H) → Nat
  | [] => 0
  | d :: r => uptoBulk d + uptoBulkAll r
def uptoBulkEntries {H : Type} : List (Lit × DataW H) → Nat
  | [] => 0
  | x :: r => uptoBulkEntry x + uptoBulkEntries r
def uptoBulkEntry {H : Type} : Lit × DataW H → Nat
  | (.string bytes, d) => bytes.length + uptoBulk d + 1
  | (_, d) => uptoBulk d + 1
 end
def uptoSmall : (H : Type) → List (DataW H) → Bool := fun _ ds => decide (uptoBulkAll ds ≤ 1048576)
def OpenSpec.upto (s : _root_.Go.ChangeSpec) : _root_.Go.OpenSpec := { _root_.Go.OpenSpec.ofChange s with cond := some uptoSmall }

/-- 'vellumlaw19.MarksShifts', WHERE WHAT IT READS IS OF BULK AT MOST 1048576: true; the input reads as it did. -/
def marksShiftsUptoRow : OpenClaim := { program := "ytnkeepjpkdjcdaa", sum := "0b3362aed452f9a2bace729221f98660a35201b4c779ad4ae2eacf93c2b870bf", func := "vellum/vellumlaw19.MarksShifts", spec := "marksShifts", inPlace := ["internal/abi.NoEscape"], unfollowed := true, recurses := true, apart := false, narrowed := true }
def MarksShiftsUptoSaid : Prop := marksShiftsUptoRow.holds Try.pinned (OpenSpec.upto marksShiftsSpec)

/-- 'vellumlaw19.MarksGo', WHERE WHAT IT READS IS OF BULK AT MOST 1048576: true; the input reads as it did. -/
def marksGoUptoRow : OpenClaim := { program := "ytnkeepjpkdjcdaa", sum := "0b3362aed452f9a2bace729221f98660a35201b4c779ad4ae2eacf93c2b870bf", func := "vellum/vellumlaw19.MarksGo", spec := "marksGo", inPlace := ["internal/abi.NoEscape"], unfollowed := true, recurses := true, apart := false, narrowed := true }
def MarksGoUptoSaid : Prop := marksGoUptoRow.holds Try.pinned (OpenSpec.upto marksGoSpec)

/-- 'vellumlaw19.MarksTwo', WHERE WHAT IT READS IS OF BULK AT MOST 1048576: true; the input reads as it did. -/
def marksTwoUptoRow : OpenClaim := { program := "ytnkeepjpkdjcdaa", sum := "0b3362aed452f9a2bace729221f98660a35201b4c779ad4ae2eacf93c2b870bf", func := "vellum/vellumlaw19.MarksTwo", spec := "marksTwo", inPlace := ["internal/abi.NoEscape"], unfollowed := true, recurses := true, apart := false, narrowed := true }
def MarksTwoUptoSaid : Prop := marksTwoUptoRow.holds Try.pinned (OpenSpec.upto marksTwoSpec)

/-- 'vellumlaw19.MarksSets', WHERE WHAT IT READS IS OF BULK AT MOST 1048576: true; the input reads as it did. -/
def marksSetsUptoRow : OpenClaim := { program := "ytnkeepjpkdjcdaa", sum := "0b3362aed452f9a2bace729221f98660a35201b4c779ad4ae2eacf93c2b870bf", func := "vellum/vellumlaw19.MarksSets", spec := "marksSets", inPlace := ["internal/abi.NoEscape"], unfollowed := true, recurses := true, apart := false, narrowed := true }
def MarksSetsUptoSaid : Prop := marksSetsUptoRow.holds Try.pinned (OpenSpec.upto marksSetsSpec)

/-- 'vellumlaw19.MarksOrders', WHERE WHAT IT READS IS OF BULK AT MOST 1048576: true; the input reads as it did. -/
def marksOrdersUptoRow : OpenClaim := { program := "ytnkeepjpkdjcdaa", sum := "0b3362aed452f9a2bace729221f98660a35201b4c779ad4ae2eacf93c2b870bf", func := "vellum/vellumlaw19.MarksOrders", spec := "marksOrders", inPlace := ["internal/abi.NoEscape"], unfollowed := true, recurses := true, apart := false, narrowed := true }
def MarksOrdersUptoSaid : Prop := marksOrdersUptoRow.holds Try.pinned (OpenSpec.upto marksOrdersSpec)

/-- 'vellumlaw19.MarksPacks', WHERE WHAT IT READS IS OF BULK AT MOST 1048576: true; the input reads as it did. -/
def marksPacksUptoRow : OpenClaim := { program := "ytnkeepjpkdjcdaa", sum := "0b3362aed452f9a2bace729221f98660a35201b4c779ad4ae2eacf93c2b870bf", func := "vellum/vellumlaw19.MarksPacks", spec := "marksPacks", inPlace := ["internal/abi.NoEscape"], unfollowed := true, recurses := true, apart := false, narrowed := true }
def MarksPacksUptoSaid : Prop := marksPacksUptoRow.holds Try.pinned (OpenSpec.upto marksPacksSpec)

/-- 'vellumlaw19.MarksKeep', WHERE WHAT IT READS IS OF BULK AT MOST 1048576: true; the input reads as it did. -/
def marksKeepUptoRow : OpenClaim := { program := "ytnkeepjpkdjcdaa", sum := "0b3362aed452f9a2bace729221f98660a35201b4c779ad4ae2eacf93c2b870bf", func := "vellum/vellumlaw19.MarksKeep", spec := "marksKeep", inPlace := ["internal/abi.NoEscape"], unfollowed := true, recurses := true, apart := false, narrowed := true }
def MarksKeepUptoSaid : Prop := marksKeepUptoRow.holds Try.pinned (OpenSpec.upto marksKeepSpec)

/-- 'vellumlaw19.MarksKnown', WHERE WHAT IT READS IS OF BULK AT MOST 1048576: true; the input reads as it did. -/
def marksKnownUptoRow : OpenClaim := { program := "ytnkeepjpkdjcdaa", sum := "0b3362aed452f9a2bace729221f98660a35201b4c779ad4ae2eacf93c2b870bf", func := "vellum/vellumlaw19.MarksKnown", spec := "marksKnown", inPlace := ["internal/abi.NoEscape"], unfollowed := true, recurses := true, apart := false, narrowed := true }
def MarksKnownUptoSaid : Prop := marksKnownUptoRow.holds Try.pinned (OpenSpec.upto marksKnownSpec)

end Rows
end Go.Proofs.Ytnkeepjpkdjcdaa
