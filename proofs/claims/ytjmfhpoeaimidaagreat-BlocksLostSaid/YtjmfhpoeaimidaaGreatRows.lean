/-
  No cell of these rows narrows 'for every input' (looked for: loops, veiled, ifaces, maps, wideKeys, modest, calm, conditions, laid).
  DERIVED. THE GIVEN ROWS OF THIS SEAT. 5 by the template 'for every input the law returns true; each argument reads behind the call as it read before'; 0 by the template 'total and deterministic' (their statements: YtjmfhpoeaimidaaGreatTotals.lean).
  GIVEN WITH THE SEED: the statements are not yours to turn. If you find one false, say at which input.
  Laid BY PROGRAM, IN A SANDBOX (cutbox-rows.mjs): the forced cells as the released guide's own fill.sh prints them over the translation e2e53ac73126a58d… (all of the seat's roots in one cut). By AI agents, Wed Nov 11 2026. No macro, syntax, notation, axiom, sorry.
-/
import Derived.Test.YtjmfhpoeaimidaaGreatChecked
import GoSem.Claim
import GoSem.ClaimJoined
import GoSem.ClaimMapViews
import Derived.JoinedTies
import Derived.KernelRfl
namespace Go.Proofs.YtjmfhpoeaimidaaGreat
/- THE CELL 'sum', in the pinned program and in every row, IS THE sha256 OF THE DUMP (.gsa) THAT YtjmfhpoeaimidaaGreatProg.lean LOADS. Nothing in Lean hashes anything: it is a label: what it is worth is what the hold of that sum in a sandbox is worth. -/
noncomputable def Tryz.pinned : Pinned := { name := "ytjmfhpoeaimidaagreat", sum := "e2e53ac73126a58d85d699fb09fb0c08c7dd7e4058b1826584481a6d3c30c3d5", checked := Tryz.checked }
namespace Rows
def none {H : Type} : Left H := { results := [], args := [] }

/-- 'vellumlaw13.BlocksKeep': WHATEVER THE INPUT: true; the input reads as it did. -/
def blocksKeepSpec : ChangeSpec := { name := "blocksKeep", fn := fun _ => fun
  | [d1, d2] => { results := [.lit (.bool true)], args := [d1, d2] }
  | _ => none }
def blocksKeepRow : OpenClaim := { program := "ytjmfhpoeaimidaagreat", sum := "e2e53ac73126a58d85d699fb09fb0c08c7dd7e4058b1826584481a6d3c30c3d5", func := "vellum/vellumlaw13.BlocksKeep", spec := "blocksKeep", inPlace := ["maps.clone"], unfollowed := true, recurses := true, apart := false }
def BlocksKeepSaid : Prop := blocksKeepRow.holds Tryz.pinned (OpenSpec.ofChange blocksKeepSpec)

/-- ITS FALSE NEIGHBOUR: 'it returns false'. Refute it at one input. -/
def blocksKeepWrong : ChangeSpec := { name := "blocksKeep", fn := fun _ => fun
  | [d1, d2] => { results := [.lit (.bool false)], args := [d1, d2] }
  | _ => none }
def BlocksKeepWrongFalsely : Prop := blocksKeepRow.holds Tryz.pinned (OpenSpec.ofChange blocksKeepWrong)

/-- 'vellumlaw13.BlocksMade': WHATEVER THE INPUT: true; the input reads as it did. -/
def blocksMadeSpec : ChangeSpec := { name := "blocksMade", fn := fun _ => fun
  | [d1, d2, d3] => { results := [.lit (.bool true)], args := [d1, d2, d3] }
  | _ => none }
def blocksMadeRow : OpenClaim := { program := "ytjmfhpoeaimidaagreat", sum := "e2e53ac73126a58d85d699fb09fb0c08c7dd7e4058b1826584481a6d3c30c3d5", func := "vellum/vellumlaw13.BlocksMade", spec := "blocksMade", inPlace := ["maps.clone"], unfollowed := true, recurses := true, apart := false }
def BlocksMadeSaid : Prop := blocksMadeRow.holds Tryz.pinned (OpenSpec.ofChange blocksMadeSpec)

/-- ITS FALSE NEIGHBOUR: 'it returns false'. Refute it at one input. -/
def blocksMadeWrong : ChangeSpec := { name := "blocksMade", fn := fun _ => fun
  | [d1, d2, d3] => { results := [.lit (.bool false)], args := [d1, d2, d3] }
  | _ => none }
def BlocksMadeWrongFalsely : Prop := blocksMadeRow.holds Tryz.pinned (OpenSpec.ofChange blocksMadeWrong)

/-- 'vellumlaw13.BlocksLost': WHATEVER THE INPUT: true; the input reads as it did. -/
def blocksLostSpec : ChangeSpec := { name := "blocksLost", fn := fun _ => fun
  | [d1, d2, d3] => { results := [.lit (.bool true)], args := [d1, d2, d3] }
  | _ => none }
def blocksLostRow : OpenClaim := { program := "ytjmfhpoeaimidaagreat", sum := "e2e53ac73126a58d85d699fb09fb0c08c7dd7e4058b1826584481a6d3c30c3d5", func := "vellum/vellumlaw13.BlocksLost", spec := "blocksLost", inPlace := ["maps.clone"], unfollowed := true, recurses := true, apart := false }
def BlocksLostSaid : Prop := blocksLostRow.holds Tryz.pinned (OpenSpec.ofChange blocksLostSpec)

/-- ITS FALSE NEIGHBOUR: 'it returns false'. Refute it at one input. -/
def blocksLostWrong : ChangeSpec := { name := "blocksLost", fn := fun _ => fun
  | [d1, d2, d3] => { results := [.lit (.bool false)], args := [d1, d2, d3] }
  | _ => none }
def BlocksLostWrongFalsely : Prop := blocksLostRow.holds Tryz.pinned (OpenSpec.ofChange blocksLostWrong)

/-- 'vellumlaw13.BlocksPlays': WHATEVER THE INPUT: true; the input reads as it did. -/
def blocksPlaysSpec : ChangeSpec := { name := "blocksPlays", fn := fun _ => fun
  | [d1, d2] => { results := [.lit (.bool true)], args := [d1, d2] }
  | _ => none }
def blocksPlaysRow : OpenClaim := { program := "ytjmfhpoeaimidaagreat", sum := "e2e53ac73126a58d85d699fb09fb0c08c7dd7e4058b1826584481a6d3c30c3d5", func := "vellum/vellumlaw13.BlocksPlays", spec := "blocksPlays", inPlace := ["maps.clone"], unfollowed := true, recurses := true, apart := false }
def BlocksPlaysSaid : Prop := blocksPlaysRow.holds Tryz.pinned (OpenSpec.ofChange blocksPlaysSpec)

/-- ITS FALSE NEIGHBOUR: 'it returns false'. Refute it at one input. -/
def blocksPlaysWrong : ChangeSpec := { name := "blocksPlays", fn := fun _ => fun
  | [d1, d2] => { results := [.lit (.bool false)], args := [d1, d2] }
  | _ => none }
def BlocksPlaysWrongFalsely : Prop := blocksPlaysRow.holds Tryz.pinned (OpenSpec.ofChange blocksPlaysWrong)

/-- 'vellumlaw13.BlocksKnown': WHATEVER THE INPUT: true; the input reads as it did. -/
def blocksKnownSpec : ChangeSpec := { name := "blocksKnown", fn := fun _ => fun
  | [] => { results := [.lit (.bool true)], args := [] }
  | _ => none }
def blocksKnownRow : OpenClaim := { program := "ytjmfhpoeaimidaagreat", sum := "e2e53ac73126a58d85d699fb09fb0c08c7dd7e4058b1826584481a6d3c30c3d5", func := "vellum/vellumlaw13.BlocksKnown", spec := "blocksKnown", inPlace := ["maps.clone"], unfollowed := true, recurses := true, apart := false }
def BlocksKnownSaid : Prop := blocksKnownRow.holds Tryz.pinned (OpenSpec.ofChange blocksKnownSpec)

/-- ITS FALSE NEIGHBOUR: 'it returns false'. Refute it at one input. -/
def blocksKnownWrong : ChangeSpec := { name := "blocksKnown", fn := fun _ => fun
  | [] => { results := [.lit (.bool false)], args := [] }
  | _ => none }
def BlocksKnownWrongFalsely : Prop := blocksKnownRow.holds Tryz.pinned (OpenSpec.ofChange blocksKnownWrong)

/- THE SECOND FORM. 'bulk': how many values and letters a reading holds, each counted each time it is reached (what is shared counts as often as it is met; a slice's spare places count too). A statement '..UptoSaid' is the law's where the arguments, and the package variables that the reading takes, are together of bulk at most 1048576: NARROWER than '..Said'. Prove '..Said' where nothing that the law and all that it calls make is longer than what came in: it says more and counts as full. Else prove '..UptoSaid'. A law counts once. -/
mutual
def uptoBulk {H : Type} : DataW H → Nat
  | .lit (.string bytes) => bytes.length + 1
  | .lit _ => 1
  | .nil => 1
  | .ptr d => uptoBulk d + 1
  | .slice elems spare => uptoBulkAll elems + uptoBulkAll spare + 1
  | .agg parts => uptoBulkAll parts + 1
  | .iface _ d => uptoBulk d + 1
  | .map entries => uptoBulkEntries entries + 1
  | .held _ => 1
def uptoBulkAll {H : Type} : List (DataW H) → Nat
  | [] => 0
  | d :: r => uptoBulk d + uptoBulkAll r
def uptoBulkEntries {H : Type} : List (Lit × DataW H) → Nat
  | [] => 0
  | x :: r => uptoBulkEntry x + uptoBulkEntries r
def uptoBulkEntry {H : Type} : Lit × DataW H → Nat
  | (.string bytes, d) => bytes.length + uptoBulk d + 1
  | (_, d) => uptoBulk d + 1
 end
def uptoSmall : (H : Type) → List (DataW H) → Bool := fun _ ds => decide (uptoBulkAll ds ≤ 1048576)
def OpenSpec.upto (s : _root_.Go.ChangeSpec) : _root_.Go.OpenSpec := { _root_.Go.OpenSpec.ofChange s with cond := some uptoSmall }

/-- 'vellumlaw13.BlocksKeep', WHERE WHAT IT READS IS OF BULK AT MOST 1048576: true; the input reads as it did. -/
def blocksKeepUptoRow : OpenClaim := { program := "ytjmfhpoeaimidaagreat", sum := "e2e53ac73126a58d85d699fb09fb0c08c7dd7e4058b1826584481a6d3c30c3d5", func := "vellum/vellumlaw13.BlocksKeep", spec := "blocksKeep", inPlace := ["maps.clone"], unfollowed := true, recurses := true, apart := false, narrowed := true }
def BlocksKeepUptoSaid : Prop := blocksKeepUptoRow.holds Tryz.pinned (OpenSpec.upto blocksKeepSpec)

/-- 'vellumlaw13.BlocksMade', WHERE WHAT IT READS IS OF BULK AT MOST 1048576: true; the input reads as it did. -/
def blocksMadeUptoRow : OpenClaim := { program := "ytjmfhpoeaimidaagreat", sum := "e2e53ac73126a58d85d699fb09fb0c08c7dd7e4058b1826584481a6d3c30c3d5", func := "vellum/vellumlaw13.BlocksMade", spec := "blocksMade", inPlace := ["maps.clone"], unfollowed := true, recurses := true, apart := false, narrowed := true }
def BlocksMadeUptoSaid : Prop := blocksMadeUptoRow.holds Tryz.pinned (OpenSpec.upto blocksMadeSpec)

/-- 'vellumlaw13.BlocksLost', WHERE WHAT IT READS IS OF BULK AT MOST 1048576: true; the input reads as it did. -/
def blocksLostUptoRow : OpenClaim := { program := "ytjmfhpoeaimidaagreat", sum := "e2e53ac73126a58d85d699fb09fb0c08c7dd7e4058b1826584481a6d3c30c3d5", func := "vellum/vellumlaw13.BlocksLost", spec := "blocksLost", inPlace := ["maps.clone"], unfollowed := true, recurses := true, apart := false, narrowed := true }
def BlocksLostUptoSaid : Prop := blocksLostUptoRow.holds Tryz.pinned (OpenSpec.upto blocksLostSpec)

/-- 'vellumlaw13.BlocksPlays', WHERE WHAT IT READS IS OF BULK AT MOST 1048576: true; the input reads as it did. -/
def blocksPlaysUptoRow : OpenClaim := { program := "ytjmfhpoeaimidaagreat", sum := "e2e53ac73126a58d85d699fb09fb0c08c7dd7e4058b1826584481a6d3c30c3d5", func := "vellum/vellumlaw13.BlocksPlays", spec := "blocksPlays", inPlace := ["maps.clone"], unfollowed := true, recurses := true, apart := false, narrowed := true }
def BlocksPlaysUptoSaid : Prop := blocksPlaysUptoRow.holds Tryz.pinned (OpenSpec.upto blocksPlaysSpec)

/-- 'vellumlaw13.BlocksKnown', WHERE WHAT IT READS IS OF BULK AT MOST 1048576: true; the input reads as it did. -/
def blocksKnownUptoRow : OpenClaim := { program := "ytjmfhpoeaimidaagreat", sum := "e2e53ac73126a58d85d699fb09fb0c08c7dd7e4058b1826584481a6d3c30c3d5", func := "vellum/vellumlaw13.BlocksKnown", spec := "blocksKnown", inPlace := ["maps.clone"], unfollowed := true, recurses := true, apart := false, narrowed := true }
def BlocksKnownUptoSaid : Prop := blocksKnownUptoRow.holds Tryz.pinned (OpenSpec.upto blocksKnownSpec)

end Rows
end Go.Proofs.YtjmfhpoeaimidaaGreat
