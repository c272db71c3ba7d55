/-
  No cell of these rows narrows 'for every input' (looked for: loops, veiled, ifaces, maps, wideKeys, modest, calm, conditions, laid).
  DERIVED. THE GIVEN ROWS OF THIS SEAT. 8 by the template 'for every input the law returns true; each argument reads behind the call as it read before'; 0 by the template 'total and deterministic' (their statements: YtpjjmbmmfelooaaGreatTotals.lean).
  GIVEN WITH THE SEED: the statements are not yours to turn. If you find one false, say at which input.
  Laid BY PROGRAM, IN A SANDBOX (cutbox-rows.mjs): the forced cells as the released guide's own fill.sh prints them over the translation 04fa98b1db89ba12… (all of the seat's roots in one cut). By AI agents, Wed Nov 11 2026. No macro, syntax, notation, axiom, sorry.
-/
import Derived.Test.YtpjjmbmmfelooaaGreatChecked
import GoSem.Claim
import GoSem.ClaimJoined
import GoSem.ClaimMapViews
import Derived.JoinedTies
import Derived.KernelRfl
namespace Go.Proofs.YtpjjmbmmfelooaaGreat
/- THE CELL 'sum', in the pinned program and in every row, IS THE sha256 OF THE DUMP (.gsa) THAT YtpjjmbmmfelooaaGreatProg.lean LOADS. Nothing in Lean hashes anything: it is a label: what it is worth is what the hold of that sum in a sandbox is worth. -/
noncomputable def Tryz.pinned : Pinned := { name := "ytpjjmbmmfelooaagreat", sum := "04fa98b1db89ba12ffc495e948d495e45469c6f962cb95c2fe5520df212f9904", checked := Tryz.checked }
namespace Rows
def none {H : Type} : Left H := { results := [], args := [] }

/-- 'vellumlaw14.BlobNeeds': WHATEVER THE INPUT: true; the input reads as it did. -/
def blobNeedsSpec : ChangeSpec := { name := "blobNeeds", fn := fun _ => fun
  | [d] => { results := [.lit (.bool true)], args := [d] }
  | _ => none }
def blobNeedsRow : OpenClaim := { program := "ytpjjmbmmfelooaagreat", sum := "04fa98b1db89ba12ffc495e948d495e45469c6f962cb95c2fe5520df212f9904", func := "vellum/vellumlaw14.BlobNeeds", spec := "blobNeeds", inPlace := ["internal/abi.NoEscape"], unfollowed := true, recurses := true, apart := false }
def BlobNeedsSaid : Prop := blobNeedsRow.holds Tryz.pinned (OpenSpec.ofChange blobNeedsSpec)

/-- ITS FALSE NEIGHBOUR: 'it returns false'. Refute it at one input. -/
def blobNeedsWrong : ChangeSpec := { name := "blobNeeds", fn := fun _ => fun
  | [d] => { results := [.lit (.bool false)], args := [d] }
  | _ => none }
def BlobNeedsWrongFalsely : Prop := blobNeedsRow.holds Tryz.pinned (OpenSpec.ofChange blobNeedsWrong)

/-- 'vellumlaw14.BlobBack': WHATEVER THE INPUT: true; the input reads as it did. -/
def blobBackSpec : ChangeSpec := { name := "blobBack", fn := fun _ => fun
  | [d1, d2] => { results := [.lit (.bool true)], args := [d1, d2] }
  | _ => none }
def blobBackRow : OpenClaim := { program := "ytpjjmbmmfelooaagreat", sum := "04fa98b1db89ba12ffc495e948d495e45469c6f962cb95c2fe5520df212f9904", func := "vellum/vellumlaw14.BlobBack", spec := "blobBack", inPlace := ["internal/abi.NoEscape"], unfollowed := true, recurses := true, apart := false }
def BlobBackSaid : Prop := blobBackRow.holds Tryz.pinned (OpenSpec.ofChange blobBackSpec)

/-- ITS FALSE NEIGHBOUR: 'it returns false'. Refute it at one input. -/
def blobBackWrong : ChangeSpec := { name := "blobBack", fn := fun _ => fun
  | [d1, d2] => { results := [.lit (.bool false)], args := [d1, d2] }
  | _ => none }
def BlobBackWrongFalsely : Prop := blobBackRow.holds Tryz.pinned (OpenSpec.ofChange blobBackWrong)

/-- 'vellumlaw14.BlobEnds': WHATEVER THE INPUT: true; the input reads as it did. -/
def blobEndsSpec : ChangeSpec := { name := "blobEnds", fn := fun _ => fun
  | [d1, d2] => { results := [.lit (.bool true)], args := [d1, d2] }
  | _ => none }
def blobEndsRow : OpenClaim := { program := "ytpjjmbmmfelooaagreat", sum := "04fa98b1db89ba12ffc495e948d495e45469c6f962cb95c2fe5520df212f9904", func := "vellum/vellumlaw14.BlobEnds", spec := "blobEnds", inPlace := ["internal/abi.NoEscape"], unfollowed := true, recurses := true, apart := false }
def BlobEndsSaid : Prop := blobEndsRow.holds Tryz.pinned (OpenSpec.ofChange blobEndsSpec)

/-- ITS FALSE NEIGHBOUR: 'it returns false'. Refute it at one input. -/
def blobEndsWrong : ChangeSpec := { name := "blobEnds", fn := fun _ => fun
  | [d1, d2] => { results := [.lit (.bool false)], args := [d1, d2] }
  | _ => none }
def BlobEndsWrongFalsely : Prop := blobEndsRow.holds Tryz.pinned (OpenSpec.ofChange blobEndsWrong)

/-- 'vellumlaw14.BlobNames': WHATEVER THE INPUT: true; the input reads as it did. -/
def blobNamesSpec : ChangeSpec := { name := "blobNames", fn := fun _ => fun
  | [] => { results := [.lit (.bool true)], args := [] }
  | _ => none }
def blobNamesRow : OpenClaim := { program := "ytpjjmbmmfelooaagreat", sum := "04fa98b1db89ba12ffc495e948d495e45469c6f962cb95c2fe5520df212f9904", func := "vellum/vellumlaw14.BlobNames", spec := "blobNames", inPlace := ["internal/abi.NoEscape"], unfollowed := true, recurses := true, apart := false }
def BlobNamesSaid : Prop := blobNamesRow.holds Tryz.pinned (OpenSpec.ofChange blobNamesSpec)

/-- ITS FALSE NEIGHBOUR: 'it returns false'. Refute it at one input. -/
def blobNamesWrong : ChangeSpec := { name := "blobNames", fn := fun _ => fun
  | [] => { results := [.lit (.bool false)], args := [] }
  | _ => none }
def BlobNamesWrongFalsely : Prop := blobNamesRow.holds Tryz.pinned (OpenSpec.ofChange blobNamesWrong)

/-- 'vellumlaw12.TxnWhole': WHATEVER THE INPUT: true; the input reads as it did. -/
def txnWholeSpec : ChangeSpec := { name := "txnWhole", fn := fun _ => fun
  | [d1, d2, d3] => { results := [.lit (.bool true)], args := [d1, d2, d3] }
  | _ => none }
def txnWholeRow : OpenClaim := { program := "ytpjjmbmmfelooaagreat", sum := "04fa98b1db89ba12ffc495e948d495e45469c6f962cb95c2fe5520df212f9904", func := "vellum/vellumlaw12.TxnWhole", spec := "txnWhole", unfollowed := true, recurses := true, apart := false }
def TxnWholeSaid : Prop := txnWholeRow.holds Tryz.pinned (OpenSpec.ofChange txnWholeSpec)

/-- ITS FALSE NEIGHBOUR: 'it returns false'. Refute it at one input. -/
def txnWholeWrong : ChangeSpec := { name := "txnWhole", fn := fun _ => fun
  | [d1, d2, d3] => { results := [.lit (.bool false)], args := [d1, d2, d3] }
  | _ => none }
def TxnWholeWrongFalsely : Prop := txnWholeRow.holds Tryz.pinned (OpenSpec.ofChange txnWholeWrong)

/-- 'vellumlaw12.TxnNames': WHATEVER THE INPUT: true; the input reads as it did. -/
def txnNamesSpec : ChangeSpec := { name := "txnNames", fn := fun _ => fun
  | [] => { results := [.lit (.bool true)], args := [] }
  | _ => none }
def txnNamesRow : OpenClaim := { program := "ytpjjmbmmfelooaagreat", sum := "04fa98b1db89ba12ffc495e948d495e45469c6f962cb95c2fe5520df212f9904", func := "vellum/vellumlaw12.TxnNames", spec := "txnNames", unfollowed := true, recurses := true, apart := false }
def TxnNamesSaid : Prop := txnNamesRow.holds Tryz.pinned (OpenSpec.ofChange txnNamesSpec)

/-- ITS FALSE NEIGHBOUR: 'it returns false'. Refute it at one input. -/
def txnNamesWrong : ChangeSpec := { name := "txnNames", fn := fun _ => fun
  | [] => { results := [.lit (.bool false)], args := [] }
  | _ => none }
def TxnNamesWrongFalsely : Prop := txnNamesRow.holds Tryz.pinned (OpenSpec.ofChange txnNamesWrong)

/-- 'vellumlaw12.TxnPlays': WHATEVER THE INPUT: true; the input reads as it did. -/
def txnPlaysSpec : ChangeSpec := { name := "txnPlays", fn := fun _ => fun
  | [d1, d2] => { results := [.lit (.bool true)], args := [d1, d2] }
  | _ => none }
def txnPlaysRow : OpenClaim := { program := "ytpjjmbmmfelooaagreat", sum := "04fa98b1db89ba12ffc495e948d495e45469c6f962cb95c2fe5520df212f9904", func := "vellum/vellumlaw12.TxnPlays", spec := "txnPlays", unfollowed := true, recurses := true, apart := false }
def TxnPlaysSaid : Prop := txnPlaysRow.holds Tryz.pinned (OpenSpec.ofChange txnPlaysSpec)

/-- ITS FALSE NEIGHBOUR: 'it returns false'. Refute it at one input. -/
def txnPlaysWrong : ChangeSpec := { name := "txnPlays", fn := fun _ => fun
  | [d1, d2] => { results := [.lit (.bool false)], args := [d1, d2] }
  | _ => none }
def TxnPlaysWrongFalsely : Prop := txnPlaysRow.holds Tryz.pinned (OpenSpec.ofChange txnPlaysWrong)

/-- 'vellumlaw14.BlobPlays': WHATEVER THE INPUT: true; the input reads as it did. -/
def blobPlaysSpec : ChangeSpec := { name := "blobPlays", fn := fun _ => fun
  | [d] => { results := [.lit (.bool true)], args := [d] }
  | _ => none }
def blobPlaysRow : OpenClaim := { program := "ytpjjmbmmfelooaagreat", sum := "04fa98b1db89ba12ffc495e948d495e45469c6f962cb95c2fe5520df212f9904", func := "vellum/vellumlaw14.BlobPlays", spec := "blobPlays", inPlace := ["internal/abi.NoEscape", "maps.clone"], unfollowed := true, recurses := true, apart := false }
def BlobPlaysSaid : Prop := blobPlaysRow.holds Tryz.pinned (OpenSpec.ofChange blobPlaysSpec)

/-- ITS FALSE NEIGHBOUR: 'it returns false'. Refute it at one input. -/
def blobPlaysWrong : ChangeSpec := { name := "blobPlays", fn := fun _ => fun
  | [d] => { results := [.lit (.bool false)], args := [d] }
  | _ => none }
def BlobPlaysWrongFalsely : Prop := blobPlaysRow.holds Tryz.pinned (OpenSpec.ofChange blobPlaysWrong)

/- THE SECOND FORM. 'bulk': how many values and letters a reading holds, each counted each time it is reached (what is shared counts as often as it is met; a slice's spare places count too). A statement '..UptoSaid' is the law's where the arguments, and the package variables that the reading takes, are together of bulk at most 1048576: NARROWER than '..Said'. Prove '..Said' where nothing that the law and all that it calls make is longer than what came in: it says more and counts as full. Else prove '..UptoSaid'. A law counts once. -/
mutual
def uptoBulk {H : Type} : DataW H → Nat
  | .lit (.string bytes) => bytes.length + 1
  | .lit _ => 1
  | .nil => 1
  | .ptr d => uptoBulk d + 1
  | .slice elems spare => uptoBulkAll elems + uptoBulkAll spare + 1
  | .agg parts => uptoBulkAll parts + 1
  | .iface _ d => uptoBulk d + 1
  | .map entries => uptoBulkEntries entries + 1
  | .held _ => 1
def uptoBulkAll {H : Type} : List (DataW H) → Nat
  | [] => 0
  | d :: r => uptoBulk d + uptoBulkAll r
def uptoBulkEntries {H : Type} : List (Lit × DataW H) → Nat
  | [] => 0
  | x :: r => uptoBulkEntry x + uptoBulkEntries r
def uptoBulkEntry {H : Type} : Lit × DataW H → Nat
  | (.string bytes, d) => bytes.length + uptoBulk d + 1
  | (_, d) => uptoBulk d + 1
 end
def uptoSmall : (H : Type) → List (DataW H) → Bool := fun _ ds => decide (uptoBulkAll ds ≤ 1048576)
def OpenSpec.upto (s : _root_.Go.ChangeSpec) : _root_.Go.OpenSpec := { _root_.Go.OpenSpec.ofChange s with cond := some uptoSmall }

/-- 'vellumlaw14.BlobNeeds', WHERE WHAT IT READS IS OF BULK AT MOST 1048576: true; the input reads as it did. -/
def blobNeedsUptoRow : OpenClaim := { program := "ytpjjmbmmfelooaagreat", sum := "04fa98b1db89ba12ffc495e948d495e45469c6f962cb95c2fe5520df212f9904", func := "vellum/vellumlaw14.BlobNeeds", spec := "blobNeeds", inPlace := ["internal/abi.NoEscape"], unfollowed := true, recurses := true, apart := false, narrowed := true }
def BlobNeedsUptoSaid : Prop := blobNeedsUptoRow.holds Tryz.pinned (OpenSpec.upto blobNeedsSpec)

/-- 'vellumlaw14.BlobBack', WHERE WHAT IT READS IS OF BULK AT MOST 1048576: true; the input reads as it did. -/
def blobBackUptoRow : OpenClaim := { program := "ytpjjmbmmfelooaagreat", sum := "04fa98b1db89ba12ffc495e948d495e45469c6f962cb95c2fe5520df212f9904", func := "vellum/vellumlaw14.BlobBack", spec := "blobBack", inPlace := ["internal/abi.NoEscape"], unfollowed := true, recurses := true, apart := false, narrowed := true }
def BlobBackUptoSaid : Prop := blobBackUptoRow.holds Tryz.pinned (OpenSpec.upto blobBackSpec)

/-- 'vellumlaw14.BlobEnds', WHERE WHAT IT READS IS OF BULK AT MOST 1048576: true; the input reads as it did. -/
def blobEndsUptoRow : OpenClaim := { program := "ytpjjmbmmfelooaagreat", sum := "04fa98b1db89ba12ffc495e948d495e45469c6f962cb95c2fe5520df212f9904", func := "vellum/vellumlaw14.BlobEnds", spec := "blobEnds", inPlace := ["internal/abi.NoEscape"], unfollowed := true, recurses := true, apart := false, narrowed := true }
def BlobEndsUptoSaid : Prop := blobEndsUptoRow.holds Tryz.pinned (OpenSpec.upto blobEndsSpec)

/-- 'vellumlaw14.BlobNames', WHERE WHAT IT READS IS OF BULK AT MOST 1048576: true; the input reads as it did. -/
def blobNamesUptoRow : OpenClaim := { program := "ytpjjmbmmfelooaagreat", sum := "04fa98b1db89ba12ffc495e948d495e45469c6f962cb95c2fe5520df212f9904", func := "vellum/vellumlaw14.BlobNames", spec := "blobNames", inPlace := ["internal/abi.NoEscape"], unfollowed := true, recurses := true, apart := false, narrowed := true }
def BlobNamesUptoSaid : Prop := blobNamesUptoRow.holds Tryz.pinned (OpenSpec.upto blobNamesSpec)

/-- 'vellumlaw12.TxnWhole', WHERE WHAT IT READS IS OF BULK AT MOST 1048576: true; the input reads as it did. -/
def txnWholeUptoRow : OpenClaim := { program := "ytpjjmbmmfelooaagreat", sum := "04fa98b1db89ba12ffc495e948d495e45469c6f962cb95c2fe5520df212f9904", func := "vellum/vellumlaw12.TxnWhole", spec := "txnWhole", unfollowed := true, recurses := true, apart := false, narrowed := true }
def TxnWholeUptoSaid : Prop := txnWholeUptoRow.holds Tryz.pinned (OpenSpec.upto txnWholeSpec)

/-- 'vellumlaw12.TxnNames', WHERE WHAT IT READS IS OF BULK AT MOST 1048576: true; the input reads as it did. -/
def txnNamesUptoRow : OpenClaim := { program := "ytpjjmbmmfelooaagreat", sum := "04fa98b1db89ba12ffc495e948d495e45469c6f962cb95c2fe5520df212f9904", func := "vellum/vellumlaw12.TxnNames", spec := "txnNames", unfollowed := true, recurses := true, apart := false, narrowed := true }
def TxnNamesUptoSaid : Prop := txnNamesUptoRow.holds Tryz.pinned (OpenSpec.upto txnNamesSpec)

/-- 'vellumlaw12.TxnPlays', WHERE WHAT IT READS IS OF BULK AT MOST 1048576: true; the input reads as it did. -/
def txnPlaysUptoRow : OpenClaim := { program := "ytpjjmbmmfelooaagreat", sum := "04fa98b1db89ba12ffc495e948d495e45469c6f962cb95c2fe5520df212f9904", func := "vellum/vellumlaw12.TxnPlays", spec := "txnPlays", unfollowed := true, recurses := true, apart := false, narrowed := true }
def TxnPlaysUptoSaid : Prop := txnPlaysUptoRow.holds Tryz.pinned (OpenSpec.upto txnPlaysSpec)

/-- 'vellumlaw14.BlobPlays', WHERE WHAT IT READS IS OF BULK AT MOST 1048576: true; the input reads as it did. -/
def blobPlaysUptoRow : OpenClaim := { program := "ytpjjmbmmfelooaagreat", sum := "04fa98b1db89ba12ffc495e948d495e45469c6f962cb95c2fe5520df212f9904", func := "vellum/vellumlaw14.BlobPlays", spec := "blobPlays", inPlace := ["internal/abi.NoEscape", "maps.clone"], unfollowed := true, recurses := true, apart := false, narrowed := true }
def BlobPlaysUptoSaid : Prop := blobPlaysUptoRow.holds Tryz.pinned (OpenSpec.upto blobPlaysSpec)

end Rows
end Go.Proofs.YtpjjmbmmfelooaaGreat
