/-
  No cell of these rows narrows 'for every input' (looked for: loops, veiled, ifaces, maps, wideKeys, modest, calm, conditions, laid).
  DERIVED. THE GIVEN ROWS OF THIS SEAT. 8 by the template 'for every input the law returns true; each argument reads behind the call as it read before'; 0 by the template 'total and deterministic' (their statements: YtfmieencngkkcaaGreatTotals.lean).
  GIVEN WITH THE SEED: the statements are not yours to turn. If you find one false, say at which input.
  Laid BY PROGRAM, IN A SANDBOX (cutbox-rows.mjs): the forced cells as the released guide's own fill.sh prints them over the translation addafd39d10a85b2… (all of the seat's roots in one cut). By AI agents, Wed Nov 11 2026. No macro, syntax, notation, axiom, sorry.
-/
import Derived.Test.YtfmieencngkkcaaGreatChecked
import GoSem.Claim
import GoSem.ClaimJoined
import GoSem.ClaimMapViews
import Derived.JoinedTies
import Derived.KernelRfl
namespace Go.Proofs.YtfmieencngkkcaaGreat
/- THE CELL 'sum', in the pinned program and in every row, IS THE sha256 OF THE DUMP (.gsa) THAT YtfmieencngkkcaaGreatProg.lean LOADS. Nothing in Lean hashes anything: it is a label: what it is worth is what the hold of that sum in a sandbox is worth. -/
noncomputable def Tryz.pinned : Pinned := { name := "ytfmieencngkkcaagreat", sum := "addafd39d10a85b2314d1178596ed92d5cccc93dde481b0beda296f386fced32", checked := Tryz.checked }
namespace Rows
def none {H : Type} : Left H := { results := [], args := [] }

/-- 'vellumlaw21.HistoryUnpacks': WHATEVER THE INPUT: true; the input reads as it did. -/
def historyUnpacksSpec : ChangeSpec := { name := "historyUnpacks", fn := fun _ => fun
  | [d] => { results := [.lit (.bool true)], args := [d] }
  | _ => none }
def historyUnpacksRow : OpenClaim := { program := "ytfmieencngkkcaagreat", sum := "addafd39d10a85b2314d1178596ed92d5cccc93dde481b0beda296f386fced32", func := "vellum/vellumlaw21.HistoryUnpacks", spec := "historyUnpacks", inPlace := ["internal/abi.NoEscape"], unfollowed := true, recurses := true, apart := false }
def HistoryUnpacksSaid : Prop := historyUnpacksRow.holds Tryz.pinned (OpenSpec.ofChange historyUnpacksSpec)

/-- ITS FALSE NEIGHBOUR: 'it returns false'. Refute it at one input. -/
def historyUnpacksWrong : ChangeSpec := { name := "historyUnpacks", fn := fun _ => fun
  | [d] => { results := [.lit (.bool false)], args := [d] }
  | _ => none }
def HistoryUnpacksWrongFalsely : Prop := historyUnpacksRow.holds Tryz.pinned (OpenSpec.ofChange historyUnpacksWrong)

/-- 'vellumlaw21.HistoryPacks': WHATEVER THE INPUT: true; the input reads as it did. -/
def historyPacksSpec : ChangeSpec := { name := "historyPacks", fn := fun _ => fun
  | [d1, d2] => { results := [.lit (.bool true)], args := [d1, d2] }
  | _ => none }
def historyPacksRow : OpenClaim := { program := "ytfmieencngkkcaagreat", sum := "addafd39d10a85b2314d1178596ed92d5cccc93dde481b0beda296f386fced32", func := "vellum/vellumlaw21.HistoryPacks", spec := "historyPacks", inPlace := ["internal/abi.NoEscape"], unfollowed := true, recurses := true, apart := false }
def HistoryPacksSaid : Prop := historyPacksRow.holds Tryz.pinned (OpenSpec.ofChange historyPacksSpec)

/-- ITS FALSE NEIGHBOUR: 'it returns false'. Refute it at one input. -/
def historyPacksWrong : ChangeSpec := { name := "historyPacks", fn := fun _ => fun
  | [d1, d2] => { results := [.lit (.bool false)], args := [d1, d2] }
  | _ => none }
def HistoryPacksWrongFalsely : Prop := historyPacksRow.holds Tryz.pinned (OpenSpec.ofChange historyPacksWrong)

/-- 'vellumlaw14.BlobPlays': WHATEVER THE INPUT: true; the input reads as it did. -/
def blobPlaysSpec : ChangeSpec := { name := "blobPlays", fn := fun _ => fun
  | [d] => { results := [.lit (.bool true)], args := [d] }
  | _ => none }
def blobPlaysRow : OpenClaim := { program := "ytfmieencngkkcaagreat", sum := "addafd39d10a85b2314d1178596ed92d5cccc93dde481b0beda296f386fced32", func := "vellum/vellumlaw14.BlobPlays", spec := "blobPlays", inPlace := ["internal/abi.NoEscape", "maps.clone"], unfollowed := true, recurses := true, apart := false }
def BlobPlaysSaid : Prop := blobPlaysRow.holds Tryz.pinned (OpenSpec.ofChange blobPlaysSpec)

/-- ITS FALSE NEIGHBOUR: 'it returns false'. Refute it at one input. -/
def blobPlaysWrong : ChangeSpec := { name := "blobPlays", fn := fun _ => fun
  | [d] => { results := [.lit (.bool false)], args := [d] }
  | _ => none }
def BlobPlaysWrongFalsely : Prop := blobPlaysRow.holds Tryz.pinned (OpenSpec.ofChange blobPlaysWrong)

/-- 'vellumlaw15.TableKeeps': WHATEVER THE INPUT: true; the input reads as it did. -/
def tableKeepsSpec : ChangeSpec := { name := "tableKeeps", fn := fun _ => fun
  | [d1, d2] => { results := [.lit (.bool true)], args := [d1, d2] }
  | _ => none }
def tableKeepsRow : OpenClaim := { program := "ytfmieencngkkcaagreat", sum := "addafd39d10a85b2314d1178596ed92d5cccc93dde481b0beda296f386fced32", func := "vellum/vellumlaw15.TableKeeps", spec := "tableKeeps", inPlace := ["maps.clone"], unfollowed := true, recurses := true, apart := false }
def TableKeepsSaid : Prop := tableKeepsRow.holds Tryz.pinned (OpenSpec.ofChange tableKeepsSpec)

/-- ITS FALSE NEIGHBOUR: 'it returns false'. Refute it at one input. -/
def tableKeepsWrong : ChangeSpec := { name := "tableKeeps", fn := fun _ => fun
  | [d1, d2] => { results := [.lit (.bool false)], args := [d1, d2] }
  | _ => none }
def TableKeepsWrongFalsely : Prop := tableKeepsRow.holds Tryz.pinned (OpenSpec.ofChange tableKeepsWrong)

/-- 'vellumlaw21.HistoryUndoes': WHATEVER THE INPUT: true; the input reads as it did. -/
def historyUndoesSpec : ChangeSpec := { name := "historyUndoes", fn := fun _ => fun
  | [d1, d2] => { results := [.lit (.bool true)], args := [d1, d2] }
  | _ => none }
def historyUndoesRow : OpenClaim := { program := "ytfmieencngkkcaagreat", sum := "addafd39d10a85b2314d1178596ed92d5cccc93dde481b0beda296f386fced32", func := "vellum/vellumlaw21.HistoryUndoes", spec := "historyUndoes", inPlace := ["internal/abi.NoEscape"], unfollowed := true, recurses := true, apart := false }
def HistoryUndoesSaid : Prop := historyUndoesRow.holds Tryz.pinned (OpenSpec.ofChange historyUndoesSpec)

/-- ITS FALSE NEIGHBOUR: 'it returns false'. Refute it at one input. -/
def historyUndoesWrong : ChangeSpec := { name := "historyUndoes", fn := fun _ => fun
  | [d1, d2] => { results := [.lit (.bool false)], args := [d1, d2] }
  | _ => none }
def HistoryUndoesWrongFalsely : Prop := historyUndoesRow.holds Tryz.pinned (OpenSpec.ofChange historyUndoesWrong)

/-- 'vellumlaw15.TablePlays': WHATEVER THE INPUT: true; the input reads as it did. -/
def tablePlaysSpec : ChangeSpec := { name := "tablePlays", fn := fun _ => fun
  | [d] => { results := [.lit (.bool true)], args := [d] }
  | _ => none }
def tablePlaysRow : OpenClaim := { program := "ytfmieencngkkcaagreat", sum := "addafd39d10a85b2314d1178596ed92d5cccc93dde481b0beda296f386fced32", func := "vellum/vellumlaw15.TablePlays", spec := "tablePlays", inPlace := ["maps.clone"], unfollowed := true, recurses := true, apart := false }
def TablePlaysSaid : Prop := tablePlaysRow.holds Tryz.pinned (OpenSpec.ofChange tablePlaysSpec)

/-- ITS FALSE NEIGHBOUR: 'it returns false'. Refute it at one input. -/
def tablePlaysWrong : ChangeSpec := { name := "tablePlays", fn := fun _ => fun
  | [d] => { results := [.lit (.bool false)], args := [d] }
  | _ => none }
def TablePlaysWrongFalsely : Prop := tablePlaysRow.holds Tryz.pinned (OpenSpec.ofChange tablePlaysWrong)

/-- 'vellumlaw15.TableNames': WHATEVER THE INPUT: true; the input reads as it did. -/
def tableNamesSpec : ChangeSpec := { name := "tableNames", fn := fun _ => fun
  | [] => { results := [.lit (.bool true)], args := [] }
  | _ => none }
def tableNamesRow : OpenClaim := { program := "ytfmieencngkkcaagreat", sum := "addafd39d10a85b2314d1178596ed92d5cccc93dde481b0beda296f386fced32", func := "vellum/vellumlaw15.TableNames", spec := "tableNames", inPlace := ["maps.clone"], unfollowed := true, recurses := true, apart := false }
def TableNamesSaid : Prop := tableNamesRow.holds Tryz.pinned (OpenSpec.ofChange tableNamesSpec)

/-- ITS FALSE NEIGHBOUR: 'it returns false'. Refute it at one input. -/
def tableNamesWrong : ChangeSpec := { name := "tableNames", fn := fun _ => fun
  | [] => { results := [.lit (.bool false)], args := [] }
  | _ => none }
def TableNamesWrongFalsely : Prop := tableNamesRow.holds Tryz.pinned (OpenSpec.ofChange tableNamesWrong)

/-- 'vellumlaw21.HistoryNames': WHATEVER THE INPUT: true; the input reads as it did. -/
def historyNamesSpec : ChangeSpec := { name := "historyNames", fn := fun _ => fun
  | [] => { results := [.lit (.bool true)], args := [] }
  | _ => none }
def historyNamesRow : OpenClaim := { program := "ytfmieencngkkcaagreat", sum := "addafd39d10a85b2314d1178596ed92d5cccc93dde481b0beda296f386fced32", func := "vellum/vellumlaw21.HistoryNames", spec := "historyNames", inPlace := ["internal/abi.NoEscape", "maps.clone"], unfollowed := true, recurses := true, apart := false }
def HistoryNamesSaid : Prop := historyNamesRow.holds Tryz.pinned (OpenSpec.ofChange historyNamesSpec)

/-- ITS FALSE NEIGHBOUR: 'it returns false'. Refute it at one input. -/
def historyNamesWrong : ChangeSpec := { name := "historyNames", fn := fun _ => fun
  | [] => { results := [.lit (.bool false)], args := [] }
  | _ => none }
def HistoryNamesWrongFalsely : Prop := historyNamesRow.holds Tryz.pinned (OpenSpec.ofChange historyNamesWrong)

/- THE SECOND FORM. 'bulk': how many values and letters a reading holds, each counted each time it is reached (what is shared counts as often as it is met; a slice's spare places count too). A statement '..UptoSaid' is the law's where the arguments, and the package variables that the reading takes, are together of bulk at most 1048576: NARROWER than '..Said'. Prove '..Said' where nothing that the law and all that it calls make is longer than what came in: it says more and counts as full. Else prove '..UptoSaid'. A law counts once. -/
mutual
def uptoBulk {H : Type} : DataW H → Nat
  | .lit (.string bytes) => bytes.length + 1
  | .lit _ => 1
  | .nil => 1
  | .ptr d => uptoBulk d + 1
  | .slice elems spare => uptoBulkAll elems + uptoBulkAll spare + 1
  | .agg parts => uptoBulkAll parts + 1
  | .iface _ d => uptoBulk d + 1
  | .map entries => uptoBulkEntries entries + 1
  | .held _ => 1
def uptoBulkAll {H : Type} : List (DataW H) → Nat
  | [] => 0
  | d :: r => uptoBulk d + uptoBulkAll r
def uptoBulkEntries {H : Type} : List (Lit × DataW H) → Nat
  | [] => 0
  | x :: r => uptoBulkEntry x + uptoBulkEntries r
def uptoBulkEntry {H : Type} : Lit × DataW H → Nat
  | (.string bytes, d) => bytes.length + uptoBulk d + 1
  | (_, d) => uptoBulk d + 1
 end
def uptoSmall : (H : Type) → List (DataW H) → Bool := fun _ ds => decide (uptoBulkAll ds ≤ 1048576)
def OpenSpec.upto (s : _root_.Go.ChangeSpec) : _root_.Go.OpenSpec := { _root_.Go.OpenSpec.ofChange s with cond := some uptoSmall }

/-- 'vellumlaw21.HistoryUnpacks', WHERE WHAT IT READS IS OF BULK AT MOST 1048576: true; the input reads as it did. -/
def historyUnpacksUptoRow : OpenClaim := { program := "ytfmieencngkkcaagreat", sum := "addafd39d10a85b2314d1178596ed92d5cccc93dde481b0beda296f386fced32", func := "vellum/vellumlaw21.HistoryUnpacks", spec := "historyUnpacks", inPlace := ["internal/abi.NoEscape"], unfollowed := true, recurses := true, apart := false, narrowed := true }
def HistoryUnpacksUptoSaid : Prop := historyUnpacksUptoRow.holds Tryz.pinned (OpenSpec.upto historyUnpacksSpec)

/-- 'vellumlaw21.HistoryPacks', WHERE WHAT IT READS IS OF BULK AT MOST 1048576: true; the input reads as it did. -/
def historyPacksUptoRow : OpenClaim := { program := "ytfmieencngkkcaagreat", sum := "addafd39d10a85b2314d1178596ed92d5cccc93dde481b0beda296f386fced32", func := "vellum/vellumlaw21.HistoryPacks", spec := "historyPacks", inPlace := ["internal/abi.NoEscape"], unfollowed := true, recurses := true, apart := false, narrowed := true }
def HistoryPacksUptoSaid : Prop := historyPacksUptoRow.holds Tryz.pinned (OpenSpec.upto historyPacksSpec)

/-- 'vellumlaw14.BlobPlays', WHERE WHAT IT READS IS OF BULK AT MOST 1048576: true; the input reads as it did. -/
def blobPlaysUptoRow : OpenClaim := { program := "ytfmieencngkkcaagreat", sum := "addafd39d10a85b2314d1178596ed92d5cccc93dde481b0beda296f386fced32", func := "vellum/vellumlaw14.BlobPlays", spec := "blobPlays", inPlace := ["internal/abi.NoEscape", "maps.clone"], unfollowed := true, recurses := true, apart := false, narrowed := true }
def BlobPlaysUptoSaid : Prop := blobPlaysUptoRow.holds Tryz.pinned (OpenSpec.upto blobPlaysSpec)

/-- 'vellumlaw15.TableKeeps', WHERE WHAT IT READS IS OF BULK AT MOST 1048576: true; the input reads as it did. -/
def tableKeepsUptoRow : OpenClaim := { program := "ytfmieencngkkcaagreat", sum := "addafd39d10a85b2314d1178596ed92d5cccc93dde481b0beda296f386fced32", func := "vellum/vellumlaw15.TableKeeps", spec := "tableKeeps", inPlace := ["maps.clone"], unfollowed := true, recurses := true, apart := false, narrowed := true }
def TableKeepsUptoSaid : Prop := tableKeepsUptoRow.holds Tryz.pinned (OpenSpec.upto tableKeepsSpec)

/-- 'vellumlaw21.HistoryUndoes', WHERE WHAT IT READS IS OF BULK AT MOST 1048576: true; the input reads as it did. -/
def historyUndoesUptoRow : OpenClaim := { program := "ytfmieencngkkcaagreat", sum := "addafd39d10a85b2314d1178596ed92d5cccc93dde481b0beda296f386fced32", func := "vellum/vellumlaw21.HistoryUndoes", spec := "historyUndoes", inPlace := ["internal/abi.NoEscape"], unfollowed := true, recurses := true, apart := false, narrowed := true }
def HistoryUndoesUptoSaid : Prop := historyUndoesUptoRow.holds Tryz.pinned (OpenSpec.upto historyUndoesSpec)

/-- 'vellumlaw15.TablePlays', WHERE WHAT IT READS IS OF BULK AT MOST 1048576: true; the input reads as it did. -/
def tablePlaysUptoRow : OpenClaim := { program := "ytfmieencngkkcaagreat", sum := "addafd39d10a85b2314d1178596ed92d5cccc93dde481b0beda296f386fced32", func := "vellum/vellumlaw15.TablePlays", spec := "tablePlays", inPlace := ["maps.clone"], unfollowed := true, recurses := true, apart := false, narrowed := true }
def TablePlaysUptoSaid : Prop := tablePlaysUptoRow.holds Tryz.pinned (OpenSpec.upto tablePlaysSpec)

/-- 'vellumlaw15.TableNames', WHERE WHAT IT READS IS OF BULK AT MOST 1048576: true; the input reads as it did. -/
def tableNamesUptoRow : OpenClaim := { program := "ytfmieencngkkcaagreat", sum := "addafd39d10a85b2314d1178596ed92d5cccc93dde481b0beda296f386fced32", func := "vellum/vellumlaw15.TableNames", spec := "tableNames", inPlace := ["maps.clone"], unfollowed := true, recurses := true, apart := false, narrowed := true }
def TableNamesUptoSaid : Prop := tableNamesUptoRow.holds Tryz.pinned (OpenSpec.upto tableNamesSpec)

/-- 'vellumlaw21.HistoryNames', WHERE WHAT IT READS IS OF BULK AT MOST 1048576: true; the input reads as it did. -/
def historyNamesUptoRow : OpenClaim := { program := "ytfmieencngkkcaagreat", sum := "addafd39d10a85b2314d1178596ed92d5cccc93dde481b0beda296f386fced32", func := "vellum/vellumlaw21.HistoryNames", spec := "historyNames", inPlace := ["internal/abi.NoEscape", "maps.clone"], unfollowed := true, recurses := true, apart := false, narrowed := true }
def HistoryNamesUptoSaid : Prop := historyNamesUptoRow.holds Tryz.pinned (OpenSpec.upto historyNamesSpec)

end Rows
end Go.Proofs.YtfmieencngkkcaaGreat
