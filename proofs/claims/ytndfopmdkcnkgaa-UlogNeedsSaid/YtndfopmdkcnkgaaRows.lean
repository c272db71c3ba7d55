/-
  No cell of these rows narrows 'for every input' (looked for: loops, veiled, ifaces, maps, wideKeys, modest, calm, conditions, laid).
  DERIVED. THE GIVEN ROWS OF THIS SEAT. 6 by the template 'for every input the law returns true; each argument reads behind the call as it read before'; 0 by the template 'total and deterministic' (their statements: YtndfopmdkcnkgaaTotals.lean).
  GIVEN WITH THE SEED: the statements are not yours to turn. If you find one false, say at which input.
  Laid BY PROGRAM, IN A SANDBOX (cutbox-rows.mjs): the forced cells as the released guide's own fill.sh prints them over the translation dde7e52fca9b63fd… (all of the seat's roots in one cut). By AI agents, Wed Nov 11 2026. No macro, syntax, notation, axiom, sorry.
-/
import Derived.Test.YtndfopmdkcnkgaaChecked
import GoSem.Claim
import GoSem.ClaimJoined
import GoSem.ClaimMapViews
import Derived.JoinedTies
import Derived.KernelRfl
namespace Go.Proofs.Ytndfopmdkcnkgaa
/- THE CELL 'sum', in the pinned program and in every row, IS THE sha256 OF THE DUMP (.gsa) THAT YtndfopmdkcnkgaaProg.lean LOADS. Nothing in Lean hashes anything: it is a label: what it is worth is what the hold of that sum in a sandbox is worth. -/
noncomputable def Try.pinned : Pinned := { name := "ytndfopmdkcnkgaa", sum := "dde7e52fca9b63fd40653977b609d556846aef559fa21c419296e835dd4b82dd", checked := Try.checked }
namespace Rows
def none {H : Type} : Left H := { results := [], args := [] }

/-- 'vellumlaw11.UlogNeeds': WHATEVER THE INPUT: true; the input reads as it did. -/
def ulogNeedsSpec : ChangeSpec := { name := "ulogNeeds", fn := fun _ => fun
  | [d1, d2] => { results := [.lit (.bool true)], args := [d1, d2] }
  | _ => none }
def ulogNeedsRow : OpenClaim := { program := "ytndfopmdkcnkgaa", sum := "dde7e52fca9b63fd40653977b609d556846aef559fa21c419296e835dd4b82dd", func := "vellum/vellumlaw11.UlogNeeds", spec := "ulogNeeds", unfollowed := true, recurses := true, apart := false }
def UlogNeedsSaid : Prop := ulogNeedsRow.holds Try.pinned (OpenSpec.ofChange ulogNeedsSpec)

/-- ITS FALSE NEIGHBOUR: 'it returns false'. Refute it at one input. -/
def ulogNeedsWrong : ChangeSpec := { name := "ulogNeeds", fn := fun _ => fun
  | [d1, d2] => { results := [.lit (.bool false)], args := [d1, d2] }
  | _ => none }
def UlogNeedsWrongFalsely : Prop := ulogNeedsRow.holds Try.pinned (OpenSpec.ofChange ulogNeedsWrong)

/-- 'vellumlaw11.UlogNames': WHATEVER THE INPUT: true; the input reads as it did. -/
def ulogNamesSpec : ChangeSpec := { name := "ulogNames", fn := fun _ => fun
  | [] => { results := [.lit (.bool true)], args := [] }
  | _ => none }
def ulogNamesRow : OpenClaim := { program := "ytndfopmdkcnkgaa", sum := "dde7e52fca9b63fd40653977b609d556846aef559fa21c419296e835dd4b82dd", func := "vellum/vellumlaw11.UlogNames", spec := "ulogNames", unfollowed := true, recurses := true, apart := false }
def UlogNamesSaid : Prop := ulogNamesRow.holds Try.pinned (OpenSpec.ofChange ulogNamesSpec)

/-- ITS FALSE NEIGHBOUR: 'it returns false'. Refute it at one input. -/
def ulogNamesWrong : ChangeSpec := { name := "ulogNames", fn := fun _ => fun
  | [] => { results := [.lit (.bool false)], args := [] }
  | _ => none }
def UlogNamesWrongFalsely : Prop := ulogNamesRow.holds Try.pinned (OpenSpec.ofChange ulogNamesWrong)

/-- 'vellumlaw11.UlogFresh': WHATEVER THE INPUT: true; the input reads as it did. -/
def ulogFreshSpec : ChangeSpec := { name := "ulogFresh", fn := fun _ => fun
  | [d] => { results := [.lit (.bool true)], args := [d] }
  | _ => none }
def ulogFreshRow : OpenClaim := { program := "ytndfopmdkcnkgaa", sum := "dde7e52fca9b63fd40653977b609d556846aef559fa21c419296e835dd4b82dd", func := "vellum/vellumlaw11.UlogFresh", spec := "ulogFresh", unfollowed := true, recurses := true, apart := false }
def UlogFreshSaid : Prop := ulogFreshRow.holds Try.pinned (OpenSpec.ofChange ulogFreshSpec)

/-- ITS FALSE NEIGHBOUR: 'it returns false'. Refute it at one input. -/
def ulogFreshWrong : ChangeSpec := { name := "ulogFresh", fn := fun _ => fun
  | [d] => { results := [.lit (.bool false)], args := [d] }
  | _ => none }
def UlogFreshWrongFalsely : Prop := ulogFreshRow.holds Try.pinned (OpenSpec.ofChange ulogFreshWrong)

/-- 'vellumlaw11.UlogRoom': WHATEVER THE INPUT: true; the input reads as it did. -/
def ulogRoomSpec : ChangeSpec := { name := "ulogRoom", fn := fun _ => fun
  | [d] => { results := [.lit (.bool true)], args := [d] }
  | _ => none }
def ulogRoomRow : OpenClaim := { program := "ytndfopmdkcnkgaa", sum := "dde7e52fca9b63fd40653977b609d556846aef559fa21c419296e835dd4b82dd", func := "vellum/vellumlaw11.UlogRoom", spec := "ulogRoom", unfollowed := true, recurses := true, apart := false }
def UlogRoomSaid : Prop := ulogRoomRow.holds Try.pinned (OpenSpec.ofChange ulogRoomSpec)

/-- ITS FALSE NEIGHBOUR: 'it returns false'. Refute it at one input. -/
def ulogRoomWrong : ChangeSpec := { name := "ulogRoom", fn := fun _ => fun
  | [d] => { results := [.lit (.bool false)], args := [d] }
  | _ => none }
def UlogRoomWrongFalsely : Prop := ulogRoomRow.holds Try.pinned (OpenSpec.ofChange ulogRoomWrong)

/-- 'vellumlaw11.UlogWhole': WHATEVER THE INPUT: true; the input reads as it did. -/
def ulogWholeSpec : ChangeSpec := { name := "ulogWhole", fn := fun _ => fun
  | [d1, d2, d3] => { results := [.lit (.bool true)], args := [d1, d2, d3] }
  | _ => none }
def ulogWholeRow : OpenClaim := { program := "ytndfopmdkcnkgaa", sum := "dde7e52fca9b63fd40653977b609d556846aef559fa21c419296e835dd4b82dd", func := "vellum/vellumlaw11.UlogWhole", spec := "ulogWhole", unfollowed := true, recurses := true, apart := false }
def UlogWholeSaid : Prop := ulogWholeRow.holds Try.pinned (OpenSpec.ofChange ulogWholeSpec)

/-- ITS FALSE NEIGHBOUR: 'it returns false'. Refute it at one input. -/
def ulogWholeWrong : ChangeSpec := { name := "ulogWhole", fn := fun _ => fun
  | [d1, d2, d3] => { results := [.lit (.bool false)], args := [d1, d2, d3] }
  | _ => none }
def UlogWholeWrongFalsely : Prop := ulogWholeRow.holds Try.pinned (OpenSpec.ofChange ulogWholeWrong)

/-- 'vellumlaw11.UlogBrings': WHATEVER THE INPUT: true; the input reads as it did. -/
def ulogBringsSpec : ChangeSpec := { name := "ulogBrings", fn := fun _ => fun
  | [d] => { results := [.lit (.bool true)], args := [d] }
  | _ => none }
def ulogBringsRow : OpenClaim := { program := "ytndfopmdkcnkgaa", sum := "dde7e52fca9b63fd40653977b609d556846aef559fa21c419296e835dd4b82dd", func := "vellum/vellumlaw11.UlogBrings", spec := "ulogBrings", unfollowed := true, recurses := true, apart := false }
def UlogBringsSaid : Prop := ulogBringsRow.holds Try.pinned (OpenSpec.ofChange ulogBringsSpec)

/-- ITS FALSE NEIGHBOUR: 'it returns false'. Refute it at one input. -/
def ulogBringsWrong : ChangeSpec := { name := "ulogBrings", fn := fun _ => fun
  | [d] => { results := [.lit (.bool false)], args := [d] }
  | _ => none }
def UlogBringsWrongFalsely : Prop := ulogBringsRow.holds Try.pinned (OpenSpec.ofChange ulogBringsWrong)

/- THE SECOND FORM. 'bulk': how many values and letters a reading holds, each counted each time it is reached (what is shared counts as often as it is met; a slice's spare places count too). A statement '..UptoSaid' is the law's where the arguments, and the package variables that the reading takes, are together of bulk at most 1048576: NARROWER than '..Said'. Prove '..Said' where nothing that the law and all that it calls make is longer than what came in: it says more and counts as full. Else prove '..UptoSaid'. A law counts once. -/
mutual
def uptoBulk {H : Type} : DataW H → Nat
  | .lit (.string bytes) => bytes.length + 1
  | .lit _ => 1
  | .nil => 1
  | .ptr d => uptoBulk d + 1
  | .slice elems spare => uptoBulkAll elems + uptoBulkAll spare + 1
  | .agg parts => uptoBulkAll parts + 1
  | .iface _ d => uptoBulk d + 1
  | .map entries => uptoBulkEntries entries + 1
  | .held _ => 1
def uptoBulkAll {H : Type} : List (DataW H) → Nat
  | [] => 0
  | d :: r => uptoBulk d + uptoBulkAll r
def uptoBulkEntries {H : Type} : List (Lit × DataW H) → Nat
  | [] => 0
  | x :: r => uptoBulkEntry x + uptoBulkEntries r
def uptoBulkEntry {H : Type} : Lit × DataW H → Nat
  | (.string bytes, d) => bytes.length + uptoBulk d + 1
  | (_, d) => uptoBulk d + 1
 end
def uptoSmall : (H : Type) → List (DataW H) → Bool := fun _ ds => decide (uptoBulkAll ds ≤ 1048576)
def OpenSpec.upto (s : _root_.Go.ChangeSpec) : _root_.Go.OpenSpec := { _root_.Go.OpenSpec.ofChange s with cond := some uptoSmall }

/-- 'vellumlaw11.UlogNeeds', WHERE WHAT IT READS IS OF BULK AT MOST 1048576: true; the input reads as it did. -/
def ulogNeedsUptoRow : OpenClaim := { program := "ytndfopmdkcnkgaa", sum := "dde7e52fca9b63fd40653977b609d556846aef559fa21c419296e835dd4b82dd", func := "vellum/vellumlaw11.UlogNeeds", spec := "ulogNeeds", unfollowed := true, recurses := true, apart := false, narrowed := true }
def UlogNeedsUptoSaid : Prop := ulogNeedsUptoRow.holds Try.pinned (OpenSpec.upto ulogNeedsSpec)

/-- 'vellumlaw11.UlogNames', WHERE WHAT IT READS IS OF BULK AT MOST 1048576: true; the input reads as it did. -/
def ulogNamesUptoRow : OpenClaim := { program := "ytndfopmdkcnkgaa", sum := "dde7e52fca9b63fd40653977b609d556846aef559fa21c419296e835dd4b82dd", func := "vellum/vellumlaw11.UlogNames", spec := "ulogNames", unfollowed := true, recurses := true, apart := false, narrowed := true }
def UlogNamesUptoSaid : Prop := ulogNamesUptoRow.holds Try.pinned (OpenSpec.upto ulogNamesSpec)

/-- 'vellumlaw11.UlogFresh', WHERE WHAT IT READS IS OF BULK AT MOST 1048576: true; the input reads as it did. -/
def ulogFreshUptoRow : OpenClaim := { program := "ytndfopmdkcnkgaa", sum := "dde7e52fca9b63fd40653977b609d556846aef559fa21c419296e835dd4b82dd", func := "vellum/vellumlaw11.UlogFresh", spec := "ulogFresh", unfollowed := true, recurses := true, apart := false, narrowed := true }
def UlogFreshUptoSaid : Prop := ulogFreshUptoRow.holds Try.pinned (OpenSpec.upto ulogFreshSpec)

/-- 'vellumlaw11.UlogRoom', WHERE WHAT IT READS IS OF BULK AT MOST 1048576: true; the input reads as it did. -/
def ulogRoomUptoRow : OpenClaim := { program := "ytndfopmdkcnkgaa", sum := "dde7e52fca9b63fd40653977b609d556846aef559fa21c419296e835dd4b82dd", func := "vellum/vellumlaw11.UlogRoom", spec := "ulogRoom", unfollowed := true, recurses := true, apart := false, narrowed := true }
def UlogRoomUptoSaid : Prop := ulogRoomUptoRow.holds Try.pinned (OpenSpec.upto ulogRoomSpec)

/-- 'vellumlaw11.UlogWhole', WHERE WHAT IT READS IS OF BULK AT MOST 1048576: true; the input reads as it did. -/
def ulogWholeUptoRow : OpenClaim := { program := "ytndfopmdkcnkgaa", sum := "dde7e52fca9b63fd40653977b609d556846aef559fa21c419296e835dd4b82dd", func := "vellum/vellumlaw11.UlogWhole", spec := "ulogWhole", unfollowed := true, recurses := true, apart := false, narrowed := true }
def UlogWholeUptoSaid : Prop := ulogWholeUptoRow.holds Try.pinned (OpenSpec.upto ulogWholeSpec)

/-- 'vellumlaw11.UlogBrings', WHERE WHAT IT READS IS OF BULK AT MOST 1048576: true; the input reads as it did. -/
def ulogBringsUptoRow : OpenClaim := { program := "ytndfopmdkcnkgaa", sum := "dde7e52fca9b63fd40653977b609d556846aef559fa21c419296e835dd4b82dd", func := "vellum/vellumlaw11.UlogBrings", spec := "ulogBrings", unfollowed := true, recurses := true, apart := false, narrowed := true }
def UlogBringsUptoSaid : Prop := ulogBringsUptoRow.holds Try.pinned (OpenSpec.upto ulogBringsSpec)

end Rows
end Go.Proofs.Ytndfopmdkcnkgaa
