/-
  No cell of these rows narrows 'for every input' (looked for: loops, veiled, ifaces, maps, wideKeys, modest, calm, conditions, laid).
  DERIVED. THE GIVEN ROWS OF THIS SEAT. 15 by the template 'for every input the law returns true; each argument reads behind the call as it read before'; 0 by the template 'total and deterministic' (their statements: YtimckjnnjakcoaaTotals.lean).
  GIVEN WITH THE SEED: the statements are not yours to turn. If you find one false, say at which input.
  Laid BY PROGRAM, IN A SANDBOX (cutbox-rows.mjs): the forced cells as the released guide's own fill.sh prints them over the translation f0640c7d9cb4c4c8… (all of the seat's roots in one cut). By AI agents, Wed Nov 11 2026. No macro, syntax, notation, axiom, sorry.
-/
import Derived.Test.YtimckjnnjakcoaaChecked
import GoSem.Claim
import GoSem.ClaimJoined
import GoSem.ClaimMapViews
import Derived.JoinedTies
import Derived.KernelRfl
namespace Go.Proofs.Ytimckjnnjakcoaa
/- THE CELL 'sum', in the pinned program and in every row, IS THE sha256 OF THE DUMP (.gsa) THAT YtimckjnnjakcoaaProg.lean LOADS. Nothing in Lean hashes anything: it is a label: what it is worth is what the hold of that sum in a sandbox is worth. -/
noncomputable def Try.pinned : Pinned := { name := "ytimckjnnjakcoaa", sum := "f0640c7d9cb4c4c87eab0dcc6299b328c946a0c789529d9af1f9f7b49dbfebb6", checked := Try.checked }
namespace Rows
def none {H : Type} : Left H := { results := [], args := [] }

/-- 'vellumlaw10.SuperPlans': WHATEVER THE INPUT: true; the input reads as it did. -/
def superPlansSpec : ChangeSpec := { name := "superPlans", fn := fun _ => fun
  | [d1, d2] => { results := [.lit (.bool true)], args := [d1, d2] }
  | _ => none }
def superPlansRow : OpenClaim := { program := "ytimckjnnjakcoaa", sum := "f0640c7d9cb4c4c87eab0dcc6299b328c946a0c789529d9af1f9f7b49dbfebb6", func := "vellum/vellumlaw10.SuperPlans", spec := "superPlans", apart := false }
def SuperPlansSaid : Prop := superPlansRow.holds Try.pinned (OpenSpec.ofChange superPlansSpec)

/-- ITS FALSE NEIGHBOUR: 'it returns false'. Refute it at one input. -/
def superPlansWrong : ChangeSpec := { name := "superPlans", fn := fun _ => fun
  | [d1, d2] => { results := [.lit (.bool false)], args := [d1, d2] }
  | _ => none }
def SuperPlansWrongFalsely : Prop := superPlansRow.holds Try.pinned (OpenSpec.ofChange superPlansWrong)

/-- 'vellumlaw08.PmemLasts': WHATEVER THE INPUT: true; the input reads as it did. -/
def pmemLastsSpec : ChangeSpec := { name := "pmemLasts", fn := fun _ => fun
  | [d1, d2, d3] => { results := [.lit (.bool true)], args := [d1, d2, d3] }
  | _ => none }
def pmemLastsRow : OpenClaim := { program := "ytimckjnnjakcoaa", sum := "f0640c7d9cb4c4c87eab0dcc6299b328c946a0c789529d9af1f9f7b49dbfebb6", func := "vellum/vellumlaw08.PmemLasts", spec := "pmemLasts", apart := false }
def PmemLastsSaid : Prop := pmemLastsRow.holds Try.pinned (OpenSpec.ofChange pmemLastsSpec)

/-- ITS FALSE NEIGHBOUR: 'it returns false'. Refute it at one input. -/
def pmemLastsWrong : ChangeSpec := { name := "pmemLasts", fn := fun _ => fun
  | [d1, d2, d3] => { results := [.lit (.bool false)], args := [d1, d2, d3] }
  | _ => none }
def PmemLastsWrongFalsely : Prop := pmemLastsRow.holds Try.pinned (OpenSpec.ofChange pmemLastsWrong)

/-- 'vellumlaw08.PmemKeeps': WHATEVER THE INPUT: true; the input reads as it did. -/
def pmemKeepsSpec : ChangeSpec := { name := "pmemKeeps", fn := fun _ => fun
  | [d1, d2, d3] => { results := [.lit (.bool true)], args := [d1, d2, d3] }
  | _ => none }
def pmemKeepsRow : OpenClaim := { program := "ytimckjnnjakcoaa", sum := "f0640c7d9cb4c4c87eab0dcc6299b328c946a0c789529d9af1f9f7b49dbfebb6", func := "vellum/vellumlaw08.PmemKeeps", spec := "pmemKeeps", apart := false }
def PmemKeepsSaid : Prop := pmemKeepsRow.holds Try.pinned (OpenSpec.ofChange pmemKeepsSpec)

/-- ITS FALSE NEIGHBOUR: 'it returns false'. Refute it at one input. -/
def pmemKeepsWrong : ChangeSpec := { name := "pmemKeeps", fn := fun _ => fun
  | [d1, d2, d3] => { results := [.lit (.bool false)], args := [d1, d2, d3] }
  | _ => none }
def PmemKeepsWrongFalsely : Prop := pmemKeepsRow.holds Try.pinned (OpenSpec.ofChange pmemKeepsWrong)

/-- 'vellumlaw08.PmemFresh': WHATEVER THE INPUT: true; the input reads as it did. -/
def pmemFreshSpec : ChangeSpec := { name := "pmemFresh", fn := fun _ => fun
  | [d1, d2, d3] => { results := [.lit (.bool true)], args := [d1, d2, d3] }
  | _ => none }
def pmemFreshRow : OpenClaim := { program := "ytimckjnnjakcoaa", sum := "f0640c7d9cb4c4c87eab0dcc6299b328c946a0c789529d9af1f9f7b49dbfebb6", func := "vellum/vellumlaw08.PmemFresh", spec := "pmemFresh", apart := false }
def PmemFreshSaid : Prop := pmemFreshRow.holds Try.pinned (OpenSpec.ofChange pmemFreshSpec)

/-- ITS FALSE NEIGHBOUR: 'it returns false'. Refute it at one input. -/
def pmemFreshWrong : ChangeSpec := { name := "pmemFresh", fn := fun _ => fun
  | [d1, d2, d3] => { results := [.lit (.bool false)], args := [d1, d2, d3] }
  | _ => none }
def PmemFreshWrongFalsely : Prop := pmemFreshRow.holds Try.pinned (OpenSpec.ofChange pmemFreshWrong)

/-- 'vellumlaw08.PmemStores': WHATEVER THE INPUT: true; the input reads as it did. -/
def pmemStoresSpec : ChangeSpec := { name := "pmemStores", fn := fun _ => fun
  | [d1, d2, d3] => { results := [.lit (.bool true)], args := [d1, d2, d3] }
  | _ => none }
def pmemStoresRow : OpenClaim := { program := "ytimckjnnjakcoaa", sum := "f0640c7d9cb4c4c87eab0dcc6299b328c946a0c789529d9af1f9f7b49dbfebb6", func := "vellum/vellumlaw08.PmemStores", spec := "pmemStores", apart := false }
def PmemStoresSaid : Prop := pmemStoresRow.holds Try.pinned (OpenSpec.ofChange pmemStoresSpec)

/-- ITS FALSE NEIGHBOUR: 'it returns false'. Refute it at one input. -/
def pmemStoresWrong : ChangeSpec := { name := "pmemStores", fn := fun _ => fun
  | [d1, d2, d3] => { results := [.lit (.bool false)], args := [d1, d2, d3] }
  | _ => none }
def PmemStoresWrongFalsely : Prop := pmemStoresRow.holds Try.pinned (OpenSpec.ofChange pmemStoresWrong)

/-- 'vellumlaw08.PmemArms': WHATEVER THE INPUT: true; the input reads as it did. -/
def pmemArmsSpec : ChangeSpec := { name := "pmemArms", fn := fun _ => fun
  | [d] => { results := [.lit (.bool true)], args := [d] }
  | _ => none }
def pmemArmsRow : OpenClaim := { program := "ytimckjnnjakcoaa", sum := "f0640c7d9cb4c4c87eab0dcc6299b328c946a0c789529d9af1f9f7b49dbfebb6", func := "vellum/vellumlaw08.PmemArms", spec := "pmemArms", apart := false }
def PmemArmsSaid : Prop := pmemArmsRow.holds Try.pinned (OpenSpec.ofChange pmemArmsSpec)

/-- ITS FALSE NEIGHBOUR: 'it returns false'. Refute it at one input. -/
def pmemArmsWrong : ChangeSpec := { name := "pmemArms", fn := fun _ => fun
  | [d] => { results := [.lit (.bool false)], args := [d] }
  | _ => none }
def PmemArmsWrongFalsely : Prop := pmemArmsRow.holds Try.pinned (OpenSpec.ofChange pmemArmsWrong)

/-- 'vellumlaw10.SuperBits': WHATEVER THE INPUT: true; the input reads as it did. -/
def superBitsSpec : ChangeSpec := { name := "superBits", fn := fun _ => fun
  | [d1, d2] => { results := [.lit (.bool true)], args := [d1, d2] }
  | _ => none }
def superBitsRow : OpenClaim := { program := "ytimckjnnjakcoaa", sum := "f0640c7d9cb4c4c87eab0dcc6299b328c946a0c789529d9af1f9f7b49dbfebb6", func := "vellum/vellumlaw10.SuperBits", spec := "superBits", unfollowed := true, recurses := true, apart := false }
def SuperBitsSaid : Prop := superBitsRow.holds Try.pinned (OpenSpec.ofChange superBitsSpec)

/-- ITS FALSE NEIGHBOUR: 'it returns false'. Refute it at one input. -/
def superBitsWrong : ChangeSpec := { name := "superBits", fn := fun _ => fun
  | [d1, d2] => { results := [.lit (.bool false)], args := [d1, d2] }
  | _ => none }
def SuperBitsWrongFalsely : Prop := superBitsRow.holds Try.pinned (OpenSpec.ofChange superBitsWrong)

/-- 'vellumlaw08.PmemPlays': WHATEVER THE INPUT: true; the input reads as it did. -/
def pmemPlaysSpec : ChangeSpec := { name := "pmemPlays", fn := fun _ => fun
  | [d1, d2] => { results := [.lit (.bool true)], args := [d1, d2] }
  | _ => none }
def pmemPlaysRow : OpenClaim := { program := "ytimckjnnjakcoaa", sum := "f0640c7d9cb4c4c87eab0dcc6299b328c946a0c789529d9af1f9f7b49dbfebb6", func := "vellum/vellumlaw08.PmemPlays", spec := "pmemPlays", apart := false }
def PmemPlaysSaid : Prop := pmemPlaysRow.holds Try.pinned (OpenSpec.ofChange pmemPlaysSpec)

/-- ITS FALSE NEIGHBOUR: 'it returns false'. Refute it at one input. -/
def pmemPlaysWrong : ChangeSpec := { name := "pmemPlays", fn := fun _ => fun
  | [d1, d2] => { results := [.lit (.bool false)], args := [d1, d2] }
  | _ => none }
def PmemPlaysWrongFalsely : Prop := pmemPlaysRow.holds Try.pinned (OpenSpec.ofChange pmemPlaysWrong)

/-- 'vellumlaw08.PmemNames': WHATEVER THE INPUT: true; the input reads as it did. -/
def pmemNamesSpec : ChangeSpec := { name := "pmemNames", fn := fun _ => fun
  | [] => { results := [.lit (.bool true)], args := [] }
  | _ => none }
def pmemNamesRow : OpenClaim := { program := "ytimckjnnjakcoaa", sum := "f0640c7d9cb4c4c87eab0dcc6299b328c946a0c789529d9af1f9f7b49dbfebb6", func := "vellum/vellumlaw08.PmemNames", spec := "pmemNames", apart := false }
def PmemNamesSaid : Prop := pmemNamesRow.holds Try.pinned (OpenSpec.ofChange pmemNamesSpec)

/-- ITS FALSE NEIGHBOUR: 'it returns false'. Refute it at one input. -/
def pmemNamesWrong : ChangeSpec := { name := "pmemNames", fn := fun _ => fun
  | [] => { results := [.lit (.bool false)], args := [] }
  | _ => none }
def PmemNamesWrongFalsely : Prop := pmemNamesRow.holds Try.pinned (OpenSpec.ofChange pmemNamesWrong)

/-- 'vellumlaw09.PersistLasts': WHATEVER THE INPUT: true; the input reads as it did. -/
def persistLastsSpec : ChangeSpec := { name := "persistLasts", fn := fun _ => fun
  | [d] => { results := [.lit (.bool true)], args := [d] }
  | _ => none }
def persistLastsRow : OpenClaim := { program := "ytimckjnnjakcoaa", sum := "f0640c7d9cb4c4c87eab0dcc6299b328c946a0c789529d9af1f9f7b49dbfebb6", func := "vellum/vellumlaw09.PersistLasts", spec := "persistLasts", unfollowed := true, recurses := true, apart := false }
def PersistLastsSaid : Prop := persistLastsRow.holds Try.pinned (OpenSpec.ofChange persistLastsSpec)

/-- ITS FALSE NEIGHBOUR: 'it returns false'. Refute it at one input. -/
def persistLastsWrong : ChangeSpec := { name := "persistLasts", fn := fun _ => fun
  | [d] => { results := [.lit (.bool false)], args := [d] }
  | _ => none }
def PersistLastsWrongFalsely : Prop := persistLastsRow.holds Try.pinned (OpenSpec.ofChange persistLastsWrong)

/-- 'vellumlaw09.PersistNames': WHATEVER THE INPUT: true; the input reads as it did. -/
def persistNamesSpec : ChangeSpec := { name := "persistNames", fn := fun _ => fun
  | [] => { results := [.lit (.bool true)], args := [] }
  | _ => none }
def persistNamesRow : OpenClaim := { program := "ytimckjnnjakcoaa", sum := "f0640c7d9cb4c4c87eab0dcc6299b328c946a0c789529d9af1f9f7b49dbfebb6", func := "vellum/vellumlaw09.PersistNames", spec := "persistNames", unfollowed := true, recurses := true, apart := false }
def PersistNamesSaid : Prop := persistNamesRow.holds Try.pinned (OpenSpec.ofChange persistNamesSpec)

/-- ITS FALSE NEIGHBOUR: 'it returns false'. Refute it at one input. -/
def persistNamesWrong : ChangeSpec := { name := "persistNames", fn := fun _ => fun
  | [] => { results := [.lit (.bool false)], args := [] }
  | _ => none }
def PersistNamesWrongFalsely : Prop := persistNamesRow.holds Try.pinned (OpenSpec.ofChange persistNamesWrong)

/-- 'vellumlaw10.SuperReads': WHATEVER THE INPUT: true; the input reads as it did. -/
def superReadsSpec : ChangeSpec := { name := "superReads", fn := fun _ => fun
  | [d] => { results := [.lit (.bool true)], args := [d] }
  | _ => none }
def superReadsRow : OpenClaim := { program := "ytimckjnnjakcoaa", sum := "f0640c7d9cb4c4c87eab0dcc6299b328c946a0c789529d9af1f9f7b49dbfebb6", func := "vellum/vellumlaw10.SuperReads", spec := "superReads", unfollowed := true, recurses := true, apart := false }
def SuperReadsSaid : Prop := superReadsRow.holds Try.pinned (OpenSpec.ofChange superReadsSpec)

/-- ITS FALSE NEIGHBOUR: 'it returns false'. Refute it at one input. -/
def superReadsWrong : ChangeSpec := { name := "superReads", fn := fun _ => fun
  | [d] => { results := [.lit (.bool false)], args := [d] }
  | _ => none }
def SuperReadsWrongFalsely : Prop := superReadsRow.holds Try.pinned (OpenSpec.ofChange superReadsWrong)

/-- 'vellumlaw09.PersistWhole': WHATEVER THE INPUT: true; the input reads as it did. -/
def persistWholeSpec : ChangeSpec := { name := "persistWhole", fn := fun _ => fun
  | [d] => { results := [.lit (.bool true)], args := [d] }
  | _ => none }
def persistWholeRow : OpenClaim := { program := "ytimckjnnjakcoaa", sum := "f0640c7d9cb4c4c87eab0dcc6299b328c946a0c789529d9af1f9f7b49dbfebb6", func := "vellum/vellumlaw09.PersistWhole", spec := "persistWhole", unfollowed := true, recurses := true, apart := false }
def PersistWholeSaid : Prop := persistWholeRow.holds Try.pinned (OpenSpec.ofChange persistWholeSpec)

/-- ITS FALSE NEIGHBOUR: 'it returns false'. Refute it at one input. -/
def persistWholeWrong : ChangeSpec := { name := "persistWhole", fn := fun _ => fun
  | [d] => { results := [.lit (.bool false)], args := [d] }
  | _ => none }
def PersistWholeWrongFalsely : Prop := persistWholeRow.holds Try.pinned (OpenSpec.ofChange persistWholeWrong)

/-- 'vellumlaw10.SuperLost': WHATEVER THE INPUT: true; the input reads as it did. -/
def superLostSpec : ChangeSpec := { name := "superLost", fn := fun _ => fun
  | [d1, d2, d3] => { results := [.lit (.bool true)], args := [d1, d2, d3] }
  | _ => none }
def superLostRow : OpenClaim := { program := "ytimckjnnjakcoaa", sum := "f0640c7d9cb4c4c87eab0dcc6299b328c946a0c789529d9af1f9f7b49dbfebb6", func := "vellum/vellumlaw10.SuperLost", spec := "superLost", unfollowed := true, recurses := true, apart := false }
def SuperLostSaid : Prop := superLostRow.holds Try.pinned (OpenSpec.ofChange superLostSpec)

/-- ITS FALSE NEIGHBOUR: 'it returns false'. Refute it at one input. -/
def superLostWrong : ChangeSpec := { name := "superLost", fn := fun _ => fun
  | [d1, d2, d3] => { results := [.lit (.bool false)], args := [d1, d2, d3] }
  | _ => none }
def SuperLostWrongFalsely : Prop := superLostRow.holds Try.pinned (OpenSpec.ofChange superLostWrong)

/-- 'vellumlaw10.SuperFormats': WHATEVER THE INPUT: true; the input reads as it did. -/
def superFormatsSpec : ChangeSpec := { name := "superFormats", fn := fun _ => fun
  | [d1, d2, d3] => { results := [.lit (.bool true)], args := [d1, d2, d3] }
  | _ => none }
def superFormatsRow : OpenClaim := { program := "ytimckjnnjakcoaa", sum := "f0640c7d9cb4c4c87eab0dcc6299b328c946a0c789529d9af1f9f7b49dbfebb6", func := "vellum/vellumlaw10.SuperFormats", spec := "superFormats", unfollowed := true, recurses := true, apart := false }
def SuperFormatsSaid : Prop := superFormatsRow.holds Try.pinned (OpenSpec.ofChange superFormatsSpec)

/-- ITS FALSE NEIGHBOUR: 'it returns false'. Refute it at one input. -/
def superFormatsWrong : ChangeSpec := { name := "superFormats", fn := fun _ => fun
  | [d1, d2, d3] => { results := [.lit (.bool false)], args := [d1, d2, d3] }
  | _ => none }
def SuperFormatsWrongFalsely : Prop := superFormatsRow.holds Try.pinned (OpenSpec.ofChange superFormatsWrong)

/- THE SECOND FORM. 'bulk': how many values and letters a reading holds, each counted each time it is reached (what is shared counts as often as it is met; a slice's spare places count too). A statement '..UptoSaid' is the law's where the arguments, and the package variables that the reading takes, are together of bulk at most 1048576: NARROWER than '..Said'. Prove '..Said' where nothing that the law and all that it calls make is longer than what came in: it says more and counts as full. Else prove '..UptoSaid'. A law counts once. -/
mutual
def uptoBulk {H : Type} : DataW H → Nat
  | .lit (.string bytes) => bytes.length + 1
  | .lit _ => 1
  | .nil => 1
  | .ptr d => uptoBulk d + 1
  | .slice elems spare => uptoBulkAll elems + uptoBulkAll spare + 1
  | .agg parts => uptoBulkAll parts + 1
  | .iface _ d => uptoBulk d + 1
  | .map entries => uptoBulkEntries entries + 1
  | .held _ => 1
def uptoBulkAll {H : Type} : List (DataW H) → Nat
  | [] => 0
  | d :: r => uptoBulk d + uptoBulkAll r
def uptoBulkEntries {H : Type} : List (Lit × DataW H) → Nat
  | [] => 0
  | x :: r => uptoBulkEntry x + uptoBulkEntries r
def uptoBulkEntry {H : Type} : Lit × DataW H → Nat
  | (.string bytes, d) => bytes.length + uptoBulk d + 1
  | (_, d) => uptoBulk d + 1
 end
def uptoSmall : (H : Type) → List (DataW H) → Bool := fun _ ds => decide (uptoBulkAll ds ≤ 1048576)
def OpenSpec.upto (s : _root_.Go.ChangeSpec) : _root_.Go.OpenSpec := { _root_.Go.OpenSpec.ofChange s with cond := some uptoSmall }

/-- 'vellumlaw10.SuperPlans', WHERE WHAT IT READS IS OF BULK AT MOST 1048576: true; the input reads as it did. -/
def superPlansUptoRow : OpenClaim := { program := "ytimckjnnjakcoaa", sum := "f0640c7d9cb4c4c87eab0dcc6299b328c946a0c789529d9af1f9f7b49dbfebb6", func := "vellum/vellumlaw10.SuperPlans", spec := "superPlans", apart := false, narrowed := true }
def SuperPlansUptoSaid : Prop := superPlansUptoRow.holds Try.pinned (OpenSpec.upto superPlansSpec)

/-- 'vellumlaw08.PmemLasts', WHERE WHAT IT READS IS OF BULK AT MOST 1048576: true; the input reads as it did. -/
def pmemLastsUptoRow : OpenClaim := { program := "ytimckjnnjakcoaa", sum := "f0640c7d9cb4c4c87eab0dcc6299b328c946a0c789529d9af1f9f7b49dbfebb6", func := "vellum/vellumlaw08.PmemLasts", spec := "pmemLasts", apart := false, narrowed := true }
def PmemLastsUptoSaid : Prop := pmemLastsUptoRow.holds Try.pinned (OpenSpec.upto pmemLastsSpec)

/-- 'vellumlaw08.PmemKeeps', WHERE WHAT IT READS IS OF BULK AT MOST 1048576: true; the input reads as it did. -/
def pmemKeepsUptoRow : OpenClaim := { program := "ytimckjnnjakcoaa", sum := "f0640c7d9cb4c4c87eab0dcc6299b328c946a0c789529d9af1f9f7b49dbfebb6", func := "vellum/vellumlaw08.PmemKeeps", spec := "pmemKeeps", apart := false, narrowed := true }
def PmemKeepsUptoSaid : Prop := pmemKeepsUptoRow.holds Try.pinned (OpenSpec.upto pmemKeepsSpec)

/-- 'vellumlaw08.PmemFresh', WHERE WHAT IT READS IS OF BULK AT MOST 1048576: true; the input reads as it did. -/
def pmemFreshUptoRow : OpenClaim := { program := "ytimckjnnjakcoaa", sum := "f0640c7d9cb4c4c87eab0dcc6299b328c946a0c789529d9af1f9f7b49dbfebb6", func := "vellum/vellumlaw08.PmemFresh", spec := "pmemFresh", apart := false, narrowed := true }
def PmemFreshUptoSaid : Prop := pmemFreshUptoRow.holds Try.pinned (OpenSpec.upto pmemFreshSpec)

/-- 'vellumlaw08.PmemStores', WHERE WHAT IT READS IS OF BULK AT MOST 1048576: true; the input reads as it did. -/
def pmemStoresUptoRow : OpenClaim := { program := "ytimckjnnjakcoaa", sum := "f0640c7d9cb4c4c87eab0dcc6299b328c946a0c789529d9af1f9f7b49dbfebb6", func := "vellum/vellumlaw08.PmemStores", spec := "pmemStores", apart := false, narrowed := true }
def PmemStoresUptoSaid : Prop := pmemStoresUptoRow.holds Try.pinned (OpenSpec.upto pmemStoresSpec)

/-- 'vellumlaw08.PmemArms', WHERE WHAT IT READS IS OF BULK AT MOST 1048576: true; the input reads as it did. -/
def pmemArmsUptoRow : OpenClaim := { program := "ytimckjnnjakcoaa", sum := "f0640c7d9cb4c4c87eab0dcc6299b328c946a0c789529d9af1f9f7b49dbfebb6", func := "vellum/vellumlaw08.PmemArms", spec := "pmemArms", apart := false, narrowed := true }
def PmemArmsUptoSaid : Prop := pmemArmsUptoRow.holds Try.pinned (OpenSpec.upto pmemArmsSpec)

/-- 'vellumlaw10.SuperBits', WHERE WHAT IT READS IS OF BULK AT MOST 1048576: true; the input reads as it did. -/
def superBitsUptoRow : OpenClaim := { program := "ytimckjnnjakcoaa", sum := "f0640c7d9cb4c4c87eab0dcc6299b328c946a0c789529d9af1f9f7b49dbfebb6", func := "vellum/vellumlaw10.SuperBits", spec := "superBits", unfollowed := true, recurses := true, apart := false, narrowed := true }
def SuperBitsUptoSaid : Prop := superBitsUptoRow.holds Try.pinned (OpenSpec.upto superBitsSpec)

/-- 'vellumlaw08.PmemPlays', WHERE WHAT IT READS IS OF BULK AT MOST 1048576: true; the input reads as it did. -/
def pmemPlaysUptoRow : OpenClaim := { program := "ytimckjnnjakcoaa", sum := "f0640c7d9cb4c4c87eab0dcc6299b328c946a0c789529d9af1f9f7b49dbfebb6", func := "vellum/vellumlaw08.PmemPlays", spec := "pmemPlays", apart := false, narrowed := true }
def PmemPlaysUptoSaid : Prop := pmemPlaysUptoRow.holds Try.pinned (OpenSpec.upto pmemPlaysSpec)

/-- 'vellumlaw08.PmemNames', WHERE WHAT IT READS IS OF BULK AT MOST 1048576: true; the input reads as it did. -/
def pmemNamesUptoRow : OpenClaim := { program := "ytimckjnnjakcoaa", sum := "f0640c7d9cb4c4c87eab0dcc6299b328c946a0c789529d9af1f9f7b49dbfebb6", func := "vellum/vellumlaw08.PmemNames", spec := "pmemNames", apart := false, narrowed := true }
def PmemNamesUptoSaid : Prop := pmemNamesUptoRow.holds Try.pinned (OpenSpec.upto pmemNamesSpec)

/-- 'vellumlaw09.PersistLasts', WHERE WHAT IT READS IS OF BULK AT MOST 1048576: true; the input reads as it did. -/
def persistLastsUptoRow : OpenClaim := { program := "ytimckjnnjakcoaa", sum := "f0640c7d9cb4c4c87eab0dcc6299b328c946a0c789529d9af1f9f7b49dbfebb6", func := "vellum/vellumlaw09.PersistLasts", spec := "persistLasts", unfollowed := true, recurses := true, apart := false, narrowed := true }
def PersistLastsUptoSaid : Prop := persistLastsUptoRow.holds Try.pinned (OpenSpec.upto persistLastsSpec)

/-- 'vellumlaw09.PersistNames', WHERE WHAT IT READS IS OF BULK AT MOST 1048576: true; the input reads as it did. -/
def persistNamesUptoRow : OpenClaim := { program := "ytimckjnnjakcoaa", sum := "f0640c7d9cb4c4c87eab0dcc6299b328c946a0c789529d9af1f9f7b49dbfebb6", func := "vellum/vellumlaw09.PersistNames", spec := "persistNames", unfollowed := true, recurses := true, apart := false, narrowed := true }
def PersistNamesUptoSaid : Prop := persistNamesUptoRow.holds Try.pinned (OpenSpec.upto persistNamesSpec)

/-- 'vellumlaw10.SuperReads', WHERE WHAT IT READS IS OF BULK AT MOST 1048576: true; the input reads as it did. -/
def superReadsUptoRow : OpenClaim := { program := "ytimckjnnjakcoaa", sum := "f0640c7d9cb4c4c87eab0dcc6299b328c946a0c789529d9af1f9f7b49dbfebb6", func := "vellum/vellumlaw10.SuperReads", spec := "superReads", unfollowed := true, recurses := true, apart := false, narrowed := true }
def SuperReadsUptoSaid : Prop := superReadsUptoRow.holds Try.pinned (OpenSpec.upto superReadsSpec)

/-- 'vellumlaw09.PersistWhole', WHERE WHAT IT READS IS OF BULK AT MOST 1048576: true; the input reads as it did. -/
def persistWholeUptoRow : OpenClaim := { program := "ytimckjnnjakcoaa", sum := "f0640c7d9cb4c4c87eab0dcc6299b328c946a0c789529d9af1f9f7b49dbfebb6", func := "vellum/vellumlaw09.PersistWhole", spec := "persistWhole", unfollowed := true, recurses := true, apart := false, narrowed := true }
def PersistWholeUptoSaid : Prop := persistWholeUptoRow.holds Try.pinned (OpenSpec.upto persistWholeSpec)

/-- 'vellumlaw10.SuperLost', WHERE WHAT IT READS IS OF BULK AT MOST 1048576: true; the input reads as it did. -/
def superLostUptoRow : OpenClaim := { program := "ytimckjnnjakcoaa", sum := "f0640c7d9cb4c4c87eab0dcc6299b328c946a0c789529d9af1f9f7b49dbfebb6", func := "vellum/vellumlaw10.SuperLost", spec := "superLost", unfollowed := true, recurses := true, apart := false, narrowed := true }
def SuperLostUptoSaid : Prop := superLostUptoRow.holds Try.pinned (OpenSpec.upto superLostSpec)

/-- 'vellumlaw10.SuperFormats', WHERE WHAT IT READS IS OF BULK AT MOST 1048576: true; the input reads as it did. -/
def superFormatsUptoRow : OpenClaim := { program := "ytimckjnnjakcoaa", sum := "f0640c7d9cb4c4c87eab0dcc6299b328c946a0c789529d9af1f9f7b49dbfebb6", func := "vellum/vellumlaw10.SuperFormats", spec := "superFormats", unfollowed := true, recurses := true, apart := false, narrowed := true }
def SuperFormatsUptoSaid : Prop := superFormatsUptoRow.holds Try.pinned (OpenSpec.upto superFormatsSpec)

end Rows
end Go.Proofs.Ytimckjnnjakcoaa
