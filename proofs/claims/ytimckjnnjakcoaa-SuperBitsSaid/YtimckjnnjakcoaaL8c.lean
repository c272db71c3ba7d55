/- vellumlaw08: the book that is kept beside a device. Conditions: none. -/
import Derived.Test.YtimckjnnjakcoaaL8b
set_option linter.unusedVariables false
set_option linter.unusedSimpArgs false
namespace Go.Vl
open Go Go.Proofs


/-- A device and its book. -/
structure PlS where
  s : DevS
  seen : List Nat
  held : List (List Nat)
  last : List Nat
  sure : List Bool
  marks : List Int

def wi (p : Int) (n : Nat) : Nat := (p % (n : Int)).toNat
def lastF (marks : List Int) (seen : List Nat) : Nat → Nat → Nat := fun i x => if marks.getD (i / 8) 0 = 1 then seen.getD i 0 else x
def sureF (marks : List Int) : Nat → Bool → Bool := fun i x => if marks.getD (i / 8) 0 = 1 then true else x
/-- One step without a loss of power, told. -/
def stepP (k p : Int) (v : Nat) (P : PlS) : Bool × PlS :=
  if k = 2 ∨ k = 3 then
    (decide ((st8 ((8 * wi p P.seen.length : Nat) : Int) v P.s).1 = 0), ⟨(st8 ((8 * wi p P.seen.length : Nat) : Int) v P.s).2, P.seen.set (wi p P.seen.length) v, P.held.set (wi p P.seen.length) (P.held.getD (wi p P.seen.length) [] ++ [v]), P.last,
      P.sure.set (wi p P.seen.length) false, if P.marks.getD (wi p P.seen.length / 8) 0 = 1 then P.marks.set (wi p P.seen.length / 8) 2 else P.marks⟩)
  else if k = 4 then (decide ((fl1 ((8 * wi p P.seen.length : Nat) : Int) P.s).1 = 0), { P with s := (fl1 ((8 * wi p P.seen.length : Nat) : Int) P.s).2, marks := P.marks.set (wi p P.seen.length / 8) 1 })
  else if k = 5 then (decide ((fe P.s).1 = 0), { P with s := (fe P.s).2, last := pm (lastF P.marks P.seen) P.seen.length P.last, sure := pm (sureF P.marks) P.seen.length P.sure, marks := pm (fun _ _ => 0) P.marks.length P.marks })
  else (true, P)

/-- The book's own cells. -/
def pcs (d : Nat) (sv hv lv uv mv : Value) : List Value := [.pointer (some ⟨d, 0, none⟩), sv, hv, lv, uv, mv]
def PlC (p d : Nat) (sv hv lv uv mv : Value) (hvs : List Value) (P : PlS) : SP :=
  pt p (cl (pcs d sv hv lv uv mv) 46) * Dev d P.s * Words hvs P.held * Sl 1 sv P.seen.length (wds P.seen) * Sl 1 hv P.seen.length hvs * Sl 1 lv P.seen.length (wds P.last) * Sl 1 uv P.seen.length (bos P.sure) * Sl 1 mv P.marks.length (ints P.marks)
theorem plC_eq {F : SP} {p d : Nat} {sv hv lv uv mv : Value} {hvs : List Value} {P : PlS} : F * PlC p d sv hv lv uv mv hvs P =
    F * Words hvs P.held * pt p (cl (pcs d sv hv lv uv mv) 46) * Sl 1 sv P.seen.length (wds P.seen) * Sl 1 hv P.seen.length hvs * Sl 1 lv P.seen.length (wds P.last) * Sl 1 uv P.seen.length (bos P.sure) * Sl 1 mv P.marks.length (ints P.marks) * Dev d P.s := by
  unfold PlC; ac_rfl
structure WfP (r : Nat) (P : PlS) : Prop where
  pos : 0 < P.marks.length
  top : P.marks.length ≤ 4
  ls : P.s.ls.length = P.marks.length
  seen : P.seen.length = 8 * P.marks.length
  held : P.held.length = 8 * P.marks.length
  last : P.last.length = 8 * P.marks.length
  sure : P.sure.length = 8 * P.marks.length
  room : Room r P.s
  hroom : ∀ l ∈ P.held, l.length + r ≤ 2199023255552
theorem wi_lt {p : Int} {n : Nat} (h : 0 < n) : wi p n < n := by
  have h1 := Int.emod_lt_of_pos p (show (0 : Int) < n by omega)
  have h2 := Int.emod_nonneg p (show (n : Int) ≠ 0 by omega)
  unfold wi; omega
theorem wi_cast {p : Int} {n : Nat} (h : 0 < n) : p % (n : Int) = ((wi p n : Nat) : Int) := by
  have h2 := Int.emod_nonneg p (show (n : Int) ≠ 0 by omega)
  unfold wi; omega

end Go.Vl
