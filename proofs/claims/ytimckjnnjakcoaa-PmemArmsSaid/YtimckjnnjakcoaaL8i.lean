/- vellumlaw08: what was fenced lasts, in plain Lean. Conditions: none. -/
import Derived.Test.YtimckjnnjakcoaaL8g
set_option linter.unusedVariables false
set_option linter.unusedSimpArgs false
namespace Go.Vl
open Go Go.Proofs


theorem lb_word {s : List Nat} {r : Nat} (h : r < s.length) (t : List Nat) : (((lb s ++ t).drop (8 * r)).take 8) = le 8 s[r] := by
  induction s generalizing r with
  | nil => simp at h
  | cons x s ih =>
    cases r with
    | zero =>
      show (((le 8 x ++ lb s) ++ t).drop 0).take 8 = le 8 x
      rw [List.drop_zero, List.append_assoc, List.take_append_of_le_length (by rw [le_length]; omega), List.take_of_length_le (by rw [le_length]; omega)]
    | succ r =>
      have e : 8 * (r + 1) = (le 8 x).length + 8 * r := by rw [le_length]; omega
      show (((le 8 x ++ lb s) ++ t).drop _).take 8 = _
      rw [e, List.append_assoc, ← List.drop_drop, List.drop_left]
      exact ih (by simpa using h)
theorem img_word {s : DevS} (hw : WfD s) {w : Nat} (h : w / 8 < s.ls.length) : nm (((imgS s).drop (8 * w)).take 8) = (seenL s.ls[w / 8]).getD (w % 8) 0 := by
  have hwl := hw.line _ (List.getElem_mem h)
  have hm := seenL_mem hwl
  have h8 := hwl.eight _ hm
  have hr : w % 8 < (seenL s.ls[w / 8]).length := by omega
  have e : 8 * w = w / 8 * 64 + 8 * (w % 8) := by omega
  have hx : (seenL s.ls[w / 8])[w % 8] < 18446744073709551616 := hwl.words _ hm _ (List.getElem_mem hr)
  rw [e, ← List.drop_drop, imgS, img_at hw.line h, lb_word hr, nm_le, Nat.mod_eq_of_lt hx]
  simp [List.getD, hr]
/-- The book tells the device. -/
structure InvL (P : PlS) (w : Nat) (l : LineS) : Prop where
  seen : (seenL l).getD (w % 8) 0 = P.seen.getD w 0
  held : ∀ σ ∈ l.st, σ.getD (w % 8) 0 ∈ P.held.getD w []
  last : P.sure.getD w false = true → ∀ σ ∈ l.st, σ.getD (w % 8) 0 = P.last.getD w 0
  mark : P.marks.getD (w / 8) 0 = 1 → l.mark = (l.st.length : Int) - 1
def Inv (P : PlS) : Prop := ∀ w l, w < P.seen.length → P.s.ls[w / 8]? = some l → InvL P w l
theorem rep8 (j : Nat) : (List.replicate 8 (0 : Nat)).getD j 0 = 0 := by
  unfold List.getD; rw [List.getElem?_replicate]; split <;> rfl
theorem inv_begS (n : Nat) : Inv (begS n) := fun w l hw hl => by
  have hl2 : l = zline := by
    have := List.mem_of_getElem? hl
    simp only [begS, newS, List.mem_replicate] at this; exact this.2
  subst hl2
  have hw' : w < 8 * n := by simpa [begS] using hw
  have h8 : w / 8 < n := by omega
  have hm : w % 8 < 8 := Nat.mod_lt _ (by decide)
  refine ⟨?_, ?_, ?_, ?_⟩
  · show (List.replicate 8 (0 : Nat)).getD (w % 8) 0 = _
    rw [rep8]; simp [begS, List.getD, hw']
  · intro σ hσ
    simp only [zline, List.mem_singleton] at hσ
    subst hσ
    rw [rep8]; simp [begS, List.getD, hw']
  · intro _ σ hσ
    simp only [zline, List.mem_singleton] at hσ
    subst hσ
    rw [rep8]; simp [begS, List.getD, hw']
  · intro h
    simp [begS, List.getD, h8] at h
theorem lasts_of {P : PlS} {r : Nat} (hP : WfP r P) (hw : WfD P.s) (hI : Inv P) (keep : List Int) : Lasts P { goesS keep P.s with off := false } := by
  have hls := hP.ls
  have hseen := hP.seen
  have hg := goesS_wf (keep := keep) hw
  have hw2 : WfD { goesS keep P.s with off := false } := ⟨hg.pos, hg.top, hg.line, hg.arms, hg.after, hg.keeps⟩
  have hlen : (goesS keep P.s).ls.length = P.s.ls.length := by simp [goesS, goPart_length]
  have key : ∀ i, i < P.seen.length → ∃ l σ, P.s.ls[i / 8]? = some l ∧ σ ∈ l.st ∧ nm (((imgS { goesS keep P.s with off := false }).drop (8 * i)).take 8) = σ.getD (i % 8) 0 := by
    intro i hi
    have h8 : i / 8 < P.s.ls.length := by omega
    have h82 : i / 8 < ({ goesS keep P.s with off := false } : DevS).ls.length := by show _ < (goesS keep P.s).ls.length; omega
    have hwl := hw.line _ (List.getElem_mem h8)
    have hk := kOf_lt (keep := keep) (i := i / 8) (List.length_pos_iff.2 hwl.ne)
    refine ⟨P.s.ls[i / 8], P.s.ls[i / 8].st[kOf keep (i / 8) P.s.ls[i / 8].st.length], List.getElem?_eq_getElem h8, List.getElem_mem _, ?_⟩
    rw [img_word hw2 h82]
    have e : ({ goesS keep P.s with off := false } : DevS).ls[i / 8] = goL keep (i / 8) P.s.ls[i / 8] := by
      show (goPart keep P.s.ls.length P.s.ls)[i / 8]'_ = _
      simp [goPart, h8]
    rw [e]
    unfold seenL goL
    simp only [List.length_singleton]
    rw [getD_at hk]; rfl
  refine ⟨by show (goesS keep P.s).ls.length = _; omega, hw2, hw, fun i hi => ?_, fun i hi => ?_, fun i hi hi' hs => ?_⟩
  · have h8 : i / 8 < P.s.ls.length := by omega
    rw [img_word hw h8, (hI i _ hi (List.getElem?_eq_getElem h8)).seen]; simp [List.getD, hi]
  · have hi2 : i < P.seen.length := by have := hP.held; omega
    obtain ⟨l, σ, h1, h2, h3⟩ := key i hi2
    rw [h3]
    have := (hI i l hi2 h1).held σ h2
    rwa [show P.held.getD i [] = P.held[i] by simp [List.getD, hi]] at this
  · have hi2 : i < P.seen.length := by have := hP.sure; omega
    obtain ⟨l, σ, h1, h2, h3⟩ := key i hi2
    rw [h3, (hI i l hi2 h1).last (by simp [List.getD, hi, hs]) σ h2]; simp [List.getD, hi']

end Go.Vl
