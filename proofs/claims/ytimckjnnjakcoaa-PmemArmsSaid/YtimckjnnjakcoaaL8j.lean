/- vellumlaw08: what was fenced lasts: the steps. Conditions: none. -/
import Derived.Test.YtimckjnnjakcoaaL8i
set_option linter.unusedVariables false
set_option linter.unusedSimpArgs false
namespace Go.Vl
open Go Go.Proofs


theorem getD_ne {α : Type} {l : List α} {i j : Nat} {x d : α} (h : i ≠ j) : (l.set i x).getD j d = l.getD j d := by
  unfold List.getD; rw [List.getElem?_set_ne h]
theorem getD_eq {α : Type} {l : List α} {i : Nat} {x d : α} (h : i < l.length) : (l.set i x).getD i d = x := by
  unfold List.getD; rw [List.getElem?_set_self h]; rfl
theorem pm_getD {α : Type} (f : Nat → α → α) {k i : Nat} {l : List α} (h : i < l.length) (hk : i < k) (d : α) : (pm f k l).getD i d = f i (l.getD i d) := by
  unfold List.getD pm; rw [List.getElem?_mapIdx, List.getElem?_eq_getElem h]; simp [hk]
theorem seenL_app (l : LineS) (σ : List Nat) : seenL { l with st := l.st ++ [σ] } = σ := by
  unfold seenL; simp [List.getD]
theorem wfD_ops {s : DevS} (h : WfD s) (o : Int) : WfD { s with ops := o } := ⟨h.pos, h.top, h.line, h.arms, h.after, h.keeps⟩
theorem onLine_get {f : LineS → LineS} {i j : Nat} {s : DevS} {l : LineS} (h : (onLine f i s).ls[j]? = some l) : ∃ l0, s.ls[j]? = some l0 ∧ l = if i = j then f l0 else l0 := by
  unfold onLine at h
  cases e : s.ls[i]? with
  | none =>
    rw [e] at h
    refine ⟨l, h, ?_⟩
    rw [if_neg]; rintro rfl; rw [e] at h; cases h
  | some l0 =>
    rw [e] at h
    simp only at h
    by_cases hij : i = j
    · subst hij
      rw [List.getElem?_set_self (List.getElem?_eq_some_iff.1 e).1] at h
      exact ⟨l0, e, by rw [if_pos rfl]; exact (Option.some.inj h).symm⟩
    · rw [List.getElem?_set_ne hij] at h
      exact ⟨l, h, by rw [if_neg hij]⟩
theorem inv_store {P : PlS} {r : Nat} (hP : WfP r P) (hw : WfD P.s) (hI : Inv P) {w0 v : Nat} (h0 : w0 < P.seen.length) (s' : DevS) (hs' : s'.ls = (layS (8 * w0) v P.s).ls) :
    Inv ⟨s', P.seen.set w0 v, P.held.set w0 (P.held.getD w0 [] ++ [v]), P.last, P.sure.set w0 false, if P.marks.getD (w0 / 8) 0 = 1 then P.marks.set (w0 / 8) 2 else P.marks⟩ := fun w l hwl hl => by
  have hls := hP.ls
  have hseen := hP.seen
  have hheld := hP.held
  have hsure := hP.sure
  simp only [List.length_set] at hwl
  simp only [hs'] at hl
  unfold layS at hl
  obtain ⟨l0, e0, el⟩ := onLine_get hl
  have hI0 := hI w l0 hwl e0
  have hwf := hw.line l0 (List.mem_of_getElem? e0)
  have hm := seenL_mem hwf
  have h8 := hwf.eight _ hm
  rw [show 8 * w0 / 64 = w0 / 8 by omega, show 8 * w0 % 64 / 8 = w0 % 8 by omega] at el
  have h88 : w0 / 8 < P.marks.length := by omega
  by_cases hj : w0 / 8 = w / 8
  · rw [if_pos hj] at el
    have hsl : seenL l = (seenL l0).set (w0 % 8) v := by rw [el]; unfold layL; exact seenL_app l0 _
    have hst : l.st = l0.st ++ [(seenL l0).set (w0 % 8) v] := by rw [el]; rfl
    have hmark : (if P.marks.getD (w0 / 8) 0 = 1 then P.marks.set (w0 / 8) 2 else P.marks).getD (w / 8) 0 ≠ 1 := by
      rw [← hj]
      split
      · rw [getD_eq h88]; decide
      · assumption
    by_cases hww : w0 = w
    · subst hww
      refine ⟨?_, fun σ hσ => ?_, fun hs => ?_, fun h => absurd h hmark⟩
      · show (seenL l).getD _ 0 = (P.seen.set w0 v).getD w0 0
        rw [hsl, getD_eq (by omega), getD_eq h0]
      · show _ ∈ (P.held.set w0 _).getD w0 []
        rw [getD_eq (by omega)]
        rw [hst, List.mem_append, List.mem_singleton] at hσ
        rcases hσ with hσ | rfl
        · exact List.mem_append_left _ (hI0.held σ hσ)
        · rw [getD_eq (by omega)]; simp
      · exfalso
        have : (P.sure.set w0 false).getD w0 false = true := hs
        rw [getD_eq (by omega)] at this; cases this
    · have hr : w0 % 8 ≠ w % 8 := by omega
      refine ⟨?_, fun σ hσ => ?_, fun hs σ hσ => ?_, fun h => absurd h hmark⟩
      · show (seenL l).getD _ 0 = (P.seen.set w0 v).getD w 0
        rw [hsl, getD_ne hr, getD_ne hww]; exact hI0.seen
      · show _ ∈ (P.held.set w0 _).getD w []
        rw [getD_ne hww]
        rw [hst, List.mem_append, List.mem_singleton] at hσ
        rcases hσ with hσ | rfl
        · exact hI0.held σ hσ
        · rw [getD_ne hr]; exact hI0.held _ hm
      · have hs2 : (P.sure.set w0 false).getD w false = true := hs
        rw [getD_ne hww] at hs2
        show _ = P.last.getD w 0
        rw [hst, List.mem_append, List.mem_singleton] at hσ
        rcases hσ with hσ | rfl
        · exact hI0.last hs2 σ hσ
        · rw [getD_ne hr]; exact hI0.last hs2 _ hm
  · rw [if_neg hj] at el
    subst el
    have hww : w0 ≠ w := by rintro rfl; exact hj rfl
    refine ⟨?_, fun σ hσ => ?_, fun hs σ hσ => ?_, fun h => ?_⟩
    · show _ = (P.seen.set w0 v).getD w 0
      rw [getD_ne hww]; exact hI0.seen
    · show _ ∈ (P.held.set w0 _).getD w []
      rw [getD_ne hww]; exact hI0.held σ hσ
    · have hs2 : (P.sure.set w0 false).getD w false = true := hs
      rw [getD_ne hww] at hs2
      exact hI0.last hs2 σ hσ
    · have h2 : (if P.marks.getD (w0 / 8) 0 = 1 then P.marks.set (w0 / 8) 2 else P.marks).getD (w / 8) 0 = 1 := h
      refine hI0.mark ?_
      split at h2
      · rwa [getD_ne hj] at h2
      · exact h2
theorem inv_flush {P : PlS} {r : Nat} (hP : WfP r P) (hI : Inv P) {w0 : Nat} (h0 : w0 < P.seen.length) (s' : DevS) (hs' : s'.ls = (flushS (8 * w0) P.s).ls) :
    Inv { P with s := s', marks := P.marks.set (w0 / 8) 1 } := fun w l hwl hl => by
  simp only [hs'] at hl
  unfold flushS at hl
  obtain ⟨l0, e0, el⟩ := onLine_get hl
  have hI0 := hI w l0 hwl e0
  rw [show 8 * w0 / 64 = w0 / 8 by omega] at el
  by_cases hj : w0 / 8 = w / 8
  · rw [if_pos hj] at el
    subst el
    exact ⟨hI0.seen, hI0.held, hI0.last, fun _ => rfl⟩
  · rw [if_neg hj] at el
    subst el
    refine ⟨hI0.seen, hI0.held, hI0.last, fun h => hI0.mark ?_⟩
    have h2 : (P.marks.set (w0 / 8) 1).getD (w / 8) 0 = 1 := h
    rwa [getD_ne hj] at h2
theorem seenL_drop {l : LineS} {m : Nat} (h : m < l.st.length) : seenL ⟨l.st.drop m, -1⟩ = seenL l := by
  unfold seenL List.getD
  simp only [List.length_drop, List.getElem?_drop]
  rw [show m + (l.st.length - m - 1) = l.st.length - 1 by omega]
theorem inv_fence {P : PlS} {r : Nat} (hP : WfP r P) (hw : WfD P.s) (hI : Inv P) (s' : DevS) (hs' : s'.ls = (fenceS P.s).ls) :
    Inv { P with s := s', last := pm (lastF P.marks P.seen) P.seen.length P.last, sure := pm (sureF P.marks) P.seen.length P.sure, marks := pm (fun _ _ => 0) P.marks.length P.marks } := fun w l hwl hl => by
  have hls := hP.ls
  have hseen := hP.seen
  simp only [hs', fenceS, List.getElem?_map] at hl
  simp only at hwl
  cases e0 : P.s.ls[w / 8]? with
  | none => rw [e0] at hl; cases hl
  | some l0 =>
    rw [e0] at hl
    have el : l = fenceL l0 := (Option.some.inj hl).symm
    have hI0 := hI w l0 hwl e0
    have hwf := hw.line l0 (List.mem_of_getElem? e0)
    have hpos := List.length_pos_iff.2 hwf.ne
    have hmem : ∀ σ ∈ l.st, σ ∈ l0.st := fun σ hσ => by
      rw [el] at hσ; unfold fenceL at hσ; split at hσ
      · exact List.mem_of_mem_drop hσ
      · exact hσ
    have hsl : seenL l = seenL l0 := by
      rw [el]; unfold fenceL; split
      · exact seenL_drop (by have := hwf.hi; omega)
      · rfl
    have h88 : w / 8 < P.marks.length := by omega
    refine ⟨by rw [hsl]; exact hI0.seen, fun σ hσ => hI0.held σ (hmem σ hσ), fun hs σ hσ => ?_, fun h => ?_⟩
    · have hs2 : (pm (sureF P.marks) P.seen.length P.sure).getD w false = true := hs
      rw [pm_getD _ (by have := hP.sure; omega) hwl] at hs2
      show _ = (pm (lastF P.marks P.seen) P.seen.length P.last).getD w 0
      rw [pm_getD _ (by have := hP.last; omega) hwl]
      unfold sureF at hs2
      unfold lastF
      by_cases hm1 : P.marks.getD (w / 8) 0 = 1
      · rw [if_pos hm1]
        have hmk := hI0.mark hm1
        have : σ = seenL l0 := by
          rw [el] at hσ; unfold fenceL at hσ
          rw [if_pos (by omega)] at hσ
          simp only [hmk] at hσ
          rw [show ((l0.st.length : Int) - 1).toNat = l0.st.length - 1 by omega, List.drop_eq_getElem_cons (by omega), List.drop_eq_nil_of_le (by omega), List.mem_singleton] at hσ
          rw [hσ, seenL_eq hpos]
        rw [this]; exact hI0.seen
      · rw [if_neg hm1] at hs2 ⊢
        exact hI0.last hs2 σ (hmem σ hσ)
    · have h2 : (pm (fun _ _ => 0) P.marks.length P.marks).getD (w / 8) 0 = 1 := h
      rw [pm_getD _ h88 h88] at h2
      cases h2
theorem inv_step {P : PlS} {r : Nat} (hP : WfP (r + 1) P) (hL : Live P.s) (hw : WfD P.s) (hI : Inv P) (k q : Int) {v : Nat} (hv : v < 18446744073709551616) : Inv (stepP k q v P).2 ∧ WfD (stepP k q v P).2.s := by
  have hseen := hP.seen
  have hls := hP.ls
  have hpos := hP.pos
  have hwi := wi_lt (p := q) (show 0 < P.seen.length by omega)
  unfold stepP
  split
  · rw [st8_live hL (by omega)]
    exact ⟨inv_store hP hw hI hwi _ rfl, wfD_ops (layS_wf hw (fun l hl => by have := hP.room l hl; omega) hv) _⟩
  · split
    · rw [fl1_live hL (by omega)]
      exact ⟨inv_flush hP hI hwi _ rfl, wfD_ops (flushS_wf hw) _⟩
    · split
      · rw [fe_live hL]
        exact ⟨inv_fence hP hw hI _ rfl, wfD_ops (fenceS_wf hw) _⟩
      · exact ⟨hI, hw⟩
theorem inv_play : ∀ (l : List StepC) {r : Nat} {P : PlS}, WfP (r + l.length) P → Live P.s → WfD P.s → Inv P → (∀ t ∈ l, t.v < 18446744073709551616) → Inv (playL l P) ∧ WfD (playL l P).s
  | [], _, _, _, _, hw, hI, _ => ⟨hI, hw⟩
  | t :: l, r, P, h, hl, hw, hI, hv => by
    obtain ⟨_, h2, h3⟩ := step_ok (r := r + l.length) h hl t.k t.q t.v
    obtain ⟨h4, h5⟩ := inv_step (r := r + l.length) h hl hw hI t.k t.q (hv t (by simp))
    exact inv_play l h2 h3 h5 h4 fun x hx => hv x (by simp [hx])

end Go.Vl
