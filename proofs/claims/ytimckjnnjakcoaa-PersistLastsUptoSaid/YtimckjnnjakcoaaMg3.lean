/- What the row rests on, part 3: a calculus of assertions, walks of functions over it, and plain laws. Conditions: none. -/
import Derived.Deep.QuietTactic
import Derived.BigQuiet
import Derived.WalkKit
import Derived.Test.YtimckjnnjakcoaaProg
import Derived.OrdersHeld
import Derived.Laws.BytesArg
import Derived.RangeFuncRecord
import Derived.TacticsIn
import Derived.Deep.Slices
import Derived.OpenShut
import Derived.ChangeArms
import Derived.SizedLaws
import Derived.ChangeSame
import Derived.Test.YtimckjnnjakcoaaRows
import Derived.Test.YtimckjnnjakcoaaMg2
set_option linter.unusedVariables false
set_option linter.unusedSimpArgs false
namespace Go.Vl
open Go Go.Proofs
/-! ### What all contents of the lines of a range have in common -/
theorem img_get {s : DevS} (hw : WfD s) {q r : Nat} (hq : q < s.ls.length) (hr : r < 64) : (imgS s)[q * 64 + r]? = (lb (seenL s.ls[q]))[r]? := by
  have h1 := img_at hw.line hq
  have h2 : (imgS s)[q * 64 + r]? = ((imgS s).drop (q * 64))[r]? := by rw [List.getElem?_drop]
  rw [h2]; unfold imgS; rw [h1, List.getElem?_append_left (by rw [seen8 (hw.line _ (List.getElem_mem hq))]; exact hr)]
/-- All contents of all lines have the bytes c from at_ on. -/
def Ag (at_ : Nat) (c : List Nat) (s : DevS) : Prop := ∀ x, x < c.length → ∀ l, s.ls[(at_ + x) / 64]? = some l → ∀ σ ∈ l.st, (lb σ)[(at_ + x) % 64]? = c[x]?
def AgI (at_ : Nat) (c : List Nat) (I : List Nat) : Prop := ∀ x, x < c.length → I[at_ + x]? = c[x]?
theorem ag_img {at_ : Nat} {c : List Nat} {s : DevS} (h : Ag at_ c s) (hw : WfD s) (hl : at_ + c.length ≤ s.ls.length * 64) : AgI at_ c (imgS s) := fun x hx => by
  have hq : (at_ + x) / 64 < s.ls.length := by omega
  have hg := img_get hw hq (r := (at_ + x) % 64) (by omega)
  rw [show (at_ + x) / 64 * 64 + (at_ + x) % 64 = at_ + x by omega] at hg
  rw [hg]
  exact h x hx _ (List.getElem?_eq_getElem hq) _ (seenL_mem (hw.line _ (List.getElem_mem hq)))
/-- Where a line has one content alone, it is what is seen. -/
theorem ag_one {at_ : Nat} {c : List Nat} {s : DevS} (hw : WfD s) (hl : at_ + c.length ≤ s.ls.length * 64) (hI : AgI at_ c (imgS s)) (h : ∀ x, x < c.length → ∀ l, s.ls[(at_ + x) / 64]? = some l → ∀ σ ∈ l.st, σ = seenL l) : Ag at_ c s := fun x hx l hl2 σ hσ => by
  have hq : (at_ + x) / 64 < s.ls.length := by omega
  have e : s.ls[(at_ + x) / 64] = l := by rw [List.getElem?_eq_getElem hq] at hl2; exact Option.some.inj hl2
  have hg := img_get hw hq (r := (at_ + x) % 64) (by omega)
  rw [show (at_ + x) / 64 * 64 + (at_ + x) % 64 = at_ + x by omega, hI x hx, e] at hg
  rw [h x hx l hl2 σ hσ, hg]
theorem ag_sub {at_ : Nat} {c : List Nat} {s s' : DevS} (h : Ag at_ c s) (hs : ∀ (q : Nat) (l' : LineS), s'.ls[q]? = some l' → ∃ l : LineS, s.ls[q]? = some l ∧ ∀ σ ∈ l'.st, σ ∈ l.st) : Ag at_ c s' := fun x hx l' hl' σ hσ => by
  obtain ⟨l, hl, hsub⟩ := hs _ _ hl'
  exact h x hx l hl σ (hsub σ hσ)
theorem layS_ls {q v : Nat} {s : DevS} (hi : q / 64 < s.ls.length) : (layS q v s).ls = s.ls.set (q / 64) (layL (q % 64 / 8) v s.ls[q / 64]) := by unfold layS; rw [onLine_at hi]
theorem ag_lay {at_ q v : Nat} {c : List Nat} {s : DevS} (h : Ag at_ c s) (hi : q / 64 < s.ls.length) (hl : at_ + c.length ≤ s.ls.length * 64) (hw : WfD (layS q v s)) (hI : AgI at_ c (imgS (layS q v s))) : Ag at_ c (layS q v s) := fun x hx l' hl' σ hσ => by
  rw [layS_ls hi] at hl'
  by_cases e : (at_ + x) / 64 = q / 64
  · have hq' : (at_ + x) / 64 < (layS q v s).ls.length := by rw [layS_len']; omega
    have hg := img_get hw hq' (r := (at_ + x) % 64) (by omega)
    rw [show (at_ + x) / 64 * 64 + (at_ + x) % 64 = at_ + x by omega, hI x hx] at hg
    rw [e, List.getElem?_set_self hi] at hl'
    have e2 := Option.some.inj hl'
    subst e2
    have hσ' : σ ∈ s.ls[q / 64].st ++ [(seenL s.ls[q / 64]).set (q % 64 / 8) v] := hσ
    rcases List.mem_append.1 hσ' with h1 | h1
    · exact h x hx _ (by rw [e]; exact List.getElem?_eq_getElem hi) σ h1
    · rw [List.mem_singleton] at h1
      rw [h1, hg]
      congr 2
      have e3 : (layS q v s).ls[(at_ + x) / 64] = layL (q % 64 / 8) v s.ls[q / 64] := by
        have : (layS q v s).ls[(at_ + x) / 64]? = some (layL (q % 64 / 8) v s.ls[q / 64]) := by rw [layS_ls hi, e, List.getElem?_set_self hi]
        rw [List.getElem?_eq_getElem hq'] at this; exact Option.some.inj this
      rw [e3]; unfold layL; rw [seenL_app]
  · rw [List.getElem?_set_ne (Ne.symm e)] at hl'
    exact h x hx _ hl' σ hσ
theorem ag_ops {at_ : Nat} {c : List Nat} {s : DevS} (o : Int) (h : Ag at_ c s) : Ag at_ c { s with ops := o } := h
theorem agI_spl {at_ p : Nat} {c b I : List Nat} (hI : AgI at_ c I) (hp : p + b.length ≤ I.length) (hd : ∀ x, x < c.length → at_ + x < p ∨ p + b.length ≤ at_ + x) : AgI at_ c (spl I p b) := fun x hx => by
  rw [spl_at hp, if_neg (by have := hd x hx; omega)]; exact hI x hx
/-- Bytes are stored while no loss of power is planned. -/
theorem storeF_go : ∀ (m : Nat) {p r : Nat} {b : List Nat} {s : DevS}, b.length = m → WfD s → Live s → (∀ x ∈ b, x < 256) → Room (r + m) s → p + m ≤ s.ls.length * 64 →
    (storeF b.length p b s).1 = 0 ∧ imgS (storeF b.length p b s).2 = spl (imgS s) p b ∧ Live (storeF b.length p b s).2 ∧ WfD (storeF b.length p b s).2 ∧ (storeF b.length p b s).2.ls.length = s.ls.length ∧ Room r (storeF b.length p b s).2 ∧
    ∀ at_ c, at_ + c.length ≤ s.ls.length * 64 → (∀ x, x < c.length → at_ + x < p ∨ p + m ≤ at_ + x) → Ag at_ c s → Ag at_ c (storeF b.length p b s).2 := by
  intro m
  induction m using Nat.strongRecOn with
  | _ m ih =>
    intro p r b s hm hw hL hb hroom hp
    by_cases h0 : b = []
    · subst h0
      have : m = 0 := by simpa using hm.symm
      subst this
      rw [storeF_nil]
      exact ⟨rfl, (spl_nil _ _).symm, hL, hw, rfl, fun l hl => by have := hroom l hl; omega, fun _ _ _ _ h => h⟩
    · have hpos : 0 < b.length := List.length_pos_iff.2 h0
      have hi : p / 64 < s.ls.length := by omega
      have hr1 : Room 1 s := fun l hl => by have := hroom l hl; omega
      have hlf := onLine_fields (layL ((p - p % 8) % 64 / 8) (nm (stW p b s))) ((p - p % 8) / 64) s
      have hLL : Live (layS (p - p % 8) (nm (stW p b s)) s) := ⟨by unfold layS; rw [hlf.2.2.2.1]; exact hL.off, by unfold layS; rw [hlf.2.1]; exact hL.arms⟩
      have hd := doneS_live hLL.arms
      have hwL := layS_wf (at_ := p - p % 8) hw hr1 (stW_nm (p := p) (s := s) hb)
      have himg := img_stW (p := p) hw hi hb hr1
      have hil := img_length hw.line
      rw [storeF_step h0, hd.2, if_neg (by decide), hd.1]
      have ht : (b.take (8 - p % 8)).length = min b.length (8 - p % 8) := by rw [List.length_take]; omega
      have hk : (b.drop (8 - p % 8)).length = m - min m (8 - p % 8) := by rw [List.length_drop]; omega
      have hlen : (layS (p - p % 8) (nm (stW p b s)) s).ls.length = s.ls.length := layS_len _ _ _
      have hroom2 : Room (r + (m - min m (8 - p % 8))) (layS (p - p % 8) (nm (stW p b s)) s) := fun l hl => by
        have := onLine_room (r := r + m - 1) (f := layL ((p - p % 8) % 64 / 8) (nm (stW p b s))) (i := (p - p % 8) / 64) (fun l hl => by have := hroom l hl; omega) (fun l => by simp [layL]) l hl
        omega
      obtain ⟨g1, g2, g3, g4, g5, g6, g7⟩ := ih (m - min m (8 - p % 8)) (by omega) (p := p + min b.length (8 - p % 8)) (r := r) (b := b.drop (8 - p % 8)) (s := { layS (p - p % 8) (nm (stW p b s)) s with ops := wr64 ((layS (p - p % 8) (nm (stW p b s)) s).ops + 1) })
        hk (wfD_ops hwL _) ⟨hLL.off, hLL.arms⟩ (fun x hx => hb x (List.mem_of_mem_drop hx)) hroom2 (by show _ ≤ (layS (p - p % 8) (nm (stW p b s)) s).ls.length * 64; rw [hlen]; omega)
      refine ⟨g1, ?_, g3, g4, by rw [g5]; exact hlen, g6, fun at_ c hc hdis hAg => ?_⟩
      · rw [g2]
        show spl (imgS (layS (p - p % 8) (nm (stW p b s)) s)) _ _ = _
        rw [himg, ← ht, spl_spl (by rw [ht, List.length_drop]; unfold imgS; omega), List.take_append_drop]
      · refine g7 at_ c (by show _ ≤ (layS (p - p % 8) (nm (stW p b s)) s).ls.length * 64; rw [hlen]; exact hc) (fun x hx => by have := hdis x hx; omega) (ag_ops _ (ag_lay hAg (by omega) hc hwL ?_))
        rw [himg]
        exact agI_spl (ag_img hAg hw hc) (by rw [ht]; unfold imgS; omega) (fun x hx => by have := hdis x hx; rw [ht]; omega)
/-! ### Lines are flushed -/
theorem img_seen {ls ls' : List LineS} (h : ls'.map seenL = ls.map seenL) : img ls' = img ls := by
  have e : ∀ l : List LineS, img l = (l.map seenL).flatMap lb := fun l => by unfold img; rw [List.flatMap_map]
  rw [e, e, h]
theorem seen_fence {l : LineS} (h : WfL l) : seenL (fenceL l) = seenL l := by
  unfold fenceL
  split
  · have h1 := h.hi
    have h2 := List.length_pos_iff.2 h.ne
    rw [seenL_eq h2, seenL_eq (by simp; omega)]
    simp only [List.getElem_drop, List.length_drop]
    congr 1; omega
  · rfl
theorem fence_mem {l : LineS} : ∀ σ ∈ (fenceL l).st, σ ∈ l.st := fun σ h => by
  unfold fenceL at h
  split at h
  · exact List.mem_of_mem_drop h
  · exact h
theorem flush_one {l : LineS} (h : WfL l) : ∀ σ ∈ (fenceL (flushL l)).st, σ = seenL l := fun σ hσ => by
  have h2 := List.length_pos_iff.2 h.ne
  unfold fenceL flushL at hσ
  rw [if_pos (by simp only []; omega)] at hσ
  simp only [show ((l.st.length : Int) - 1).toNat = l.st.length - 1 by omega] at hσ
  rw [List.drop_eq_getElem_cons (by omega), List.drop_of_length_le (by omega), List.mem_singleton] at hσ
  rw [hσ, seenL_eq h2]
/-- Lines from q on, k of them, flushed. -/
def flsh (k q : Nat) (ls : List LineS) : List LineS := ls.mapIdx fun i l => if q ≤ i ∧ i < q + k then flushL l else l
theorem flsh_len (k q : Nat) (ls : List LineS) : (flsh k q ls).length = ls.length := by simp [flsh]
theorem flsh_zero (q : Nat) (ls : List LineS) : flsh 0 q ls = ls := by
  apply List.ext_getElem?
  intro j
  simp only [flsh, List.getElem?_mapIdx]
  cases ls[j]? with
  | none => rfl
  | some l => simp only [Option.map_some]; rw [if_neg (by omega)]
theorem flsh_step {k q : Nat} {ls : List LineS} (h : q < ls.length) : flsh k (q + 1) (ls.set q (flushL ls[q])) = flsh (k + 1) q ls := by
  apply List.ext_getElem?
  intro j
  simp only [flsh, List.getElem?_mapIdx]
  by_cases e : q = j
  · subst e
    rw [List.getElem?_set_self h, List.getElem?_eq_getElem h]
    simp only [Option.map_some]; rw [if_neg (by omega), if_pos (by omega)]
  · rw [List.getElem?_set_ne e]
    cases ls[j]? with
    | none => rfl
    | some l =>
      simp only [Option.map_some]
      by_cases h2 : q + 1 ≤ j ∧ j < q + 1 + k
      · rw [if_pos h2, if_pos (by omega)]
      · rw [if_neg h2, if_neg (by omega)]
theorem flF_live : ∀ (k q : Nat) (s : DevS), Live s → q + k ≤ s.ls.length → ∃ o, flF k q s = (0, { fenceS { s with ls := flsh k q s.ls } with ops := o })
  | 0, q, s, hL, h => ⟨_, by rw [flF_zero, fe_live hL, flsh_zero]⟩
  | k + 1, q, s, hL, h => by
    have h1 := fl1_live hL (w := 8 * q) (by omega)
    rw [show 8 * (8 * q) = q * 64 by omega] at h1
    have hq : q < s.ls.length := by omega
    have hs : flushS (q * 64) s = { s with ls := s.ls.set q (flushL s.ls[q]) } := by
      unfold flushS; rw [show q * 64 / 64 = q by omega, onLine_at hq]
    obtain ⟨o, ho⟩ := flF_live k (q + 1) { flushS (q * 64) s with ops := wr64 (s.ops + 1) } ⟨by rw [hs]; exact hL.off, by rw [hs]; exact hL.arms⟩ (by rw [hs]; simp; omega)
    refine ⟨o, ?_⟩
    show (if _ then _ else _) = _
    rw [h1, if_neg (by simp), ho, hs]
    simp only [flsh_step hq]; rfl
theorem flsh_seen (k q : Nat) (ls : List LineS) : (flsh k q ls).map seenL = ls.map seenL := by
  apply List.ext_getElem?
  intro j
  simp only [flsh, List.getElem?_map, List.getElem?_mapIdx]
  cases ls[j]? with
  | none => rfl
  | some l => simp only [Option.map_some]; split <;> rfl
theorem flsh_get {k q j : Nat} {ls : List LineS} {l' : LineS} (h : (flsh k q ls)[j]? = some l') : ∃ l, ls[j]? = some l ∧ l' = if q ≤ j ∧ j < q + k then flushL l else l := by
  simp only [flsh, List.getElem?_mapIdx] at h
  cases e : ls[j]? with
  | none => rw [e] at h; cases h
  | some l => rw [e] at h; exact ⟨l, rfl, (Option.some.inj h).symm⟩
theorem flsh_wf {k q : Nat} {ls : List LineS} (h : ∀ l ∈ ls, WfL l) : ∀ l ∈ flsh k q ls, WfL l := fun l hl => by
  obtain ⟨j, hj, rfl⟩ := List.mem_iff_getElem.1 hl
  obtain ⟨l0, h1, h2⟩ := flsh_get (List.getElem?_eq_getElem hj)
  rw [h2]
  split
  · exact flushL_wf (h l0 (List.mem_of_getElem? h1))
  · exact h l0 (List.mem_of_getElem? h1)
theorem fence_get {ls : List LineS} {j : Nat} {l' : LineS} (h : (ls.map fenceL)[j]? = some l') : ∃ l, ls[j]? = some l ∧ l' = fenceL l := by
  rw [List.getElem?_map] at h
  cases e : ls[j]? with
  | none => rw [e] at h; cases h
  | some l => rw [e] at h; exact ⟨l, rfl, (Option.some.inj h).symm⟩
/-- What makes a range last. -/
theorem lastS_go {p m r : Nat} {s : DevS} (hL : Live s) (hw : WfD s) (h1 : 1 ≤ m) (hp : p + m ≤ s.ls.length * 64) (hr : Room r s) :
    ∃ s', lastS p m s = (0, s') ∧ imgS s' = imgS s ∧ Live s' ∧ WfD s' ∧ s'.ls.length = s.ls.length ∧ Room r s' ∧ (∀ at_ c, Ag at_ c s → Ag at_ c s') ∧ ∀ b, b.length = m → AgI p b (imgS s) → Ag p b s' := by
  obtain ⟨o, ho⟩ := flF_live ((p + m - 1) / 64 - p / 64 + 1) (p / 64) s hL (by omega)
  have hwf : ∀ l ∈ flsh ((p + m - 1) / 64 - p / 64 + 1) (p / 64) s.ls, WfL l := flsh_wf hw.line
  have hlen := flsh_len ((p + m - 1) / 64 - p / 64 + 1) (p / 64) s.ls
  have hseen : ((flsh ((p + m - 1) / 64 - p / 64 + 1) (p / 64) s.ls).map fenceL).map seenL = s.ls.map seenL := by
    rw [← flsh_seen ((p + m - 1) / 64 - p / 64 + 1) (p / 64) s.ls, List.map_map]
    exact List.map_congr_left fun l hl => seen_fence (hwf l hl)
  have himg : img ((flsh ((p + m - 1) / 64 - p / 64 + 1) (p / 64) s.ls).map fenceL) = img s.ls := img_seen hseen
  have hw' : WfD { fenceS { s with ls := flsh ((p + m - 1) / 64 - p / 64 + 1) (p / 64) s.ls } with ops := o } := by
    refine ⟨?_, ?_, ?_, hw.arms, hw.after, hw.keeps⟩
    · simp [fenceS, hlen]; exact hw.pos
    · simp [fenceS, hlen]; exact hw.top
    · intro l hl
      simp only [fenceS, List.mem_map] at hl
      obtain ⟨l0, h0, rfl⟩ := hl
      exact fenceL_wf (hwf l0 h0)
  have hsub : ∀ (q : Nat) (l' : LineS), ((flsh ((p + m - 1) / 64 - p / 64 + 1) (p / 64) s.ls).map fenceL)[q]? = some l' → ∃ l : LineS, s.ls[q]? = some l ∧ ∀ σ ∈ l'.st, σ ∈ l.st := fun q l' h => by
    obtain ⟨l1, h1, rfl⟩ := fence_get h
    obtain ⟨l, h2, rfl⟩ := flsh_get h1
    refine ⟨l, h2, fun σ hσ => ?_⟩
    have := fence_mem σ hσ
    split at this <;> exact this
  refine ⟨_, ho, himg, ⟨hL.off, hL.arms⟩, hw', by simp [fenceS, hlen], ?_, fun at_ c h => ag_sub h hsub, fun b hb hI => ?_⟩
  · intro l' hl'
    simp only [fenceS] at hl'
    obtain ⟨j, hj, rfl⟩ := List.mem_iff_getElem.1 hl'
    obtain ⟨l1, h1, e1⟩ := fence_get (List.getElem?_eq_getElem hj)
    obtain ⟨l, h2, e2⟩ := flsh_get h1
    have := hr l (List.mem_of_getElem? h2)
    rw [e1]
    have h3 : (fenceL l1).st.length ≤ l1.st.length := by unfold fenceL; split <;> simp
    have h4 : l1.st.length = l.st.length := by rw [e2]; split <;> rfl
    omega
  · refine ag_one hw' (by simp [fenceS, hlen]; omega) (by show AgI p b (img _); rw [show (fenceS { s with ls := flsh ((p + m - 1) / 64 - p / 64 + 1) (p / 64) s.ls }).ls = (flsh ((p + m - 1) / 64 - p / 64 + 1) (p / 64) s.ls).map fenceL from rfl, himg]; exact hI) fun x hx l' hl' σ hσ => ?_
    obtain ⟨l1, h1, rfl⟩ := fence_get (show ((flsh ((p + m - 1) / 64 - p / 64 + 1) (p / 64) s.ls).map fenceL)[(p + x) / 64]? = some l' from hl')
    obtain ⟨l, h2, e2⟩ := flsh_get h1
    rw [if_pos (by omega)] at e2
    subst e2
    have hwl := hw.line l (List.mem_of_getElem? h2)
    rw [flush_one hwl σ hσ, seen_fence (flushL_wf hwl)]; rfl
/-- The power goes, whatever lines keep. -/
theorem ag_goes {at_ : Nat} {c : List Nat} {s : DevS} (kp : List Int) (hw : WfD s) (h : Ag at_ c s) : Ag at_ c (goesS kp s) := ag_sub h fun q l' hl' => by
  simp only [goesS, goPart, List.getElem?_mapIdx] at hl'
  cases e : s.ls[q]? with
  | none => rw [e] at hl'; cases hl'
  | some l =>
    rw [e] at hl'
    simp only [Option.map_some, Option.some.injEq] at hl'
    refine ⟨l, rfl, fun σ hσ => ?_⟩
    subst hl'
    split at hσ
    · have hp : 0 < l.st.length := List.length_pos_iff.2 (hw.line l (List.mem_of_getElem? e)).ne
      have hk := kOf_lt (keep := kp) (i := q) hp
      simp only [goL, List.mem_singleton] at hσ
      rw [hσ]; simp [List.getD, hk]
    · exact hσ
end Go.Vl

set_option linter.unusedVariables false
set_option linter.unusedSimpArgs false
namespace Go.Vl
open Go Go.Proofs
theorem old_heap' {W w : World} {g : Gh} (h : sat g w (old W)) {k : Nat} (hk : k < W.heap.size) : w.heap[k]? = W.heap[k]? := by
  obtain ⟨x, rfl, hx⟩ := h.hp
  have := Array.getElem?_eq_getElem hk
  rw [this]; exact hx _ _ true (by simp [this])
theorem cell_old' {W : World} {b off : Nat} {v : Value} (h : W.cell? ⟨b, off, none⟩ = some v) : Cell (old W) b off v := fun g w hs => by
  have hb : b < W.heap.size := by
    rcases Nat.lt_or_ge b W.heap.size with h1 | h1
    · exact h1
    · exfalso
      have : W.heap[b]? = none := Array.getElem?_eq_none h1
      simp [World.cell?, this] at h
  have := old_heap' hs hb
  rw [← h]; simp only [World.cell?, this]
theorem rs_old {W : World} {a : Addr} {xs : List Value} (h : ∀ i v, xs[i]? = some v → W.cell? (a.add i) = some v) : Rs (old W) (some a) xs := by
  cases xs with
  | nil => exact rs_nil
  | cons x l =>
    obtain ⟨b, off, spot⟩ := a
    have h0 := h 0 x rfl
    have hspot : spot = none := by simpa [Addr.add] using World.cell?_spot h0
    subst hspot
    refine fun g w hs i v hv => ⟨b, off, rfl, ?_⟩
    have := h i v hv
    rw [WideShapes.add_plain] at this
    exact cell_old' this g w hs
/-- Whatever lies there as a value of type t, by the argument's own reading, r holds of. -/
def Rdb {α : Type} (P : Program) (W : World) (t : TypeId) (r : List Value → α → Prop) : Prop :=
  ∀ (H : Type) (enc : TypeId × Value → H) (spare : Nat → Bool) (held : Bool) (fuel : Nat) (cs : List Value) (d : DataW H) (pl : List MemPlace),
    DataW.trod enc P W 0 spare held fuel t cs = some (d, pl) → (∀ n ∈ d.weights P t, n ≤ reachBytes) → ∃ x, r cs x
theorem Rdb.mono {α β : Type} {P : Program} {W : World} {t : TypeId} {r : List Value → α → Prop} {q : List Value → β → Prop} (h : Rdb P W t r) (k : ∀ cs x, r cs x → ∃ y, q cs y) : Rdb P W t q :=
  fun H enc sp hd fu cs d pl h1 h2 => by obtain ⟨x, hx⟩ := h H enc sp hd fu cs d pl h1 h2; exact k cs x hx
def PInt (k : IntKind) (cs : List Value) (n : Int) : Prop := cs = [.int k n] ∧ (Lit.int k n).wf = true
def PBool (cs : List Value) (b : Bool) : Prop := cs = [.bool b]
/-- A slice: its elements' cells, and what each is. -/
def PSl {α : Type} (A : SP) (k b : Nat) (r : List Value → α → Prop) (cs : List Value) (xs : List α) : Prop :=
  ∃ (a : Option Addr) (cap : Nat) (Cs : List (List Value)), cs = [.slice a xs.length cap] ∧ xs.length ≤ cap ∧ xs.length * b ≤ reachBytes ∧ Cs.length = xs.length ∧ (∀ i (h : i < xs.length) (h' : i < Cs.length), Cs[i].length = k ∧ r Cs[i] xs[i]) ∧ Rs A a Cs.flatten
theorem flat_at {k : Nat} : ∀ {Cs : List (List Value)} (_ : ∀ c ∈ Cs, c.length = k) {i j : Nat} (_ : j < k) (hi : i < Cs.length), Cs.flatten[i * k + j]? = Cs[i][j]?
  | c :: Cs, h, 0, j, hj, _ => by
    rw [Nat.zero_mul, Nat.zero_add, List.flatten_cons, List.getElem?_append_left (by rw [h c (by simp)]; exact hj)]; rfl
  | c :: Cs, h, i + 1, j, hj, hi => by
    have hc := h c (by simp)
    rw [List.flatten_cons, List.getElem?_append_right (by rw [hc, Nat.add_mul]; omega), hc, show (i + 1) * k + j - k = i * k + j by rw [Nat.add_mul]; omega]
    exact flat_at (fun x hx => h x (List.mem_cons_of_mem _ hx)) hj (by simpa using hi)
theorem flat_length {k : Nat} : ∀ {Cs : List (List Value)} (_ : ∀ c ∈ Cs, c.length = k), Cs.flatten.length = Cs.length * k
  | [], _ => by simp
  | c :: Cs, h => by
    rw [List.flatten_cons, List.length_append, h c (by simp), flat_length (fun x hx => h x (List.mem_cons_of_mem _ hx)), List.length_cons, Nat.add_mul]; omega
theorem flat1 {α : Type} {r : List Value → α → Prop} {f : α → Value} : ∀ {Cs : List (List Value)} {xs : List α} (_ : Cs.length = xs.length) (_ : ∀ i (h : i < xs.length) (h' : i < Cs.length), Cs[i] = [f xs[i]]), Cs.flatten = xs.map f
  | [], [], _, _ => rfl
  | c :: Cs, x :: xs, hl, h => by
    have h0 := h 0 (by simp) (by simp)
    simp only [List.getElem_cons_zero] at h0
    rw [List.flatten_cons, h0, flat1 (r := r) (f := f) (Cs := Cs) (xs := xs) (by simpa using hl) (fun i hi hi' => h (i + 1) (by simpa using hi) (by simpa using hi'))]; rfl
/-- Bytes. -/
def PBys (A : SP) (cs : List Value) (xs : List Nat) : Prop := ∃ a cap, cs = [.slice a xs.length cap] ∧ xs.length ≤ cap ∧ xs.length ≤ 140737488351232 ∧ Rs A a (bys xs) ∧ ∀ x ∈ xs, x < 256
def PInts (A : SP) (cs : List Value) (xs : List Int) : Prop := ∃ a cap, cs = [.slice a xs.length cap] ∧ xs.length ≤ cap ∧ xs.length ≤ 17592186043904 ∧ Rs A a (ints xs) ∧ ∀ x ∈ xs, -9223372036854775808 ≤ x ∧ x ≤ 9223372036854775807
theorem i64_wf {x : Int} (h : (Lit.int .i64 x).wf = true) : -9223372036854775808 ≤ x ∧ x ≤ 9223372036854775807 := Go.bounds_i64 h
end Go.Vl

set_option linter.unusedVariables false
set_option linter.unusedSimpArgs false
namespace Go.Vl
open Go Go.Proofs
abbrev ub {H : Type} (d : DataW H) : Nat := Go.Proofs.Ytimckjnnjakcoaa.Rows.uptoBulk d
abbrev ubs {H : Type} (l : List (DataW H)) : Nat := Go.Proofs.Ytimckjnnjakcoaa.Rows.uptoBulkAll l
theorem ub_one {H : Type} (d : DataW H) : 1 ≤ ub d := by
  unfold ub
  cases d with
  | lit l => cases l <;> simp [Go.Proofs.Ytimckjnnjakcoaa.Rows.uptoBulk]
  | _ => simp [Go.Proofs.Ytimckjnnjakcoaa.Rows.uptoBulk]
theorem ubs_nil {H : Type} : ubs ([] : List (DataW H)) = 0 := by simp [ubs, Go.Proofs.Ytimckjnnjakcoaa.Rows.uptoBulkAll]
theorem ubs_cons {H : Type} (d : DataW H) (l : List (DataW H)) : ubs (d :: l) = ub d + ubs l := by simp [ubs, ub, Go.Proofs.Ytimckjnnjakcoaa.Rows.uptoBulkAll]
theorem ub_slice {H : Type} (l s : List (DataW H)) : ub (.slice l s) = ubs l + ubs s + 1 := by simp [ubs, ub, Go.Proofs.Ytimckjnnjakcoaa.Rows.uptoBulk]
theorem ub_agg {H : Type} (l : List (DataW H)) : ub (.agg l) = ubs l + 1 := by simp [ubs, ub, Go.Proofs.Ytimckjnnjakcoaa.Rows.uptoBulk]
theorem ub_bound {H : Type} {l : List (DataW H)} (h : Go.Proofs.Ytimckjnnjakcoaa.Rows.uptoSmall H l = true) : ubs l ≤ 1048576 := by
  unfold Go.Proofs.Ytimckjnnjakcoaa.Rows.uptoSmall at h; exact of_decide_eq_true h
/-- Whatever lies there as a value of type t, by the argument's own reading, r holds of, and of how much. -/
def Rdu {α : Type} (P : Program) (W : World) (t : TypeId) (r : List Value → α → Prop) (sz : α → Nat) : Prop :=
  ∀ (H : Type) (enc : TypeId × Value → H) (spare : Nat → Bool) (held : Bool) (fuel : Nat) (cs : List Value) (d : DataW H) (pl : List MemPlace),
    DataW.trod enc P W 0 spare held fuel t cs = some (d, pl) → ∃ x, r cs x ∧ sz x ≤ ub d
theorem Rdu.mono {α β : Type} {P : Program} {W : World} {t : TypeId} {r : List Value → α → Prop} {s : α → Nat} {q : List Value → β → Prop} {z : β → Nat} (h : Rdu P W t r s) (k : ∀ cs x, r cs x → ∃ y, q cs y ∧ z y ≤ s x) : Rdu P W t q z :=
  fun H enc sp hd fu cs d pl h1 => by
    obtain ⟨x, hx, hs⟩ := h H enc sp hd fu cs d pl h1
    obtain ⟨y, hy, hz⟩ := k cs x hx
    exact ⟨y, hy, by omega⟩
theorem rdu_int {P : Program} {W : World} {t : TypeId} {k : IntKind} (ht : P.underlying t = some (.int k)) : Rdu P W t (PInt k) (fun _ => 1) := fun H enc sp hd fu cs d pl h => by
  obtain ⟨n, e, _, hw⟩ := DataW.trod_int ht h
  exact ⟨n, ⟨e, hw⟩, ub_one d⟩
/-- A slice: its elements' cells, and what each is. -/
def PSu {α : Type} (A : SP) (k : Nat) (r : List Value → α → Prop) (cs : List Value) (xs : List α) : Prop :=
  ∃ (a : Option Addr) (cap : Nat) (Cs : List (List Value)), cs = [.slice a xs.length cap] ∧ xs.length ≤ cap ∧ Cs.length = xs.length ∧ (∀ i (h : i < xs.length) (h' : i < Cs.length), Cs[i].length = k ∧ r Cs[i] xs[i]) ∧ Rs A a Cs.flatten
def szL {α : Type} (sz : α → Nat) (xs : List α) : Nat := (xs.map sz).sum + 1
theorem sum_ubs {α H : Type} {sz : α → Nat} {f : Nat → α} {D : Nat → DataW H} : ∀ (n : Nat), (∀ i, i < n → sz (f i) ≤ ub (D i)) → (((List.range n).map f).map sz).sum ≤ ubs ((List.range n).map D)
  | 0, _ => by simp
  | n + 1, h => by
    have key : ∀ (l : List Nat), (∀ i ∈ l, sz (f i) ≤ ub (D i)) → ((l.map f).map sz).sum ≤ ubs (l.map D) := by
      intro l
      induction l with
      | nil => intro _; simp
      | cons x l ih =>
        intro h
        simp only [List.map_cons, List.sum_cons, ubs_cons]
        have := h x (by simp)
        have := ih fun i hi => h i (by simp [hi])
        omega
    exact key _ fun i hi => h i (by simpa using hi)
theorem rdu_slice {α : Type} {P : Program} {W : World} {t e : TypeId} {k : Nat} {r : List Value → α → Prop} {sz : α → Nat} (ht : P.underlying t = some (.slice e)) (hk : P.cellsOf e = k) (hk0 : 0 < k) (hr : Rdu P W e r sz) : Rdu P W t (PSu (old W) k r) (szL sz) := fun H enc sp hd fu cs d pl h => by
  rcases Deep.open_slice ht h with ⟨rfl, hx⟩ | ⟨a, len, cap, m, n, D, Pl, rfl, _, hl, _, hm, hx, hel⟩
  · exact ⟨[], ⟨none, 0, [], rfl, Nat.le_refl _, rfl, fun i h => by simp at h, rs_nil⟩, ub_one d⟩
  · have hlm : len ≤ m := by rw [hm]; split <;> omega
    simp only [Prod.mk.injEq] at hx
    obtain ⟨rfl, _⟩ := hx
    have hex : ∀ i, i < len → ∃ p : List Value × α, p.1.length = k ∧ r p.1 p.2 ∧ sz p.2 ≤ ub (D i) ∧ ∀ j v, p.1[j]? = some v → W.cell? (a.add (i * k + j)) = some v := fun i hi => by
      obtain ⟨cs', h1, h2⟩ := hel i (by omega)
      rw [hk] at h1
      obtain ⟨_, hlen, h3⟩ := World.cells?_some h1
      obtain ⟨x, hx, hs⟩ := hr H enc sp hd n cs' (D i) (Pl i) h2
      refine ⟨(cs', x), hlen, hx, hs, fun j v hv => ?_⟩
      have hj : j < k := by have h9 : j < cs'.length := lt_at hv; omega
      have := h3 j hj
      rw [Deep.add_add] at this
      rw [this, hv]
    rw [ub_slice]
    rcases Nat.eq_zero_or_pos len with h0 | h0
    · subst h0
      exact ⟨[], ⟨some a, cap, [], rfl, Nat.zero_le _, rfl, fun i h => by simp at h, rs_nil⟩, by simp [szL]⟩
    · obtain ⟨p0, _⟩ := hex 0 h0
      haveI : Inhabited (List Value × α) := ⟨p0⟩
      obtain ⟨f, hf⟩ := Deep.choose_lt hex
      refine ⟨(List.range len).map fun i => (f i).2, ⟨some a, cap, (List.range len).map fun i => (f i).1, by simp, by simpa using hl, by simp, fun i h h' => ?_, rs_old fun i v hv => ?_⟩, ?_⟩
      · simp only [List.length_map, List.length_range] at h
        simp only [List.getElem_map, List.getElem_range]
        exact ⟨(hf i h).1, (hf i h).2.1⟩
      · have hCk : ∀ c ∈ (List.range len).map fun i => (f i).1, c.length = k := fun c hc => by
          obtain ⟨i, hi, rfl⟩ := List.mem_map.1 hc
          exact (hf i (List.mem_range.1 hi)).1
        have hi := lt_at hv
        rw [flat_length hCk, List.length_map, List.length_range] at hi
        have hq : i / k < len := Nat.div_lt_of_lt_mul (by rw [Nat.mul_comm]; exact hi)
        have hm2 : i % k < k := Nat.mod_lt _ hk0
        have e : i = i / k * k + i % k := (Nat.div_add_mod' i k).symm
        rw [e, flat_at hCk hm2 (by simpa using hq)] at hv
        simp only [List.getElem_map, List.getElem_range] at hv
        rw [e]
        exact (hf (i / k) hq).2.2.2 _ v hv
      · have := sum_ubs (sz := sz) (f := fun i => (f i).2) (D := D) len fun i hi => (hf i hi).2.2.1
        unfold szL; omega
/-- The fields of a struct, one by one. -/
theorem rdu_fields {P : Program} {W : World} {t : TypeId} {fs : Array Field} (ht : P.underlying t = some (.struct fs)) {H : Type} {enc : TypeId × Value → H} {sp : Nat → Bool} {hd : Bool} {fu : Nat} {cs : List Value} {d : DataW H} {pl : List MemPlace}
    (h : DataW.trod enc P W 0 sp hd fu t cs = some (d, pl)) : cs.length = P.cellsOf t ∧ ∃ Ds : List (DataW H), Ds.length = fs.size ∧ ubs Ds + 1 = ub d ∧
    ∀ (j : Nat) (f : Field), fs[j]? = some f → ∀ {α : Type} {r : List Value → α → Prop} {sz : α → Nat}, Rdu P W f.type r sz → ∃ x D, Ds[j]? = some D ∧ r ((cs.drop f.offset).take (P.cellsOf f.type)) x ∧ sz x ≤ ub D := by
  obtain ⟨xs, n, _, hx, hl, hlen, hf⟩ := DataW.trod_struct ht h
  simp only [Prod.mk.injEq] at hx
  obtain ⟨rfl, _⟩ := hx
  refine ⟨hl, xs.map (·.1), by simpa using hlen, (ub_agg _).symm, fun j f hj α r sz hr => ?_⟩
  have hj' : j < xs.length := by
    have h1 : j < fs.size := (Array.getElem?_eq_some_iff.1 hj).1
    have h2 : xs.length = fs.size := by simpa using hlen
    omega
  have := hf j f hj
  rw [List.getElem?_eq_getElem hj'] at this
  obtain ⟨x, h1, h2⟩ := hr H enc sp hd n _ xs[j].1 xs[j].2 this
  exact ⟨x, xs[j].1, by simp [hj'], h1, h2⟩
/-- Bytes. -/
def PByU (A : SP) (cs : List Value) (xs : List Nat) : Prop := ∃ a cap, cs = [.slice a xs.length cap] ∧ xs.length ≤ cap ∧ Rs A a (bys xs) ∧ ∀ x ∈ xs, x < 256
def PInU (A : SP) (cs : List Value) (xs : List Int) : Prop := ∃ a cap, cs = [.slice a xs.length cap] ∧ xs.length ≤ cap ∧ Rs A a (ints xs) ∧ ∀ x ∈ xs, -9223372036854775808 ≤ x ∧ x ≤ 9223372036854775807
theorem sum_ones {α : Type} (xs : List α) : (xs.map fun _ => 1).sum = xs.length := by
  induction xs with
  | nil => rfl
  | cons x xs ih => simp only [List.map_cons, List.sum_cons, ih, List.length_cons]; omega
theorem rdu_bys {P : Program} {W : World} {t e : TypeId} (ht : P.underlying t = some (.slice e)) (he : P.underlying e = some (.int .u8)) (hk : P.cellsOf e = 1) : Rdu P W t (PByU (old W)) (fun xs => xs.length + 1) :=
  (rdu_slice ht hk (by decide) (rdu_int he)).mono fun cs zs ⟨a, cap, Cs, e1, hc, hl, hx, hr⟩ => by
    have hz : ∀ z ∈ zs, 0 ≤ z ∧ z ≤ 255 := fun z hz => by
      obtain ⟨i, hi, rfl⟩ := List.mem_iff_getElem.1 hz
      exact Go.bounds_u8 (hx i hi (by omega)).2.2
    have e2 : Cs.flatten = bys (zs.map Int.toNat) := by
      rw [flat1 (r := PInt .u8) (f := fun z : Int => .int .u8 z) hl (fun i h h' => (hx i h h').2.1), bys, List.map_map]
      refine List.map_congr_left fun z hzm => ?_
      have := hz z hzm
      simp only [Function.comp, b8]; congr 1; omega
    refine ⟨zs.map Int.toNat, ⟨a, cap, by simpa using e1, by simpa using hc, by rw [← e2]; exact hr, fun x hx => ?_⟩, by simp only [List.length_map, szL, sum_ones]; omega⟩
    obtain ⟨z, hzm, rfl⟩ := List.mem_map.1 hx
    have := hz z hzm; omega
theorem rdu_ints {P : Program} {W : World} {t e : TypeId} (ht : P.underlying t = some (.slice e)) (he : P.underlying e = some (.int .i64)) (hk : P.cellsOf e = 1) : Rdu P W t (PInU (old W)) (fun xs => xs.length + 1) :=
  (rdu_slice ht hk (by decide) (rdu_int he)).mono fun cs zs ⟨a, cap, Cs, e1, hc, hl, hx, hr⟩ => by
    refine ⟨zs, ⟨a, cap, e1, hc, ?_, fun z hz => ?_⟩, by simp only [szL, sum_ones]; omega⟩
    · rw [show ints zs = Cs.flatten from (flat1 (r := PInt .i64) (f := fun z : Int => .int .i64 z) hl (fun i h h' => (hx i h h').2.1)).symm]; exact hr
    · obtain ⟨i, hi, rfl⟩ := List.mem_iff_getElem.1 hz
      exact i64_wf (hx i hi (by omega)).2.2
theorem sum_le {α : Type} {f : α → Nat} {xs : List α} {x : α} (h : x ∈ xs) : f x ≤ (xs.map f).sum := by
  induction xs with
  | nil => cases h
  | cons y ys ih =>
    simp only [List.map_cons, List.sum_cons]
    rcases List.mem_cons.1 h with rfl | h
    · omega
    · have := ih h; omega
theorem len_le_sum {α : Type} {f : α → Nat} {xs : List α} (h : ∀ x ∈ xs, 1 ≤ f x) : xs.length ≤ (xs.map f).sum := by
  induction xs with
  | nil => simp
  | cons y ys ih =>
    simp only [List.map_cons, List.sum_cons, List.length_cons]
    have := h y (by simp)
    have := ih fun x hx => h x (by simp [hx])
    omega
end Go.Vl

set_option linter.unusedVariables false
set_option linter.unusedSimpArgs false
namespace Go.Vl
open Go Go.Proofs
/-- v is no device: nil, or one that no call has made. -/
def NoD (A : SP) (v : Value) : Prop := v = .pointer none ∨ ∃ b, v = .pointer (some ⟨b, 0, none⟩) ∧ Cell A b 0 (.slice none 0 0)
theorem NoD.left {A X : SP} {v : Value} (h : NoD A v) : NoD (A * X) v := h.imp id fun ⟨b, e, hc⟩ => ⟨b, e, hc.left⟩
end Go.Vl

set_option linter.unusedVariables false
set_option linter.unusedSimpArgs false
namespace Go.Vl
open Go Go.Proofs
theorem img_lt {s : DevS} : ∀ x ∈ imgS s, x < 256 := fun x hx => by
  unfold imgS img at hx
  obtain ⟨l, _, h⟩ := List.mem_flatMap.1 hx
  unfold lb at h
  obtain ⟨v, _, h⟩ := List.mem_flatMap.1 h
  exact le_bytes _ _ _ h
theorem imgS_len {s : DevS} (hw : WfD s) : (imgS s).length = s.ls.length * 64 := img_length hw.line
theorem img_sub {s : DevS} {p n : Nat} : ∀ x ∈ ((imgS s).drop p).take n, x < 256 := fun x hx => img_lt x (List.mem_of_mem_drop (List.mem_of_mem_take hx))
theorem nm_take0 (xs : List Nat) (n : Nat) : nm (((xs.take n).drop 0).take n) = nm (xs.take n) := by rw [List.drop_zero, List.take_take, Nat.min_self]
attribute [local irreducible] Sl pt ro Dev imgS
theorem Put16_c {A : SP} {a : Option Addr} {c m : Nat} {xs : List Nat} {v : Nat} (hr : Rs A a (bys xs) := by repeat (first | assumption | with_reducible exact rs_sl | with_reducible exact rs_pt0 | exact rs_none | apply Rs.left)) (hm : xs.length = m := by first | assumption | rfl) (hv : v < 65536 := by omega) (hl : m ≤ 1099511627776 := by omega) :
    Fn Try.prog 142 #[.slice a m c, .int .u16 (v : Nat)] A (fun r B => ∃ a' c', r = .slice a' (m + 2) c' ∧ m + 2 ≤ c' ∧ B = A * Sl 1 (.slice a' (m + 2) c') (m + 2) (bys (xs ++ le 2 v))) := by
  subst hm; exact fn_rs hr fun hr => fn_sl ((Put16_f A a c xs v hr hv hl).mono fun _ _ ⟨u, e, h⟩ => by rw [e]; exact h)
theorem Take16_c {A : SP} {a : Option Addr} {c m : Nat} {xs : List Nat} {p : Nat} (hr : Rs A a (bys xs) := by repeat (first | assumption | with_reducible exact rs_sl | with_reducible exact rs_pt0 | exact rs_none | apply Rs.left)) (hb : ∀ x ∈ xs, x < 256 := by assumption) (hm : xs.length = m := by first | assumption | rfl) (hp : p + 2 ≤ m := by omega) (hl : m ≤ 1099511627776 := by omega) :
    Fn Try.prog 143 #[.slice a m c, .int .i64 (p : Nat)] A (fun r B => r = .tuple #[.int .u16 ((nm ((xs.drop p).take 2) : Nat) : Int), .int .i64 0] ∧ A = B) := by
  subst hm; exact fn_rs hr fun hr => Take16_f A a c xs p hb hr hp hl
set_option maxRecDepth 20000 in
set_option maxHeartbeats 1000000 in
theorem FL16_ok {A R : SP} {C : SP → SP} {d : Nat} {s : DevS} (hc : Ct A (Dev d s) R C := by repeat (first | with_reducible exact ct_here | apply ct_left)) {p : Nat} (hoff : s.off = false) (hpm : p + 2 ≤ s.ls.length * 64) :
    Fn Try.prog 118 #[.agg [Value.int .i64 (p : Nat)].toArray, .pointer (some ⟨d, 0, none⟩)] (A) (fun r B => r = .tuple #[.int .u16 ((nm (((imgS s).drop p).take 2) : Nat) : Int), .int .i64 0] ∧ A = B) := by
  refine fn_enterW (args := [.agg [Value.int .i64 (p : Nat)].toArray, .pointer (some ⟨d, 0, none⟩)]) Try.func118 rfl Try.ntmps118 (by simp) ?_
  refine tc_have (fun _ _ h => ct_wf2 hc h) fun hw => ?_
  obtain ⟨rfl, hC⟩ := hc
  have htop := hw.top
  have hil : (imgS s).length = s.ls.length * 64 := imgS_len hw
  have hI : (((imgS s).drop p).take 2).length = 2 := by rw [List.length_take, List.length_drop]; omega
  have hIb := img_sub (s := s) (p := p) (n := 2)
  refine tc_seq ?_
  refine tc_reg ?_
  refine tl_x rfl (o_box rfl rfl) ?_
  rintro _ _ ⟨b2, rfl, rfl⟩
  refine tl_v rfl (o_assign (by conv => lhs; whnf)) ?_
  refine tl_v rfl (o_assign (by conv => lhs; whnf)) ?_
  refine tl_nil ?_
  refine q_then_n ?_
  refine tc_seq ?_
  refine tc_reg ?_
  refine tl_v rfl (o_assign (by conv => lhs; whnf)) ?_
  refine tl_nil ?_
  refine q_then_n ?_
  refine tc_seq ?_
  refine tc_regh mo dr_refl ?_
  show TH _ _ _ _ _ 12 #[false, false, false, false, false, false, false, false, false, false, false, false] _ _
  refine th_take (i := 0) (listed' := #[true, false, false, false, false, false, false, false, false, false, false, false]) rfl (by kernel_rfl) (by kernel_rfl) (by kernel_rfl) rfl rfl (o_move (by conv => lhs; whnf)) ?_
  refine th_take (i := 1) (listed' := #[true, true, false, false, false, false, false, false, false, false, false, false]) rfl (by kernel_rfl) (by kernel_rfl) (by kernel_rfl) rfl rfl (o_fieldAddr (o := 0) Try.underlying169 rfl rfl sz3 rfl) ?_
  refine th_take (i := 2) (listed' := #[true, true, true, false, false, false, false, false, false, false, false, false]) rfl (by kernel_rfl) (by kernel_rfl) (by kernel_rfl) rfl rfl (by first | exact o_load p3 rfl (by repeat (first | with_reducible exact has_here | with_reducible exact has_pt | apply has_left)) rfl | exact o_loadC p3 rfl (by assumption)) ?_
  refine th_take (i := 3) (listed' := #[true, true, true, true, false, false, false, false, false, false, false, false]) rfl (by kernel_rfl) (by kernel_rfl) (by kernel_rfl) rfl rfl (o_move (by conv => lhs; whnf)) ?_
  refine th_one (i := 4) (by kernel_rfl) ?_
  refine oh_c (i := 4) (listed' := #[true, true, true, true, true, false, false, false, false, false, false, false]) rfl rfl rfl (o_call bd142 rfl (Put16_c (xs := []) (v := 0))) ?_
  rintro _ _ ⟨a14, c14, rfl, hc14, rfl⟩
  refine ⟨by repeat (first | with_reducible exact dr_refl | apply dr_keep | apply dr_drop), ?_⟩
  refine th_take (i := 5) (listed' := #[true, true, true, true, true, true, false, false, false, false, false, false]) rfl (by kernel_rfl) (by kernel_rfl) (by kernel_rfl) rfl rfl (o_len Try.underlying28 rfl) ?_
  refine th_one (i := 6) (by kernel_rfl) ?_
  refine oh_c (i := 6) (listed' := #[true, true, true, true, true, true, true, false, false, false, false, false]) rfl rfl rfl (o_call bd27 rfl (Load_c (s := s) (p := p) (m := 2))) ?_
  rintro _ _ ⟨a16, c16, rfl, hc16, rfl⟩
  refine ⟨by repeat (first | with_reducible exact dr_refl | apply dr_keep | apply dr_drop), ?_⟩
  refine th_take (i := 7) (listed' := #[true, true, true, true, true, true, true, true, false, false, false, false]) rfl (by kernel_rfl) (by kernel_rfl) (by kernel_rfl) rfl rfl (o_move (by conv => lhs; whnf)) ?_
  refine th_take (i := 8) (listed' := #[true, true, true, true, true, true, true, true, true, false, false, false]) rfl (by kernel_rfl) (by kernel_rfl) (by kernel_rfl) rfl rfl (o_extract rfl rfl) ?_
  refine th_take (i := 9) (listed' := #[true, true, true, true, true, true, true, true, true, true, false, false]) rfl (by kernel_rfl) (by kernel_rfl) (by kernel_rfl) rfl rfl (o_extract rfl rfl) ?_
  refine th_take (i := 10) (listed' := #[true, true, true, true, true, true, true, true, true, true, true, false]) rfl (by kernel_rfl) (by kernel_rfl) (by kernel_rfl) rfl rfl (o_assign (by conv => lhs; whnf)) ?_
  refine th_take (i := 11) (listed' := #[true, true, true, true, true, true, true, true, true, true, true, true]) rfl (by kernel_rfl) (by kernel_rfl) (by kernel_rfl) rfl rfl (o_assign (by conv => lhs; whnf)) ?_
  refine th_done (by kernel_rfl) ?_
  refine q_then_n ?_
  refine tc_seq ?_
  refine tc_seq ?_
  refine tc_reg ?_
  refine tl_v rfl (o_move (by conv => lhs; whnf)) ?_
  refine tl_v rfl (o_nei rfl rfl) ?_
  refine tl_nil ?_
  refine q_then_n ?_
  refine tc_cond rfl (fun h => ?_) (fun h => ?_)
  · exfalso; simp at h
  · try simp only [decide_eq_true_eq, decide_eq_false_iff_not, Bool.not_eq_true', Bool.not_eq_false', Option.isNone_some, Option.isNone_none, Bool.not_true, Bool.not_false] at h
    refine tc_skip ?_
    refine q_then_n ?_
    refine tc_seq ?_
    refine tc_reg ?_
    refine tl_v rfl (o_move (by conv => lhs; whnf)) ?_
    refine tl_c rfl (o_call bd143 rfl (Take16_c (xs := ((imgS s).drop p).take 2) (p := 0) (hm := hI))) ?_
    rintro _ _ ⟨rfl, rfl⟩
    refine tl_v rfl (o_extract rfl rfl) ?_
    refine tl_v rfl (o_extract rfl rfl) ?_
    refine tl_v rfl (o_assign (by conv => lhs; whnf)) ?_
    refine tl_v rfl (o_assign (by conv => lhs; whnf)) ?_
    refine tl_nil ?_
    refine q_then_n ?_
    refine tc_ret ?_
    exact ⟨.tuple #[.int .u16 ((nm (((imgS s).drop p).take 2) : Nat) : Int), .int .i64 0], R * Dev d s, res2 rfl (congrArg (fun z : Nat => Value.int .u16 (z : Int)) (nm_take0 _ _)) rfl, Dr.sat (by repeat (first | with_reducible exact dr_refl | apply dr_keep | apply dr_drop)), rfl, rfl⟩
set_option maxRecDepth 20000 in
set_option maxHeartbeats 1000000 in
theorem FL16_no {A R : SP} {C : SP → SP} {d : Nat} {s : DevS} (hc : Ct A (Dev d s) R C := by repeat (first | with_reducible exact ct_here | apply ct_left)) {p : Int} (hp : -9223372036854775808 ≤ p ∧ p ≤ 9223372036854775807 := by omega) (hno : rdy s.ls.length s.off p 2 ≠ 0) :
    Fn Try.prog 118 #[.agg [Value.int .i64 p].toArray, .pointer (some ⟨d, 0, none⟩)] (A) (fun r B => r = .tuple #[.int .u16 0, .int .i64 (rdy s.ls.length s.off p 2)] ∧ A = B) := by
  refine fn_enterW (args := [.agg [Value.int .i64 p].toArray, .pointer (some ⟨d, 0, none⟩)]) Try.func118 rfl Try.ntmps118 (by simp) ?_
  obtain ⟨rfl, hC⟩ := hc
  refine tc_seq ?_
  refine tc_reg ?_
  refine tl_x rfl (o_box rfl rfl) ?_
  rintro _ _ ⟨b2, rfl, rfl⟩
  refine tl_v rfl (o_assign (by conv => lhs; whnf)) ?_
  refine tl_v rfl (o_assign (by conv => lhs; whnf)) ?_
  refine tl_nil ?_
  refine q_then_n ?_
  refine tc_seq ?_
  refine tc_reg ?_
  refine tl_v rfl (o_assign (by conv => lhs; whnf)) ?_
  refine tl_nil ?_
  refine q_then_n ?_
  refine tc_seq ?_
  refine tc_regh mo dr_refl ?_
  show TH _ _ _ _ _ 12 #[false, false, false, false, false, false, false, false, false, false, false, false] _ _
  refine th_take (i := 0) (listed' := #[true, false, false, false, false, false, false, false, false, false, false, false]) rfl (by kernel_rfl) (by kernel_rfl) (by kernel_rfl) rfl rfl (o_move (by conv => lhs; whnf)) ?_
  refine th_take (i := 1) (listed' := #[true, true, false, false, false, false, false, false, false, false, false, false]) rfl (by kernel_rfl) (by kernel_rfl) (by kernel_rfl) rfl rfl (o_fieldAddr (o := 0) Try.underlying169 rfl rfl sz3 rfl) ?_
  refine th_take (i := 2) (listed' := #[true, true, true, false, false, false, false, false, false, false, false, false]) rfl (by kernel_rfl) (by kernel_rfl) (by kernel_rfl) rfl rfl (by first | exact o_load p3 rfl (by repeat (first | with_reducible exact has_here | with_reducible exact has_pt | apply has_left)) rfl | exact o_loadC p3 rfl (by assumption)) ?_
  refine th_take (i := 3) (listed' := #[true, true, true, true, false, false, false, false, false, false, false, false]) rfl (by kernel_rfl) (by kernel_rfl) (by kernel_rfl) rfl rfl (o_move (by conv => lhs; whnf)) ?_
  refine th_one (i := 4) (by kernel_rfl) ?_
  refine oh_c (i := 4) (listed' := #[true, true, true, true, true, false, false, false, false, false, false, false]) rfl rfl rfl (o_call bd142 rfl (Put16_c (xs := []) (v := 0))) ?_
  rintro _ _ ⟨a14, c14, rfl, hc14, rfl⟩
  refine ⟨by repeat (first | with_reducible exact dr_refl | apply dr_keep | apply dr_drop), ?_⟩
  refine th_take (i := 5) (listed' := #[true, true, true, true, true, true, false, false, false, false, false, false]) rfl (by kernel_rfl) (by kernel_rfl) (by kernel_rfl) rfl rfl (o_len Try.underlying28 rfl) ?_
  refine th_one (i := 6) (by kernel_rfl) ?_
  refine oh_c (i := 6) (listed' := #[true, true, true, true, true, true, true, false, false, false, false, false]) rfl rfl rfl (o_call bd27 rfl (LoadNo_c (s := s) (p := p) (m := 2))) ?_
  rintro _ _ ⟨rfl, rfl⟩
  refine ⟨by repeat (first | with_reducible exact dr_refl | apply dr_keep | apply dr_drop), ?_⟩
  refine th_take (i := 7) (listed' := #[true, true, true, true, true, true, true, true, false, false, false, false]) rfl (by kernel_rfl) (by kernel_rfl) (by kernel_rfl) rfl rfl (o_move (by conv => lhs; whnf)) ?_
  refine th_take (i := 8) (listed' := #[true, true, true, true, true, true, true, true, true, false, false, false]) rfl (by kernel_rfl) (by kernel_rfl) (by kernel_rfl) rfl rfl (o_extract rfl rfl) ?_
  refine th_take (i := 9) (listed' := #[true, true, true, true, true, true, true, true, true, true, false, false]) rfl (by kernel_rfl) (by kernel_rfl) (by kernel_rfl) rfl rfl (o_extract rfl rfl) ?_
  refine th_take (i := 10) (listed' := #[true, true, true, true, true, true, true, true, true, true, true, false]) rfl (by kernel_rfl) (by kernel_rfl) (by kernel_rfl) rfl rfl (o_assign (by conv => lhs; whnf)) ?_
  refine th_take (i := 11) (listed' := #[true, true, true, true, true, true, true, true, true, true, true, true]) rfl (by kernel_rfl) (by kernel_rfl) (by kernel_rfl) rfl rfl (o_assign (by conv => lhs; whnf)) ?_
  refine th_done (by kernel_rfl) ?_
  refine q_then_n ?_
  refine tc_seq ?_
  refine tc_seq ?_
  refine tc_reg ?_
  refine tl_v rfl (o_move (by conv => lhs; whnf)) ?_
  refine tl_v rfl (o_nei rfl rfl) ?_
  refine tl_nil ?_
  refine q_then_n ?_
  refine tc_cond rfl (fun h => ?_) (fun h => ?_)
  · try simp only [decide_eq_true_eq, decide_eq_false_iff_not, Bool.not_eq_true', Bool.not_eq_false', Option.isNone_some, Option.isNone_none, Bool.not_true, Bool.not_false] at h
    refine tc_seq ?_
    refine tc_reg ?_
    refine tl_v rfl (o_move (by conv => lhs; whnf)) ?_
    refine tl_v rfl (o_assign (by conv => lhs; whnf)) ?_
    refine tl_v rfl (o_assign (by conv => lhs; whnf)) ?_
    refine tl_nil ?_
    refine q_then_n ?_
    refine tc_ret ?_
    refine q_then_r ?_
    exact ⟨.tuple #[.int .u16 0, .int .i64 (rdy s.ls.length s.off p 2)], R * Dev d s, res2 rfl rfl rfl, Dr.sat (by repeat (first | with_reducible exact dr_refl | apply dr_keep | apply dr_drop)), rfl, rfl⟩
  · exfalso; exact hno (by simpa using h)
theorem FL16_c {A R : SP} {C : SP → SP} {d : Nat} {s : DevS} (hc : Ct A (Dev d s) R C := by repeat (first | with_reducible exact ct_here | apply ct_left)) {p : Int} (hp : -9223372036854775808 ≤ p ∧ p ≤ 9223372036854775807 := by omega) : Fn Try.prog 118 #[.agg [Value.int .i64 p].toArray, .pointer (some ⟨d, 0, none⟩)] A (fun r B => r = .tuple #[.int .u16 (((loadP p 2 s).1 : Nat) : Int), .int .i64 (loadP p 2 s).2] ∧ A = B) := by
  by_cases h : rdy s.ls.length s.off p 2 = 0
  · have h0 := rdy0 h
    obtain ⟨q, rfl⟩ := Int.eq_ofNat_of_zero_le h0.2.1
    have e : loadP (q : Int) 2 s = (nm (((imgS s).drop q).take 2), 0) := by unfold loadP; rw [if_neg (by simpa using h)]; rfl
    rw [e]; exact FL16_ok hc h0.1 (by omega)
  · have e : loadP p 2 s = (0, rdy s.ls.length s.off p 2) := by unfold loadP; rw [if_pos (by simpa using h)]; rfl
    rw [e]; exact FL16_no hc hp (by simpa using h)
set_option maxRecDepth 20000 in
set_option maxHeartbeats 1000000 in
theorem FL64_ok {A R : SP} {C : SP → SP} {d : Nat} {s : DevS} (hc : Ct A (Dev d s) R C := by repeat (first | with_reducible exact ct_here | apply ct_left)) {p : Nat} (hoff : s.off = false) (hpm : p + 8 ≤ s.ls.length * 64) :
    Fn Try.prog 62 #[.agg [Value.int .i64 (p : Nat)].toArray, .pointer (some ⟨d, 0, none⟩)] (A) (fun r B => r = .tuple #[.int .u64 ((nm (((imgS s).drop p).take 8) : Nat) : Int), .int .i64 0] ∧ A = B) := by
  refine fn_enterW (args := [.agg [Value.int .i64 (p : Nat)].toArray, .pointer (some ⟨d, 0, none⟩)]) Try.func62 rfl Try.ntmps62 (by simp) ?_
  refine tc_have (fun _ _ h => ct_wf2 hc h) fun hw => ?_
  obtain ⟨rfl, hC⟩ := hc
  have htop := hw.top
  have hil : (imgS s).length = s.ls.length * 64 := imgS_len hw
  have hI : (((imgS s).drop p).take 8).length = 8 := by rw [List.length_take, List.length_drop]; omega
  have hIb := img_sub (s := s) (p := p) (n := 8)
  refine tc_seq ?_
  refine tc_reg ?_
  refine tl_x rfl (o_box rfl rfl) ?_
  rintro _ _ ⟨b2, rfl, rfl⟩
  refine tl_v rfl (o_assign (by conv => lhs; whnf)) ?_
  refine tl_v rfl (o_assign (by conv => lhs; whnf)) ?_
  refine tl_nil ?_
  refine q_then_n ?_
  refine tc_seq ?_
  refine tc_reg ?_
  refine tl_v rfl (o_assign (by conv => lhs; whnf)) ?_
  refine tl_nil ?_
  refine q_then_n ?_
  refine tc_seq ?_
  refine tc_regh mo dr_refl ?_
  show TH _ _ _ _ _ 12 #[false, false, false, false, false, false, false, false, false, false, false, false] _ _
  refine th_take (i := 0) (listed' := #[true, false, false, false, false, false, false, false, false, false, false, false]) rfl (by kernel_rfl) (by kernel_rfl) (by kernel_rfl) rfl rfl (o_move (by conv => lhs; whnf)) ?_
  refine th_take (i := 1) (listed' := #[true, true, false, false, false, false, false, false, false, false, false, false]) rfl (by kernel_rfl) (by kernel_rfl) (by kernel_rfl) rfl rfl (o_fieldAddr (o := 0) Try.underlying117 rfl rfl sz3 rfl) ?_
  refine th_take (i := 2) (listed' := #[true, true, true, false, false, false, false, false, false, false, false, false]) rfl (by kernel_rfl) (by kernel_rfl) (by kernel_rfl) rfl rfl (by first | exact o_load p3 rfl (by repeat (first | with_reducible exact has_here | with_reducible exact has_pt | apply has_left)) rfl | exact o_loadC p3 rfl (by assumption)) ?_
  refine th_take (i := 3) (listed' := #[true, true, true, true, false, false, false, false, false, false, false, false]) rfl (by kernel_rfl) (by kernel_rfl) (by kernel_rfl) rfl rfl (o_move (by conv => lhs; whnf)) ?_
  refine th_one (i := 4) (by kernel_rfl) ?_
  refine oh_c (i := 4) (listed' := #[true, true, true, true, true, false, false, false, false, false, false, false]) rfl rfl rfl (o_call bd99 rfl (Put64_c (xs := []) (v := 0))) ?_
  rintro _ _ ⟨a14, c14, rfl, hc14, rfl⟩
  refine ⟨by repeat (first | with_reducible exact dr_refl | apply dr_keep | apply dr_drop), ?_⟩
  refine th_take (i := 5) (listed' := #[true, true, true, true, true, true, false, false, false, false, false, false]) rfl (by kernel_rfl) (by kernel_rfl) (by kernel_rfl) rfl rfl (o_len Try.underlying28 rfl) ?_
  refine th_one (i := 6) (by kernel_rfl) ?_
  refine oh_c (i := 6) (listed' := #[true, true, true, true, true, true, true, false, false, false, false, false]) rfl rfl rfl (o_call bd27 rfl (Load_c (s := s) (p := p) (m := 8))) ?_
  rintro _ _ ⟨a16, c16, rfl, hc16, rfl⟩
  refine ⟨by repeat (first | with_reducible exact dr_refl | apply dr_keep | apply dr_drop), ?_⟩
  refine th_take (i := 7) (listed' := #[true, true, true, true, true, true, true, true, false, false, false, false]) rfl (by kernel_rfl) (by kernel_rfl) (by kernel_rfl) rfl rfl (o_move (by conv => lhs; whnf)) ?_
  refine th_take (i := 8) (listed' := #[true, true, true, true, true, true, true, true, true, false, false, false]) rfl (by kernel_rfl) (by kernel_rfl) (by kernel_rfl) rfl rfl (o_extract rfl rfl) ?_
  refine th_take (i := 9) (listed' := #[true, true, true, true, true, true, true, true, true, true, false, false]) rfl (by kernel_rfl) (by kernel_rfl) (by kernel_rfl) rfl rfl (o_extract rfl rfl) ?_
  refine th_take (i := 10) (listed' := #[true, true, true, true, true, true, true, true, true, true, true, false]) rfl (by kernel_rfl) (by kernel_rfl) (by kernel_rfl) rfl rfl (o_assign (by conv => lhs; whnf)) ?_
  refine th_take (i := 11) (listed' := #[true, true, true, true, true, true, true, true, true, true, true, true]) rfl (by kernel_rfl) (by kernel_rfl) (by kernel_rfl) rfl rfl (o_assign (by conv => lhs; whnf)) ?_
  refine th_done (by kernel_rfl) ?_
  refine q_then_n ?_
  refine tc_seq ?_
  refine tc_seq ?_
  refine tc_reg ?_
  refine tl_v rfl (o_move (by conv => lhs; whnf)) ?_
  refine tl_v rfl (o_nei rfl rfl) ?_
  refine tl_nil ?_
  refine q_then_n ?_
  refine tc_cond rfl (fun h => ?_) (fun h => ?_)
  · exfalso; simp at h
  · try simp only [decide_eq_true_eq, decide_eq_false_iff_not, Bool.not_eq_true', Bool.not_eq_false', Option.isNone_some, Option.isNone_none, Bool.not_true, Bool.not_false] at h
    refine tc_skip ?_
    refine q_then_n ?_
    refine tc_seq ?_
    refine tc_reg ?_
    refine tl_v rfl (o_move (by conv => lhs; whnf)) ?_
    refine tl_c rfl (o_call bd98 rfl (Take64_c (xs := ((imgS s).drop p).take 8) (p := 0) (hm := hI))) ?_
    rintro _ _ ⟨rfl, rfl⟩
    refine tl_v rfl (o_extract rfl rfl) ?_
    refine tl_v rfl (o_extract rfl rfl) ?_
    refine tl_v rfl (o_assign (by conv => lhs; whnf)) ?_
    refine tl_v rfl (o_assign (by conv => lhs; whnf)) ?_
    refine tl_nil ?_
    refine q_then_n ?_
    refine tc_ret ?_
    exact ⟨.tuple #[.int .u64 ((nm (((imgS s).drop p).take 8) : Nat) : Int), .int .i64 0], R * Dev d s, res2 rfl (congrArg (fun z : Nat => Value.int .u64 (z : Int)) (nm_take0 _ _)) rfl, Dr.sat (by repeat (first | with_reducible exact dr_refl | apply dr_keep | apply dr_drop)), rfl, rfl⟩
set_option maxRecDepth 20000 in
set_option maxHeartbeats 1000000 in
theorem FL64_no {A R : SP} {C : SP → SP} {d : Nat} {s : DevS} (hc : Ct A (Dev d s) R C := by repeat (first | with_reducible exact ct_here | apply ct_left)) {p : Int} (hp : -9223372036854775808 ≤ p ∧ p ≤ 9223372036854775807 := by omega) (hno : rdy s.ls.length s.off p 8 ≠ 0) :
    Fn Try.prog 62 #[.agg [Value.int .i64 p].toArray, .pointer (some ⟨d, 0, none⟩)] (A) (fun r B => r = .tuple #[.int .u64 0, .int .i64 (rdy s.ls.length s.off p 8)] ∧ A = B) := by
  refine fn_enterW (args := [.agg [Value.int .i64 p].toArray, .pointer (some ⟨d, 0, none⟩)]) Try.func62 rfl Try.ntmps62 (by simp) ?_
  obtain ⟨rfl, hC⟩ := hc
  refine tc_seq ?_
  refine tc_reg ?_
  refine tl_x rfl (o_box rfl rfl) ?_
  rintro _ _ ⟨b2, rfl, rfl⟩
  refine tl_v rfl (o_assign (by conv => lhs; whnf)) ?_
  refine tl_v rfl (o_assign (by conv => lhs; whnf)) ?_
  refine tl_nil ?_
  refine q_then_n ?_
  refine tc_seq ?_
  refine tc_reg ?_
  refine tl_v rfl (o_assign (by conv => lhs; whnf)) ?_
  refine tl_nil ?_
  refine q_then_n ?_
  refine tc_seq ?_
  refine tc_regh mo dr_refl ?_
  show TH _ _ _ _ _ 12 #[false, false, false, false, false, false, false, false, false, false, false, false] _ _
  refine th_take (i := 0) (listed' := #[true, false, false, false, false, false, false, false, false, false, false, false]) rfl (by kernel_rfl) (by kernel_rfl) (by kernel_rfl) rfl rfl (o_move (by conv => lhs; whnf)) ?_
  refine th_take (i := 1) (listed' := #[true, true, false, false, false, false, false, false, false, false, false, false]) rfl (by kernel_rfl) (by kernel_rfl) (by kernel_rfl) rfl rfl (o_fieldAddr (o := 0) Try.underlying117 rfl rfl sz3 rfl) ?_
  refine th_take (i := 2) (listed' := #[true, true, true, false, false, false, false, false, false, false, false, false]) rfl (by kernel_rfl) (by kernel_rfl) (by kernel_rfl) rfl rfl (by first | exact o_load p3 rfl (by repeat (first | with_reducible exact has_here | with_reducible exact has_pt | apply has_left)) rfl | exact o_loadC p3 rfl (by assumption)) ?_
  refine th_take (i := 3) (listed' := #[true, true, true, true, false, false, false, false, false, false, false, false]) rfl (by kernel_rfl) (by kernel_rfl) (by kernel_rfl) rfl rfl (o_move (by conv => lhs; whnf)) ?_
  refine th_one (i := 4) (by kernel_rfl) ?_
  refine oh_c (i := 4) (listed' := #[true, true, true, true, true, false, false, false, false, false, false, false]) rfl rfl rfl (o_call bd99 rfl (Put64_c (xs := []) (v := 0))) ?_
  rintro _ _ ⟨a14, c14, rfl, hc14, rfl⟩
  refine ⟨by repeat (first | with_reducible exact dr_refl | apply dr_keep | apply dr_drop), ?_⟩
  refine th_take (i := 5) (listed' := #[true, true, true, true, true, true, false, false, false, false, false, false]) rfl (by kernel_rfl) (by kernel_rfl) (by kernel_rfl) rfl rfl (o_len Try.underlying28 rfl) ?_
  refine th_one (i := 6) (by kernel_rfl) ?_
  refine oh_c (i := 6) (listed' := #[true, true, true, true, true, true, true, false, false, false, false, false]) rfl rfl rfl (o_call bd27 rfl (LoadNo_c (s := s) (p := p) (m := 8))) ?_
  rintro _ _ ⟨rfl, rfl⟩
  refine ⟨by repeat (first | with_reducible exact dr_refl | apply dr_keep | apply dr_drop), ?_⟩
  refine th_take (i := 7) (listed' := #[true, true, true, true, true, true, true, true, false, false, false, false]) rfl (by kernel_rfl) (by kernel_rfl) (by kernel_rfl) rfl rfl (o_move (by conv => lhs; whnf)) ?_
  refine th_take (i := 8) (listed' := #[true, true, true, true, true, true, true, true, true, false, false, false]) rfl (by kernel_rfl) (by kernel_rfl) (by kernel_rfl) rfl rfl (o_extract rfl rfl) ?_
  refine th_take (i := 9) (listed' := #[true, true, true, true, true, true, true, true, true, true, false, false]) rfl (by kernel_rfl) (by kernel_rfl) (by kernel_rfl) rfl rfl (o_extract rfl rfl) ?_
  refine th_take (i := 10) (listed' := #[true, true, true, true, true, true, true, true, true, true, true, false]) rfl (by kernel_rfl) (by kernel_rfl) (by kernel_rfl) rfl rfl (o_assign (by conv => lhs; whnf)) ?_
  refine th_take (i := 11) (listed' := #[true, true, true, true, true, true, true, true, true, true, true, true]) rfl (by kernel_rfl) (by kernel_rfl) (by kernel_rfl) rfl rfl (o_assign (by conv => lhs; whnf)) ?_
  refine th_done (by kernel_rfl) ?_
  refine q_then_n ?_
  refine tc_seq ?_
  refine tc_seq ?_
  refine tc_reg ?_
  refine tl_v rfl (o_move (by conv => lhs; whnf)) ?_
  refine tl_v rfl (o_nei rfl rfl) ?_
  refine tl_nil ?_
  refine q_then_n ?_
  refine tc_cond rfl (fun h => ?_) (fun h => ?_)
  · try simp only [decide_eq_true_eq, decide_eq_false_iff_not, Bool.not_eq_true', Bool.not_eq_false', Option.isNone_some, Option.isNone_none, Bool.not_true, Bool.not_false] at h
    refine tc_seq ?_
    refine tc_reg ?_
    refine tl_v rfl (o_move (by conv => lhs; whnf)) ?_
    refine tl_v rfl (o_assign (by conv => lhs; whnf)) ?_
    refine tl_v rfl (o_assign (by conv => lhs; whnf)) ?_
    refine tl_nil ?_
    refine q_then_n ?_
    refine tc_ret ?_
    refine q_then_r ?_
    exact ⟨.tuple #[.int .u64 0, .int .i64 (rdy s.ls.length s.off p 8)], R * Dev d s, res2 rfl rfl rfl, Dr.sat (by repeat (first | with_reducible exact dr_refl | apply dr_keep | apply dr_drop)), rfl, rfl⟩
  · exfalso; exact hno (by simpa using h)
theorem FL64_c {A R : SP} {C : SP → SP} {d : Nat} {s : DevS} (hc : Ct A (Dev d s) R C := by repeat (first | with_reducible exact ct_here | apply ct_left)) {p : Int} (hp : -9223372036854775808 ≤ p ∧ p ≤ 9223372036854775807 := by omega) : Fn Try.prog 62 #[.agg [Value.int .i64 p].toArray, .pointer (some ⟨d, 0, none⟩)] A (fun r B => r = .tuple #[.int .u64 (((loadP p 8 s).1 : Nat) : Int), .int .i64 (loadP p 8 s).2] ∧ A = B) := by
  by_cases h : rdy s.ls.length s.off p 8 = 0
  · have h0 := rdy0 h
    obtain ⟨q, rfl⟩ := Int.eq_ofNat_of_zero_le h0.2.1
    have e : loadP (q : Int) 8 s = (nm (((imgS s).drop q).take 8), 0) := by unfold loadP; rw [if_neg (by simpa using h)]; rfl
    rw [e]; exact FL64_ok hc h0.1 (by omega)
  · have e : loadP p 8 s = (0, rdy s.ls.length s.off p 8) := by unfold loadP; rw [if_pos (by simpa using h)]; rfl
    rw [e]; exact FL64_no hc hp (by simpa using h)
set_option maxRecDepth 20000 in
set_option maxHeartbeats 1000000 in
theorem Word_c {A R : SP} {C : SP → SP} {d : Nat} {s : DevS} (hc : Ct A (Dev d s) R C := by repeat (first | with_reducible exact ct_here | apply ct_left)) {p : Int} (hp : -9223372036854775808 ≤ p ∧ p ≤ 9223372036854775807 := by omega) :
    Fn Try.prog 57 #[.pointer (some ⟨d, 0, none⟩), .int .i64 p] (A) (fun r B => r = .tuple #[.int .u64 (((wordP p s).1 : Nat) : Int), .int .i64 (wordP p s).2] ∧ A = B) := by
  refine fn_enterW (args := [.pointer (some ⟨d, 0, none⟩), .int .i64 p]) Try.func57 rfl Try.ntmps57 (by simp) ?_
  refine tc_seq ?_
  refine tc_reg ?_
  refine tl_v rfl (o_assign (by conv => lhs; whnf)) ?_
  refine tl_v rfl (o_assign (by conv => lhs; whnf)) ?_
  refine tl_nil ?_
  refine q_then_n ?_
  refine tc_seq ?_
  refine tc_seq ?_
  refine tc_reg ?_
  refine tl_v rfl (o_move (by conv => lhs; whnf)) ?_
  refine tl_c rfl (o_call bd119 rfl (alive_c hc)) ?_
  rintro _ _ ⟨rfl, rfl⟩
  refine tl_v rfl (o_assign (by conv => lhs; whnf)) ?_
  refine tl_nil ?_
  refine q_then_n ?_
  refine tc_seq ?_
  refine tc_reg ?_
  refine tl_v rfl (o_move (by conv => lhs; whnf)) ?_
  refine tl_v rfl (o_nei rfl rfl) ?_
  refine tl_nil ?_
  refine q_then_n ?_
  refine tc_cond rfl (fun h => ?_) (fun h => ?_)
  · try simp only [decide_eq_true_eq, decide_eq_false_iff_not, Bool.not_eq_true', Bool.not_eq_false', Option.isNone_some, Option.isNone_none, Bool.not_true, Bool.not_false] at h
    refine tc_seq ?_
    refine tc_reg ?_
    refine tl_v rfl (o_move (by conv => lhs; whnf)) ?_
    refine tl_v rfl (o_assign (by conv => lhs; whnf)) ?_
    refine tl_v rfl (o_assign (by conv => lhs; whnf)) ?_
    refine tl_nil ?_
    refine q_then_n ?_
    refine tc_ret ?_
    refine q_then_r ?_
    have ho := stE_off h
    have e : wordP p s = (0, 5) := by unfold wordP; rw [if_pos ho]
    have e2 : stE s = 5 := by unfold stE; rw [if_pos ho]
    rw [e]
    exact ⟨.tuple #[.int .u64 0, .int .i64 5], A, res2 rfl rfl (congrArg (Value.int .i64) e2), fun _ _ h => h, rfl, rfl⟩
  · have ho : s.off = false := stE_on (by simpa using h)
    refine tc_skip ?_
    refine q_then_n ?_
    refine tc_seq ?_
    refine tc_seq ?_
    refine tc_reg ?_
    refine tl_v rfl (o_move (by conv => lhs; whnf)) ?_
    refine tl_v rfl (o_rem rfl rfl (by decide)) ?_
    refine tl_v rfl (o_nei rfl rfl) ?_
    refine tl_nil ?_
    refine q_then_n ?_
    refine tc_cond rfl (fun h => ?_) (fun h => ?_)
    · try simp only [decide_eq_true_eq, decide_eq_false_iff_not, Bool.not_eq_true', Bool.not_eq_false', Option.isNone_some, Option.isNone_none, Bool.not_true, Bool.not_false] at h
      refine tc_seq ?_
      refine tc_reg ?_
      refine tl_v rfl (o_assign (by conv => lhs; whnf)) ?_
      refine tl_v rfl (o_assign (by conv => lhs; whnf)) ?_
      refine tl_nil ?_
      refine q_then_n ?_
      refine tc_ret ?_
      refine q_then_r ?_
      have e : wordP p s = (0, 6) := by unfold wordP; rw [if_neg (by rw [ho]; decide), if_pos (fun e => h (by rw [Int.tmod_eq_zero_of_dvd (Int.dvd_of_emod_eq_zero e)]))]
      rw [e]
      exact ⟨.tuple #[.int .u64 0, .int .i64 6], A, res2 rfl rfl rfl, fun _ _ h => h, rfl, rfl⟩
    · try simp only [decide_eq_true_eq, decide_eq_false_iff_not, Bool.not_eq_true', Bool.not_eq_false', Option.isNone_some, Option.isNone_none, Bool.not_true, Bool.not_false] at h
      refine tc_skip ?_
      refine q_then_n ?_
      refine tc_seq ?_
      refine tc_reg ?_
      refine tl_v rfl (o_move (by conv => lhs; whnf)) ?_
      refine tl_v rfl (o_bS (l := [Value.int .i64 p]) (pv_cons (by conv => lhs; whnf) pv_nil) Try.underlying117 z117 (pl117 Try.underlying117) rfl) ?_
      refine tl_v rfl (o_move (by conv => lhs; whnf)) ?_
      refine tl_c rfl (o_call bd62 rfl (FL64_c hc (p := p))) ?_
      rintro _ _ ⟨rfl, rfl⟩
      refine tl_v rfl (o_extract rfl rfl) ?_
      refine tl_v rfl (o_extract rfl rfl) ?_
      refine tl_v rfl (o_assign (by conv => lhs; whnf)) ?_
      refine tl_v rfl (o_assign (by conv => lhs; whnf)) ?_
      refine tl_nil ?_
      refine q_then_n ?_
      refine tc_ret ?_
      have e : wordP p s = loadP p 8 s := by unfold wordP; rw [if_neg (by rw [ho]; decide), if_neg (fun e => e (Int.emod_eq_zero_of_dvd (Int.dvd_of_tmod_eq_zero (by simpa using h))))]
      rw [e]
      exact ⟨_, A, res2 rfl rfl rfl, Dr.sat (by repeat (first | with_reducible exact dr_refl | apply dr_keep | apply dr_drop)), rfl, rfl⟩
end Go.Vl

set_option linter.unusedVariables false
set_option linter.unusedSimpArgs false
namespace Go.Vl
open Go Go.Proofs
theorem Bytes_k {A R : SP} {C : SP → SP} {d : Nat} {s s2 : DevS} {e : Int} (hc : Ct A (Dev d s) R C := by repeat (first | with_reducible exact ct_here | apply ct_left)) {a : Option Addr} {c m : Nat} {p : Int} {xs : List Nat} (hr : Rs R a (bys xs) := by repeat (first | assumption | with_reducible exact rs_sl | with_reducible exact rs_pt0 | exact rs_none | apply Rs.left)) (hm : xs.length = m := by first | assumption | rfl) (hmc : m ≤ c := by first | assumption | omega) (hb : ∀ x ∈ xs, x < 256 := by first | assumption | decide) (hml : m ≤ 140737488351232 := by omega) (hp : -9223372036854775808 ≤ p ∧ p ≤ 9223372036854775807 := by omega) (hroom : rdy s.ls.length s.off p m = 0 → Room m s := by assumption) (he : bytesP p xs s = (e, s2)) : Fn Try.prog 56 #[.pointer (some ⟨d, 0, none⟩), .int .i64 p, .slice a m c] A (fun r B => r = .int .i64 e ∧ B = C (Dev d s2)) := (Bytes_c hc hr hm hmc hb hml hp hroom).mono fun r B ⟨e2, s3, h1, h2, h3⟩ => by
  rw [he] at h1; cases h1; exact ⟨h2, h3⟩
theorem Publish_k {A R : SP} {C : SP → SP} {d : Nat} {s s2 : DevS} {e : Int} (hc : Ct A (Dev d s) R C := by repeat (first | with_reducible exact ct_here | apply ct_left)) {v : Nat} {p : Int} (hp : -9223372036854775808 ≤ p ∧ p ≤ 9223372036854775807 := by omega) (hv : v < 18446744073709551616 := by omega) (hroom : Room 1 s := by assumption) (he : pubP p v s = (e, s2)) : Fn Try.prog 61 #[.pointer (some ⟨d, 0, none⟩), .int .i64 p, .int .u64 (v : Nat)] A (fun r B => r = .int .i64 e ∧ B = C (Dev d s2)) := (Publish_c hc hp hv hroom).mono fun r B ⟨e2, s3, h1, h2, h3⟩ => by
  rw [he] at h1; cases h1; exact ⟨h2, h3⟩
theorem Crash_k {A R : SP} {C : SP → SP} {d : Nat} {s s2 : DevS} {e : Int} (hc : Ct A (Dev d s) R C := by repeat (first | with_reducible exact ct_here | apply ct_left)) {a : Option Addr} {c m : Nat} {keep : List Int} (hr : Rs R a (ints keep) := by repeat (first | assumption | with_reducible exact rs_sl | with_reducible exact rs_pt0 | exact rs_none | apply Rs.left)) (hk : ∀ k ∈ keep, k ≤ 9223372036854775807 := by first | assumption | simp) (hm : keep.length = m := by first | assumption | rfl) (hkl : m ≤ 17592186044416 := by omega) (he : crS keep s = (e, s2)) : Fn Try.prog 28 #[.pointer (some ⟨d, 0, none⟩), .slice a m c] A (fun r B => r = .int .i64 e ∧ B = C (Dev d s2)) := (Crash_c hc hr hk hm hkl).mono fun r B ⟨e2, s3, h1, h2, h3⟩ => by
  rw [he] at h1; cases h1; exact ⟨h2, h3⟩
theorem Word_k {A R : SP} {C : SP → SP} {d : Nat} {s : DevS} {e : Int} (hc : Ct A (Dev d s) R C := by repeat (first | with_reducible exact ct_here | apply ct_left)) {p : Int} {v : Nat} (hp : -9223372036854775808 ≤ p ∧ p ≤ 9223372036854775807 := by omega) (he : wordP p s = (v, e)) : Fn Try.prog 57 #[.pointer (some ⟨d, 0, none⟩), .int .i64 p] A (fun r B => r = .tuple #[.int .u64 (v : Nat), .int .i64 e] ∧ A = B) := by
  have := Word_c hc hp; rw [he] at this; exact this
theorem FL16_k {A R : SP} {C : SP → SP} {d : Nat} {s : DevS} {e : Int} (hc : Ct A (Dev d s) R C := by repeat (first | with_reducible exact ct_here | apply ct_left)) {p : Int} {v : Nat} (hp : -9223372036854775808 ≤ p ∧ p ≤ 9223372036854775807 := by omega) (he : loadP p 2 s = (v, e)) : Fn Try.prog 118 #[.agg [Value.int .i64 p].toArray, .pointer (some ⟨d, 0, none⟩)] A (fun r B => r = .tuple #[.int .u16 (v : Nat), .int .i64 e] ∧ A = B) := by
  have := FL16_c hc (p := p) hp; rw [he] at this; exact this
def wk1 : DevS := (bytesP 60 [1, 1, 1, 1, 1, 1, 1, 1] (newS 2)).2
def wk2 : DevS := (pubP 8 258 wk1).2
def wk3 : DevS := (crS [] wk2).2
def wk4 : DevS := { wk3 with off := false }
theorem wk1_e : bytesP 60 [1, 1, 1, 1, 1, 1, 1, 1] (newS 2) = (0, wk1) := Prod.ext (by decide +kernel) rfl
theorem wk2_e : pubP 8 258 wk1 = (0, wk2) := Prod.ext (by decide +kernel) rfl
theorem wk3_e : crS [] wk2 = (0, wk3) := Prod.ext (by decide +kernel) rfl
theorem wk_w : wordP 8 wk4 = (258, 0) := by decide +kernel
theorem wk_f : loadP 9 2 wk4 = (1, 0) := by decide +kernel
theorem wk1_o : wk1.ops = 5 := by decide +kernel
theorem wk4_o : wk4.ops = 8 := by decide +kernel
theorem wk3_o : wk3.off = true := by decide +kernel
attribute [local irreducible] Sl pt ro Dev imgS
set_option maxRecDepth 20000 in
set_option maxHeartbeats 1000000 in
theorem works9_c {A : SP} :
    Fn Try.prog 53 #[] (A) (fun r B => r = .bool true ∧ A = B) := by
  refine fn_enterW (args := []) Try.func53 rfl Try.ntmps53 (by simp) ?_
  refine tc_seq ?_
  refine tc_reg ?_
  refine tl_v rfl (o_assign (by conv => lhs; whnf)) ?_
  refine tl_nil ?_
  refine q_then_n ?_
  refine tc_seq ?_
  refine tc_reg ?_
  refine tl_c rfl (o_call bd51 rfl (New_c (n := 2))) ?_
  rintro _ _ ⟨d8, rfl, rfl⟩
  refine tl_v rfl (o_move (by conv => lhs; whnf)) ?_
  refine tl_v rfl (o_extract rfl rfl) ?_
  refine tl_v rfl (o_extract rfl rfl) ?_
  refine tl_v rfl (o_assign (by conv => lhs; whnf)) ?_
  refine tl_v rfl (o_assign (by conv => lhs; whnf)) ?_
  refine tl_nil ?_
  refine q_then_n ?_
  refine tc_seq ?_
  refine tc_seq ?_
  refine tc_reg ?_
  refine tl_v rfl (o_move (by conv => lhs; whnf)) ?_
  refine tl_v rfl (o_nei rfl rfl) ?_
  refine tl_v rfl (o_move (by conv => lhs; whnf)) ?_
  refine tl_bool (d := 13) rfl (fun h => ?_) (fun h => ?_)
  · (exfalso; first | (revert h; simp; done) | (simp at h; done) | (revert h; simp; omega) | (simp at h; omega) | omega)
  · try simp only [decide_eq_true_eq, decide_eq_false_iff_not, Bool.not_eq_true', Bool.not_eq_false', Option.isNone_some, Option.isNone_none, Bool.not_true, Bool.not_false] at h
    refine tl_v rfl (o_move (by conv => lhs; whnf)) ?_
    refine tl_v rfl (o_eqp Try.underlying41 rfl rfl) ?_
    refine tl_v rfl (o_pick_f rfl (by conv => lhs; whnf)) ?_
    refine tl_v rfl (o_move (by conv => lhs; whnf)) ?_
    refine tl_bool (d := 17) rfl (fun h => ?_) (fun h => ?_)
    · (exfalso; first | (revert h; simp; done) | (simp at h; done) | (revert h; simp; omega) | (simp at h; omega) | omega)
    · try simp only [decide_eq_true_eq, decide_eq_false_iff_not, Bool.not_eq_true', Bool.not_eq_false', Option.isNone_some, Option.isNone_none, Bool.not_true, Bool.not_false] at h
      refine tl_v rfl (o_move (by conv => lhs; whnf)) ?_
      refine tl_x rfl (o_buildSliceL (k := 1) (vs := bys [1, 1, 1, 1, 1, 1, 1, 1]) (l := bys [1, 1, 1, 1, 1, 1, 1, 1]) Try.underlying28 sz5 z5 rfl rfl (by decide) (by decide) (by intro v hv; have := List.all_eq_true.1 (bys_all [1, 1, 1, 1, 1, 1, 1, 1]) v hv; cases v <;> first | (simp [oneC] at this; done) | rfl) rfl) ?_
      rintro _ _ ⟨b19, rfl, rfl⟩
      refine tl_c rfl (o_call bd56 rfl (Bytes_k (xs := [1, 1, 1, 1, 1, 1, 1, 1]) (he := wk1_e) (hroom := fun _ => room_of _ (by decide +kernel)))) ?_
      rintro _ _ ⟨rfl, rfl⟩
      refine tl_v rfl (o_nei rfl rfl) ?_
      refine tl_v rfl (o_pick_f rfl (by conv => lhs; whnf)) ?_
      refine tl_v rfl (o_move (by conv => lhs; whnf)) ?_
      refine tl_bool (d := 23) rfl (fun h => ?_) (fun h => ?_)
      · (exfalso; first | (revert h; simp; done) | (simp at h; done) | (revert h; simp; omega) | (simp at h; omega) | omega)
      · try simp only [decide_eq_true_eq, decide_eq_false_iff_not, Bool.not_eq_true', Bool.not_eq_false', Option.isNone_some, Option.isNone_none, Bool.not_true, Bool.not_false] at h
        refine tl_v rfl (o_move (by conv => lhs; whnf)) ?_
        refine tl_c rfl (o_call bd41 rfl (Ops_c)) ?_
        rintro _ _ ⟨rfl, rfl⟩
        refine tl_env (d := 25) (v := .int .i64 5) (congrArg (Value.int .i64) wk1_o) ?_
        refine tl_v rfl (o_nei rfl rfl) ?_
        refine tl_v rfl (o_pick_f rfl (by conv => lhs; whnf)) ?_
        refine tl_nil ?_
        refine q_then_n ?_
        refine tc_cond rfl (fun h => ?_) (fun h => ?_)
        · (exfalso; first | (revert h; simp; done) | (simp at h; done) | (revert h; simp; omega) | (simp at h; omega) | omega)
        · try simp only [decide_eq_true_eq, decide_eq_false_iff_not, Bool.not_eq_true', Bool.not_eq_false', Option.isNone_some, Option.isNone_none, Bool.not_true, Bool.not_false] at h
          refine tc_skip ?_
          refine q_then_n ?_
          refine tc_seq ?_
          refine tc_seq ?_
          refine tc_reg ?_
          refine tl_v rfl (o_move (by conv => lhs; whnf)) ?_
          refine tl_c rfl (o_call bd61 rfl (Publish_k (v := 258) (he := wk2_e) (hroom := room_of _ (by decide +kernel)))) ?_
          rintro _ _ ⟨rfl, rfl⟩
          refine tl_v rfl (o_nei rfl rfl) ?_
          refine tl_v rfl (o_move (by conv => lhs; whnf)) ?_
          refine tl_bool (d := 31) rfl (fun h => ?_) (fun h => ?_)
          · (exfalso; first | (revert h; simp; done) | (simp at h; done) | (revert h; simp; omega) | (simp at h; omega) | omega)
          · try simp only [decide_eq_true_eq, decide_eq_false_iff_not, Bool.not_eq_true', Bool.not_eq_false', Option.isNone_some, Option.isNone_none, Bool.not_true, Bool.not_false] at h
            refine tl_v rfl (o_move (by conv => lhs; whnf)) ?_
            refine tl_c rfl (o_call bd28 rfl (Crash_k (keep := []) (he := wk3_e))) ?_
            rintro _ _ ⟨rfl, rfl⟩
            refine tl_v rfl (o_nei rfl rfl) ?_
            refine tl_v rfl (o_pick_f rfl (by conv => lhs; whnf)) ?_
            refine tl_v rfl (o_move (by conv => lhs; whnf)) ?_
            refine tl_bool (d := 36) rfl (fun h => ?_) (fun h => ?_)
            · (exfalso; first | (revert h; simp; done) | (simp at h; done) | (revert h; simp; omega) | (simp at h; omega) | omega)
            · try simp only [decide_eq_true_eq, decide_eq_false_iff_not, Bool.not_eq_true', Bool.not_eq_false', Option.isNone_some, Option.isNone_none, Bool.not_true, Bool.not_false] at h
              refine tl_v rfl (o_move (by conv => lhs; whnf)) ?_
              refine tl_c rfl (o_call bd32 rfl (Wake_c (s := wk3))) ?_
              rintro _ _ ⟨rfl, rfl⟩
              refine tl_env (d := 38) (v := .int .i64 0) (by rw [wk3_o]; rfl) ?_
              rw [show { wk3 with off := false } = wk4 from rfl]
              refine tl_v rfl (o_nei rfl rfl) ?_
              refine tl_v rfl (o_pick_f rfl (by conv => lhs; whnf)) ?_
              refine tl_nil ?_
              refine q_then_n ?_
              refine tc_cond rfl (fun h => ?_) (fun h => ?_)
              · (exfalso; first | (revert h; simp; done) | (simp at h; done) | (revert h; simp; omega) | (simp at h; omega) | omega)
              · try simp only [decide_eq_true_eq, decide_eq_false_iff_not, Bool.not_eq_true', Bool.not_eq_false', Option.isNone_some, Option.isNone_none, Bool.not_true, Bool.not_false] at h
                refine tc_skip ?_
                refine q_then_n ?_
                refine tc_seq ?_
                refine tc_reg ?_
                refine tl_v rfl (o_move (by conv => lhs; whnf)) ?_
                refine tl_c rfl (o_call bd57 rfl (Word_k (he := wk_w))) ?_
                rintro _ _ ⟨rfl, rfl⟩
                refine tl_v rfl (o_move (by conv => lhs; whnf)) ?_
                refine tl_v rfl (o_extract rfl rfl) ?_
                refine tl_v rfl (o_extract rfl rfl) ?_
                refine tl_v rfl (o_assign (by conv => lhs; whnf)) ?_
                refine tl_v rfl (o_assign (by conv => lhs; whnf)) ?_
                refine tl_nil ?_
                refine q_then_n ?_
                refine tc_seq ?_
                refine tc_reg ?_
                refine tl_v rfl (o_bS (l := [Value.int .i64 9]) (pv_cons (by conv => lhs; whnf) pv_nil) Try.underlying169 z169 (pl169 Try.underlying169) rfl) ?_
                refine tl_v rfl (o_move (by conv => lhs; whnf)) ?_
                refine tl_c rfl (o_call bd118 rfl (FL16_k (he := wk_f))) ?_
                rintro _ _ ⟨rfl, rfl⟩
                refine tl_v rfl (o_move (by conv => lhs; whnf)) ?_
                refine tl_v rfl (o_extract rfl rfl) ?_
                refine tl_v rfl (o_extract rfl rfl) ?_
                refine tl_v rfl (o_assign (by conv => lhs; whnf)) ?_
                refine tl_v rfl (o_assign (by conv => lhs; whnf)) ?_
                refine tl_nil ?_
                refine q_then_n ?_
                refine tc_seq ?_
                refine tc_reg ?_
                refine tl_v rfl (o_move (by conv => lhs; whnf)) ?_
                refine tl_v rfl (o_eqi rfl rfl) ?_
                refine tl_v rfl (o_move (by conv => lhs; whnf)) ?_
                refine tl_bool (d := 54) rfl (fun h => ?_) (fun h => ?_)
                · try simp only [decide_eq_true_eq, decide_eq_false_iff_not, Bool.not_eq_true', Bool.not_eq_false', Option.isNone_some, Option.isNone_none, Bool.not_true, Bool.not_false] at h
                  refine tl_v rfl (o_move (by conv => lhs; whnf)) ?_
                  refine tl_v rfl (o_eqi rfl rfl) ?_
                  refine tl_v rfl (o_pick_t rfl (by conv => lhs; whnf)) ?_
                  refine tl_v rfl (o_move (by conv => lhs; whnf)) ?_
                  refine tl_bool (d := 58) rfl (fun h => ?_) (fun h => ?_)
                  · try simp only [decide_eq_true_eq, decide_eq_false_iff_not, Bool.not_eq_true', Bool.not_eq_false', Option.isNone_some, Option.isNone_none, Bool.not_true, Bool.not_false] at h
                    refine tl_v rfl (o_move (by conv => lhs; whnf)) ?_
                    refine tl_v rfl (o_eqi rfl rfl) ?_
                    refine tl_v rfl (o_pick_t rfl (by conv => lhs; whnf)) ?_
                    refine tl_v rfl (o_move (by conv => lhs; whnf)) ?_
                    refine tl_bool (d := 62) rfl (fun h => ?_) (fun h => ?_)
                    · try simp only [decide_eq_true_eq, decide_eq_false_iff_not, Bool.not_eq_true', Bool.not_eq_false', Option.isNone_some, Option.isNone_none, Bool.not_true, Bool.not_false] at h
                      refine tl_v rfl (o_move (by conv => lhs; whnf)) ?_
                      refine tl_v rfl (o_eqi rfl rfl) ?_
                      refine tl_v rfl (o_pick_t rfl (by conv => lhs; whnf)) ?_
                      refine tl_v rfl (o_move (by conv => lhs; whnf)) ?_
                      refine tl_bool (d := 66) rfl (fun h => ?_) (fun h => ?_)
                      · try simp only [decide_eq_true_eq, decide_eq_false_iff_not, Bool.not_eq_true', Bool.not_eq_false', Option.isNone_some, Option.isNone_none, Bool.not_true, Bool.not_false] at h
                        refine tl_v rfl (o_move (by conv => lhs; whnf)) ?_
                        refine tl_c rfl (o_call bd41 rfl (Ops_c)) ?_
                        rintro _ _ ⟨rfl, rfl⟩
                        refine tl_env (d := 68) (v := .int .i64 8) (congrArg (Value.int .i64) wk4_o) ?_
                        refine tl_v rfl (o_eqi rfl rfl) ?_
                        refine tl_v rfl (o_pick_t rfl (by conv => lhs; whnf)) ?_
                        refine tl_v rfl (o_assign (by conv => lhs; whnf)) ?_
                        refine tl_nil ?_
                        refine q_then_n ?_
                        refine tc_ret ?_
                        exact ⟨.bool true, A, res1 rfl rfl, Dr.sat (by repeat (first | with_reducible exact dr_refl | apply dr_keep | apply dr_drop)), rfl, rfl⟩
                      · (exfalso; first | (revert h; simp; done) | (simp at h; done) | (revert h; simp; omega) | (simp at h; omega) | omega)
                    · (exfalso; first | (revert h; simp; done) | (simp at h; done) | (revert h; simp; omega) | (simp at h; omega) | omega)
                  · (exfalso; first | (revert h; simp; done) | (simp at h; done) | (revert h; simp; omega) | (simp at h; omega) | omega)
                · (exfalso; first | (revert h; simp; done) | (simp at h; done) | (revert h; simp; omega) | (simp at h; omega) | omega)
def nk1 : DevS := (crS [] (newS 1)).2
end Go.Vl

set_option linter.unusedVariables false
set_option linter.unusedSimpArgs false
namespace Go.Vl
open Go Go.Proofs
/-- An operation's cells. -/
structure Op9 where
  k : Int
  q : Int
  n : Int
  a : Option Addr
  c : Nat
  b : List Nat
  v : Nat
  ka : Option Addr
  kc : Nat
  kp : List Int
def Op9.cells (t : Op9) : List Value := [.int .i64 t.k, .int .i64 t.q, .int .i64 t.n, .slice t.a t.b.length t.c, .int .u64 (t.v : Nat), .slice t.ka t.kp.length t.kc]
structure Op9W (A : SP) (t : Op9) : Prop where
  cap : t.b.length ≤ t.c
  rs : Rs A t.a (bys t.b)
  byt : ∀ x ∈ t.b, x < 256
  v : t.v < 18446744073709551616
  kcap : t.kp.length ≤ t.kc
  krs : Rs A t.ka (ints t.kp)
  kb : ∀ x ∈ t.kp, -9223372036854775808 ≤ x ∧ x ≤ 9223372036854775807
  q : -9223372036854775808 ≤ t.q ∧ t.q ≤ 9223372036854775807
  n : -9223372036854775808 ≤ t.n ∧ t.n ≤ 9223372036854775807
def Op9.sz (t : Op9) : Nat := t.b.length + t.kp.length + 1
def ocs (l : List Op9) : List Value := l.flatMap Op9.cells
theorem ocs_length (l : List Op9) : (ocs l).length = l.length * 6 := by
  induction l with
  | nil => rfl
  | cons t l ih => simp only [ocs, List.flatMap_cons, List.length_append, List.length_cons] at *; rw [ih]; simp [Op9.cells]; omega
theorem ocs_at : ∀ {l : List Op9} {j : Nat} (h : j < l.length), ((ocs l).drop (j * 6)).take 6 = l[j].cells
  | t :: l, 0, _ => by simp [ocs, Op9.cells]
  | t :: l, j + 1, h => by
    have e : (j + 1) * 6 = t.cells.length + j * 6 := by simp [Op9.cells]; omega
    rw [e]
    show ((t.cells ++ ocs l).drop _).take 6 = _
    rw [← List.drop_drop, List.drop_left]
    exact ocs_at (by simpa using h)
theorem flatF' {α : Type} {f : α → List Value} : ∀ {Cs : List (List Value)} {xs : List α} (_ : Cs.length = xs.length) (_ : ∀ i (h : i < xs.length) (h' : i < Cs.length), Cs[i] = f xs[i]), Cs.flatten = xs.flatMap f
  | [], [], _, _ => rfl
  | c :: Cs, x :: xs, hl, h => by
    have h0 := h 0 (by simp) (by simp)
    simp only [List.getElem_cons_zero] at h0
    rw [List.flatten_cons, h0, flatF' (f := f) (Cs := Cs) (xs := xs) (by simpa using hl) (fun i hi hi' => h (i + 1) (by simpa using hi) (by simpa using hi')), List.flatMap_cons]
theorem u64_wf' {x : Int} (h : (Lit.int .u64 x).wf = true) : ∃ m : Nat, x = m ∧ m < 18446744073709551616 := by
  have hb := Go.bounds_u64 h
  obtain ⟨m, rfl⟩ := Int.eq_ofNat_of_zero_le hb.1
  exact ⟨m, rfl, by omega⟩
theorem six_of {α : Type} : ∀ {l : List α}, l.length = 6 → ∃ a b c d e f, l = [a, b, c, d, e, f]
  | [a, b, c, d, e, f], _ => ⟨a, b, c, d, e, f, rfl⟩
set_option maxRecDepth 20000 in
theorem rdu_op (W : World) : Rdu Try.prog W 103 (fun cs (t : Op9) => cs = t.cells ∧ Op9W (old W) t) Op9.sz := fun H enc sp hd fu cs d pl h => by
  obtain ⟨hl, Ds, hD, hs, hf⟩ := rdu_fields Try.underlying103 h
  have hc : Try.prog.cellsOf 103 = 6 := by kernel_rfl
  have hci : Try.prog.cellsOf 3 = 1 := by kernel_rfl
  have hcu : Try.prog.cellsOf 53 = 1 := by kernel_rfl
  have hcb : Try.prog.cellsOf 28 = 1 := by kernel_rfl
  have hck : Try.prog.cellsOf 37 = 1 := by kernel_rfl
  rw [hc] at hl
  obtain ⟨k, D0, _, ⟨e0, _⟩, _⟩ := hf 0 _ rfl (rdu_int Try.underlying3)
  obtain ⟨q, D1, _, ⟨e1, w1⟩, _⟩ := hf 1 _ rfl (rdu_int Try.underlying3)
  obtain ⟨n, D2, _, ⟨e2, w2⟩, _⟩ := hf 2 _ rfl (rdu_int Try.underlying3)
  obtain ⟨b, D3, h3, ⟨a, c, e3, g3, r3, l3⟩, s3⟩ := hf 3 _ rfl (rdu_bys Try.underlying28 Try.underlying5 (by kernel_rfl))
  obtain ⟨v, D4, _, ⟨e4, w4⟩, _⟩ := hf 4 _ rfl (rdu_int Try.underlying53)
  obtain ⟨kp, D5, h5, ⟨ka, kc, e5, g5, r5, l5⟩, s5⟩ := hf 5 _ rfl (rdu_ints Try.underlying37 Try.underlying3 (by kernel_rfl))
  obtain ⟨m, rfl, hm⟩ := u64_wf' w4
  obtain ⟨d0, d1, d2, d3, d4, d5, rfl⟩ := six_of (show Ds.length = 6 from hD)
  obtain ⟨c0, c1, c2, c3, c4, c5, rfl⟩ := six_of hl
  simp only [List.getElem?_cons_succ, List.getElem?_cons_zero, Option.some.injEq] at h3 h5
  subst h3 h5
  simp only [ubs_cons, ubs_nil] at hs
  simp [hci] at e0 e1 e2
  simp [hcu] at e4
  simp [hcb] at e3
  simp [hck] at e5
  subst e0 e1 e2 e3 e4 e5
  exact ⟨⟨k, q, n, a, c, b, m, ka, kc, kp⟩, ⟨rfl, ⟨g3, r3, l3, hm, g5, r5, l5, i64_wf w1, i64_wf w2⟩⟩, by unfold Op9.sz; simp only []; omega⟩
def POps (A : SP) (cs : List Value) (ops : List Op9) : Prop := ∃ a cap, cs = [.slice a ops.length cap] ∧ ops.length ≤ cap ∧ Rs A a (ocs ops) ∧ ∀ t ∈ ops, Op9W A t
theorem rdu_ops (W : World) : Rdu Try.prog W 98 (POps (old W)) (szL Op9.sz) :=
  (rdu_slice (k := 6) Try.underlying98 (by kernel_rfl) (by decide) (rdu_op W)).mono fun cs ss ⟨a, cap, Cs, e1, hc, hl, hx, hr⟩ => by
    refine ⟨ss, ⟨a, cap, e1, hc, ?_, fun t ht => ?_⟩, Nat.le_refl _⟩
    · rw [show ocs ss = Cs.flatten from (flatF' hl (fun i h h' => (hx i h h').2.1)).symm]; exact hr
    · obtain ⟨i, hi, rfl⟩ := List.mem_iff_getElem.1 ht
      exact (hx i hi (by omega)).2.2
theorem szL_ops {l : List Op9} (h : szL Op9.sz l ≤ 1048576) : l.length ≤ 1048576 ∧ ∀ t ∈ l, t.b.length ≤ 1048576 := by
  unfold szL at h
  refine ⟨?_, fun t ht => ?_⟩
  · have := len_le_sum (f := Op9.sz) (xs := l) (fun x _ => by unfold Op9.sz; omega)
    omega
  · have := sum_le (f := Op9.sz) ht
    unfold Op9.sz at *; omega
/-! ### An operation on the device alone -/
def rawS (t : Op9) (s : DevS) : DevS := if t.k = 7 then (sto ((wi t.q 256 : Nat) : Int) (t.b.take (256 - wi t.q 256)) s).2 else if t.k = 8 then (fl1 ((wi t.q 256 : Nat) : Int) s).2 else if t.k = 9 then (fe s).2 else s
theorem fl1_go {s : DevS} (h : Live s) {p : Nat} (hp : p + 1 ≤ s.ls.length * 64) : fl1 (p : Int) s = (0, { flushS p s with ops := wr64 (s.ops + 1) }) := by
  have hf := onLine_fields flushL (p / 64) s
  unfold fl1
  rw [h.off, rdy_ok (by omega) (by omega) (by omega), if_neg (by simp)]
  have ha : (flushS (p : Int).toNat s).arms = [] := by unfold flushS; rw [Int.toNat_natCast, hf.2.1, h.arms]
  obtain ⟨h1, h2⟩ := doneS_live ha
  rw [h1, h2, Int.toNat_natCast]
  unfold flushS at *
  rw [hf.1]
theorem sto_go {p r : Nat} {b : List Nat} {s : DevS} (hw : WfD s) (hL : Live s) (hb : ∀ x ∈ b, x < 256) (hr : Room (r + b.length) s) (hp : p + b.length ≤ s.ls.length * 64) :
    (sto (p : Int) b s).1 = 0 ∧ imgS (sto (p : Int) b s).2 = spl (imgS s) p b ∧ Live (sto (p : Int) b s).2 ∧ WfD (sto (p : Int) b s).2 ∧ (sto (p : Int) b s).2.ls.length = s.ls.length ∧ Room r (sto (p : Int) b s).2 ∧
    ∀ at_ c, at_ + c.length ≤ s.ls.length * 64 → (∀ x, x < c.length → at_ + x < p ∨ p + b.length ≤ at_ + x) → Ag at_ c s → Ag at_ c (sto (p : Int) b s).2 := by
  have e : sto (p : Int) b s = storeF b.length p b s := by
    unfold sto
    rw [hL.off, rdy_ok (by omega) (by omega) (by omega), if_neg (by simp), Int.toNat_natCast]
  rw [e]; exact storeF_go b.length rfl hw hL hb hr hp
theorem room_le {a b : Nat} {s : DevS} (h : Room a s) (hab : b ≤ a) : Room b s := fun l hl => Nat.le_trans (Nat.add_le_add_left hab _) (h l hl)
theorem rawS_go {t : Op9} {s : DevS} {r : Nat} (hb : ∀ x ∈ t.b, x < 256) (hL : Live s) (hw : WfD s) (hl : s.ls.length = 4) (hr : Room (r + 256) s) :
    Live (rawS t s) ∧ WfD (rawS t s) ∧ (rawS t s).ls.length = 4 ∧ Room r (rawS t s) ∧
    ∀ at_ c, at_ + c.length ≤ 256 → (t.k = 7 → ∀ x, x < c.length → at_ + x < wi t.q 256 ∨ wi t.q 256 + (t.b.take (256 - wi t.q 256)).length ≤ at_ + x) → Ag at_ c s → Ag at_ c (rawS t s) := by
  have hwi := wi_lt (p := t.q) (n := 256) (by decide)
  have hr0 : Room r s := fun l h => by have := hr l h; omega
  unfold rawS
  split
  · rename_i hk
    have ht : (t.b.take (256 - wi t.q 256)).length ≤ 256 - wi t.q 256 := by rw [List.length_take]; omega
    obtain ⟨_, _, g3, g4, g5, g6, g7⟩ := sto_go (r := r) (p := wi t.q 256) (b := t.b.take (256 - wi t.q 256)) hw hL (fun x hx => hb x (List.mem_of_mem_take hx)) (fun l h => by have := hr l h; omega) (by omega)
    exact ⟨g3, g4, by rw [g5, hl], g6, fun at_ c h1 h2 h3 => g7 at_ c (by omega) (h2 hk) h3⟩
  · split
    · rw [fl1_go hL (by omega)]
      have hf := onLine_fields flushL (wi t.q 256 / 64) s
      have hi : wi t.q 256 / 64 < s.ls.length := by omega
      have hs : flushS (wi t.q 256) s = { s with ls := s.ls.set (wi t.q 256 / 64) (flushL s.ls[wi t.q 256 / 64]) } := by unfold flushS; rw [onLine_at hi]
      refine ⟨⟨hf.2.2.2.1.trans hL.off, hf.2.1.trans hL.arms⟩, wfD_ops (flushS_wf hw) _, hf.2.2.2.2.trans hl, ?_, fun at_ c _ _ h => ag_sub h fun q l' hl' => ?_⟩
      · intro l h
        simp only [hs] at h
        rcases List.mem_or_eq_of_mem_set h with h1 | rfl
        · exact hr0 l h1
        · have := hr0 _ (List.getElem_mem hi); exact this
      · simp only [hs] at hl'
        by_cases e : wi t.q 256 / 64 = q
        · subst e
          rw [List.getElem?_set_self hi] at hl'
          obtain rfl := Option.some.inj hl'
          exact ⟨_, List.getElem?_eq_getElem hi, fun σ h => h⟩
        · rw [List.getElem?_set_ne e] at hl'
          exact ⟨l', hl', fun σ h => h⟩
    · split
      · rw [fe_live hL]
        have hwf : WfD (fenceS s) := ⟨by simp [fenceS]; exact hw.pos, by simp [fenceS]; exact hw.top, fun l hl => by
          simp only [fenceS, List.mem_map] at hl
          obtain ⟨l0, h0, rfl⟩ := hl
          exact fenceL_wf (hw.line l0 h0), hw.arms, hw.after, hw.keeps⟩
        refine ⟨⟨hL.off, hL.arms⟩, wfD_ops hwf _, by simp [fenceS]; exact hl, fun l hl => ?_, fun at_ c _ _ h => ag_sub h fun q l' hl' => ?_⟩
        · simp only [fenceS, List.mem_map] at hl
          obtain ⟨l0, h0, rfl⟩ := hl
          have h3 : (fenceL l0).st.length ≤ l0.st.length := by unfold fenceL; split <;> simp
          have := hr0 l0 h0; omega
        · obtain ⟨l, h1, rfl⟩ := fence_get (show (s.ls.map fenceL)[q]? = some l' from hl')
          exact ⟨l, h1, fence_mem⟩
      · exact ⟨hL, hw, hl, hr0, fun _ _ _ _ h => h⟩
def rawL (l : List Op9) (s : DevS) : DevS := l.foldl (fun s t => rawS t s) s
theorem rawL_succ {l : List Op9} {j : Nat} (h : j < l.length) (s : DevS) : rawL (l.take (j + 1)) s = rawS l[j] (rawL (l.take j) s) := by
  unfold rawL; rw [List.take_succ_eq_append_getElem h, List.foldl_append]; rfl
theorem rawL_go : ∀ (l : List Op9) {s : DevS} {r : Nat}, (∀ t ∈ l, ∀ x ∈ t.b, x < 256) → Live s → WfD s → s.ls.length = 4 → Room (r + 256 * l.length) s → Live (rawL l s) ∧ WfD (rawL l s) ∧ (rawL l s).ls.length = 4 ∧ Room r (rawL l s)
  | [], _, _, _, hL, hw, hl, hr => ⟨hL, hw, hl, hr⟩
  | t :: l, s, r, hb, hL, hw, hl, hr => by
    obtain ⟨g1, g2, g3, g4, _⟩ := rawS_go (t := t) (r := r + 256 * l.length) (hb t (by simp)) hL hw hl (room_le hr (by simp only [List.length_cons]; omega))
    exact rawL_go l (fun t ht => hb t (by simp [ht])) g1 g2 g3 g4
/-- The same, but what would be stored into the range is passed over. -/
def rawB (at_ m : Nat) (t : Op9) (s : DevS) : DevS := if t.k = 7 ∧ wi t.q 256 < at_ + m ∧ at_ < wi t.q 256 + t.b.length then s else rawS t s
def rawLB (at_ m : Nat) (l : List Op9) (s : DevS) : DevS := l.foldl (fun s t => rawB at_ m t s) s
theorem rawLB_succ {at_ m : Nat} {l : List Op9} {j : Nat} (h : j < l.length) (s : DevS) : rawLB at_ m (l.take (j + 1)) s = rawB at_ m l[j] (rawLB at_ m (l.take j) s) := by
  unfold rawLB; rw [List.take_succ_eq_append_getElem h, List.foldl_append]; rfl
theorem rawLB_go {at_ : Nat} {c : List Nat} (hc : at_ + c.length ≤ 256) : ∀ (l : List Op9) {s : DevS} {r : Nat}, (∀ t ∈ l, ∀ x ∈ t.b, x < 256) → Live s → WfD s → s.ls.length = 4 → Room (r + 256 * l.length) s → Ag at_ c s →
    Live (rawLB at_ c.length l s) ∧ WfD (rawLB at_ c.length l s) ∧ (rawLB at_ c.length l s).ls.length = 4 ∧ Room r (rawLB at_ c.length l s) ∧ Ag at_ c (rawLB at_ c.length l s)
  | [], _, _, _, hL, hw, hl, hr, hA => ⟨hL, hw, hl, hr, hA⟩
  | t :: l, s, r, hb, hL, hw, hl, hr, hA => by
    have hr1 : Room ((r + 256 * l.length) + 256) s := room_le hr (by simp only [List.length_cons]; omega)
    obtain ⟨g1, g2, g3, g4, g5⟩ := rawS_go (t := t) (r := r + 256 * l.length) (hb t (by simp)) hL hw hl hr1
    show Live (rawLB at_ c.length l (rawB at_ c.length t s)) ∧ WfD (rawLB at_ c.length l (rawB at_ c.length t s)) ∧ (rawLB at_ c.length l (rawB at_ c.length t s)).ls.length = 4 ∧ Room r (rawLB at_ c.length l (rawB at_ c.length t s)) ∧ Ag at_ c (rawLB at_ c.length l (rawB at_ c.length t s))
    by_cases e : t.k = 7 ∧ wi t.q 256 < at_ + c.length ∧ at_ < wi t.q 256 + t.b.length
    · rw [show rawB at_ c.length t s = s from if_pos e]
      exact rawLB_go hc l (fun t ht => hb t (by simp [ht])) hL hw hl (room_le hr1 (by omega)) hA
    · rw [show rawB at_ c.length t s = rawS t s from if_neg e]
      refine rawLB_go hc l (fun t ht => hb t (by simp [ht])) g1 g2 g3 g4 (g5 at_ c hc (fun hk x hx => ?_) hA)
      have ht : (t.b.take (256 - wi t.q 256)).length ≤ t.b.length := by rw [List.length_take]; omega
      omega
theorem agI_take {at_ : Nat} {c I : List Nat} (h : AgI at_ c I) : (I.drop at_).take c.length = c := by
  apply List.ext_getElem?
  intro x
  rw [List.getElem?_take]
  split
  · rename_i hx; rw [List.getElem?_drop]; exact h x hx
  · rename_i hx; rw [List.getElem?_eq_none (by omega)]
theorem cut_none {a : Option Addr} {c : Nat} : cutAddr a c 0 1 = a := by
  unfold cutAddr
  split
  · rfl
  · cases a <;> simp [Addr.add]
theorem bys_take (b : List Nat) (n : Nat) : (bys b).take n = bys (b.take n) := by unfold bys; rw [List.map_take]
theorem wi_val' {p : Int} {n : Nat} (h : 0 < n) : (Value.int .i64 (p % (n : Int))) = .int .i64 ((wi p n : Nat) : Int) := congrArg (Value.int .i64) (wi_cast h)
attribute [local irreducible] Sl pt ro Dev imgS
theorem Within_c {A : SP} {i n : Int} (hn : 0 < n ∧ n ≤ 9223372036854775807 := by omega) :
    Fn Try.prog 55 #[.int .i64 i, .int .i64 n] (A) (fun r B => r = .int .i64 (i % n) ∧ A = B) := by
  refine fn_enterW (args := [.int .i64 i, .int .i64 n]) Try.func55 rfl Try.ntmps55 (by simp) ?_
  have hb := tmod_lt' (a := i) hn.1
  refine tc_seq ?_
  refine tc_reg ?_
  refine tl_v rfl (o_assign (by conv => lhs; whnf)) ?_
  refine tl_nil ?_
  refine q_then_n ?_
  refine tc_seq ?_
  refine tc_reg ?_
  refine tl_v rfl (o_move (by conv => lhs; whnf)) ?_
  refine tl_v rfl (o_move (by conv => lhs; whnf)) ?_
  refine tl_v rfl (o_rem (a := i) (b := n) rfl rfl (by omega)) ?_
  refine tl_v rfl (o_assign (by conv => lhs; whnf)) ?_
  refine tl_nil ?_
  refine q_then_n ?_
  refine tc_seq ?_
  refine tc_seq ?_
  refine tc_reg ?_
  refine tl_v rfl (o_move (by conv => lhs; whnf)) ?_
  refine tl_v rfl (o_lss rfl rfl) ?_
  refine tl_nil ?_
  refine q_then_n ?_
  refine tc_cond rfl (fun h => ?_) (fun h => ?_)
  · try simp only [decide_eq_true_eq, decide_eq_false_iff_not, Bool.not_eq_true', Bool.not_eq_false', Option.isNone_some, Option.isNone_none, Bool.not_true, Bool.not_false] at h
    refine tc_reg ?_
    refine tl_v rfl (o_move (by conv => lhs; whnf)) ?_
    refine tl_v rfl (o_move (by conv => lhs; whnf)) ?_
    refine tl_v rfl (o_addI (a := i.tmod n) (b := n) rfl rfl (by omega)) ?_
    refine tl_v rfl (o_assign (by conv => lhs; whnf)) ?_
    refine tl_nil ?_
    refine q_then_n ?_
    refine tc_seq ?_
    refine tc_reg ?_
    refine tl_v rfl (o_move (by conv => lhs; whnf)) ?_
    refine tl_v rfl (o_assign (by conv => lhs; whnf)) ?_
    refine tl_nil ?_
    refine q_then_n ?_
    refine tc_ret ?_
    exact ⟨.int .i64 (i.tmod n + n), A, res1 rfl rfl, fun _ _ h => h, by rw [within_neg hn.1 h], rfl⟩
  · try simp only [decide_eq_true_eq, decide_eq_false_iff_not, Bool.not_eq_true', Bool.not_eq_false', Option.isNone_some, Option.isNone_none, Bool.not_true, Bool.not_false] at h
    refine tc_skip ?_
    refine q_then_n ?_
    refine tc_seq ?_
    refine tc_reg ?_
    refine tl_v rfl (o_move (by conv => lhs; whnf)) ?_
    refine tl_v rfl (o_assign (by conv => lhs; whnf)) ?_
    refine tl_nil ?_
    refine q_then_n ?_
    refine tc_ret ?_
    exact ⟨.int .i64 (i.tmod n), A, res1 rfl rfl, fun _ _ h => h, by rw [within_pos hn.1 h], rfl⟩
theorem raw_c {A R : SP} {C : SP → SP} {d : Nat} {s : DevS} (hc : Ct A (Dev d s) R C := by repeat (first | with_reducible exact ct_here | apply ct_left)) {t : Op9} (hw : Op9W R t) (hl : s.ls.length = 4) (hroom : Room 256 s) (hbl : t.b.length ≤ 1048576) :
    Fn Try.prog 54 #[.pointer (some ⟨d, 0, none⟩), .agg t.cells.toArray, .int .i64 256] (A) (fun r B => r = .tuple #[] ∧ B = C (Dev d (rawS t s))) := by
  refine fn_enterW (args := [.pointer (some ⟨d, 0, none⟩), .agg t.cells.toArray, .int .i64 256]) Try.func54 rfl Try.ntmps54 (by simp) ?_
  obtain ⟨rfl, hC⟩ := hc
  have hwi := wi_lt (p := t.q) (n := 256) (by decide)
  have hrs := (hw.rs).sub (256 - wi t.q 256)
  rw [bys_take] at hrs
  have hbt : ((t.b.take (256 - wi t.q 256))).length ≤ 256 := by rw [List.length_take]; omega
  have hbb : ∀ x ∈ (t.b.take (256 - wi t.q 256)), x < 256 := fun x hx => hw.byt x (List.mem_of_mem_take hx)
  have hcap := hw.cap
  refine tc_seq ?_
  refine tc_reg ?_
  refine tl_x rfl (o_box rfl rfl) ?_
  rintro _ _ ⟨b4, rfl, rfl⟩
  refine tl_nil ?_
  refine q_then_n ?_
  refine tc_seq ?_
  refine tc_reg ?_
  refine tl_v rfl (o_fieldAddr (o := 1) Try.underlying103 rfl rfl sz3 rfl) ?_
  refine tl_v rfl (by first | exact o_load p3 rfl (by repeat (first | with_reducible exact has_here | with_reducible exact has_pt | apply has_left)) rfl | exact o_loadC p3 rfl (by assumption)) ?_
  refine tl_v rfl (o_move (by conv => lhs; whnf)) ?_
  refine tl_c rfl (o_call bd55 rfl (Within_c)) ?_
  rintro _ _ ⟨rfl, rfl⟩
  refine tl_v rfl (o_assign (by conv => lhs; whnf)) ?_
  refine tl_env (d := 6) (v := .int .i64 ((wi t.q 256 : Nat) : Int)) (wi_val' (by decide)) ?_
  refine tl_nil ?_
  refine q_then_n ?_
  refine tc_seq ?_
  refine tc_reg ?_
  refine tl_v rfl (o_fieldAddr (o := 0) Try.underlying103 rfl rfl sz3 rfl) ?_
  refine tl_v rfl (by first | exact o_load p3 rfl (by repeat (first | with_reducible exact has_here | with_reducible exact has_pt | apply has_left)) rfl | exact o_loadC p3 rfl (by assumption)) ?_
  refine tl_nil ?_
  refine q_then_n ?_
  refine tc_block ?_
  refine tc_seq ?_
  refine tc_reg ?_
  refine tl_v rfl (o_eqi rfl rfl) ?_
  refine tl_v rfl (o_assign (by conv => lhs; whnf)) ?_
  refine tl_nil ?_
  refine q_then_n ?_
  refine tc_cond rfl (fun h => ?_) (fun h => ?_)
  · try simp only [decide_eq_true_eq, decide_eq_false_iff_not, Bool.not_eq_true', Bool.not_eq_false', Option.isNone_some, Option.isNone_none, Bool.not_true, Bool.not_false] at h
    refine tc_seq ?_
    refine tc_reg ?_
    refine tl_v rfl (o_fieldAddr (o := 3) Try.underlying103 rfl rfl sz28 rfl) ?_
    refine tl_v rfl (by first | exact o_load p28 rfl (by repeat (first | with_reducible exact has_here | with_reducible exact has_pt | apply has_left)) rfl | exact o_loadC p28 rfl (by assumption)) ?_
    refine tl_v rfl (o_assign (by conv => lhs; whnf)) ?_
    refine tl_nil ?_
    refine q_then_n ?_
    refine tc_seq ?_
    refine tc_seq ?_
    refine tc_reg ?_
    refine tl_v rfl (o_move (by conv => lhs; whnf)) ?_
    refine tl_v rfl (o_len Try.underlying28 rfl) ?_
    refine tl_v rfl (o_move (by conv => lhs; whnf)) ?_
    refine tl_v rfl (o_move (by conv => lhs; whnf)) ?_
    refine tl_v rfl (by first | exact o_subI rfl rfl (by omega) | exact o_sub rfl rfl) ?_
    refine tl_v rfl (o_gtr rfl rfl) ?_
    refine tl_nil ?_
    refine q_then_n ?_
    refine tc_cut (fun ρ BB => ρ 7 = .slice t.a (t.b.take (256 - wi t.q 256)).length t.c ∧ ρ 0 = .pointer (some ⟨d, 0, none⟩) ∧ ρ 6 = .int .i64 ((wi t.q 256 : Nat) : Int) ∧ BB = R * Dev d s * pt b4 (cl t.cells 103)) ?_ ?_
    · skip
      refine tc_cond rfl (fun h => ?_) (fun h => ?_)
      · try simp only [decide_eq_true_eq, decide_eq_false_iff_not, Bool.not_eq_true', Bool.not_eq_false', Option.isNone_some, Option.isNone_none, Bool.not_true, Bool.not_false] at h
        refine tc_reg ?_
        refine tl_v rfl (o_move (by conv => lhs; whnf)) ?_
        refine tl_v rfl (o_move (by conv => lhs; whnf)) ?_
        refine tl_v rfl (o_move (by conv => lhs; whnf)) ?_
        refine tl_v rfl (by first | exact o_subI rfl rfl (by omega) | exact o_sub rfl rfl) ?_
        refine tl_v rfl (o_slice Try.underlying28 sz5 rfl bnd_none (bnd_some rfl (by omega)) (by omega) (by omega)) ?_
        refine tl_v rfl (o_assign (by conv => lhs; whnf)) ?_
        refine tl_nil ?_
        exact ⟨by first | (show Value.slice (cutAddr t.a t.c 0 1) _ _ = _; rw [cut_none, List.length_take]; congr 1; omega) | exact congrArg (fun z => Value.slice t.a z t.c) (by rw [List.length_take]; omega), rfl, rfl, rfl⟩
      · try simp only [decide_eq_true_eq, decide_eq_false_iff_not, Bool.not_eq_true', Bool.not_eq_false', Option.isNone_some, Option.isNone_none, Bool.not_true, Bool.not_false] at h
        refine tc_skip ?_
        exact ⟨by first | (show Value.slice (cutAddr t.a t.c 0 1) _ _ = _; rw [cut_none, List.length_take]; congr 1; omega) | exact congrArg (fun z => Value.slice t.a z t.c) (by rw [List.length_take]; omega), rfl, rfl, rfl⟩
    · intro ρ B hI
      obtain ⟨hE7, hE0, hE6, rfl⟩ := hI
      refine q_then_n ?_
      refine tc_env (d := 7) hE7 ?_
      refine tc_env (d := 0) hE0 ?_
      refine tc_env (d := 6) hE6 ?_
      clear hE7 hE0 hE6
      refine tc_reg ?_
      refine tl_v rfl (o_move (by conv => lhs; whnf)) ?_
      refine tl_v rfl (o_move (by conv => lhs; whnf)) ?_
      refine tl_v rfl (o_move (by conv => lhs; whnf)) ?_
      refine tl_c rfl (o_call bd39 rfl (CopyBytes_c (xs := (t.b.take (256 - wi t.q 256))))) ?_
      rintro _ _ ⟨a32, c32, rfl, hc32, rfl⟩
      refine tl_c rfl (o_call bd43 rfl (Store_c (s := s) (p := ((wi t.q 256 : Nat) : Int)) (xs := (t.b.take (256 - wi t.q 256))) (hr := rs_sl) (hroom := fun _ l hl => by have := hroom l hl; omega))) ?_
      rintro _ _ ⟨e33, s33, hs33, rfl, rfl⟩
      refine tl_nil ?_
      refine q_block_n ?_
      have e : rawS t s = s33 := by unfold rawS; rw [if_pos h, hs33]
      rw [e]
      exact ⟨.tuple #[], C (Dev d s33), res0 rfl, fun _ _ h => by rw [hC]; exact Dr.sat (A' := R * Dev d s33) (by repeat (first | with_reducible exact dr_refl | apply dr_keep | apply dr_drop)) _ _ h, rfl, rfl⟩
  · try simp only [decide_eq_true_eq, decide_eq_false_iff_not, Bool.not_eq_true', Bool.not_eq_false', Option.isNone_some, Option.isNone_none, Bool.not_true, Bool.not_false] at h
    refine tc_seq ?_
    refine tc_reg ?_
    refine tl_v rfl (o_eqi rfl rfl) ?_
    refine tl_v rfl (o_assign (by conv => lhs; whnf)) ?_
    refine tl_nil ?_
    refine q_then_n ?_
    refine tc_cond rfl (fun h => ?_) (fun h => ?_)
    · try simp only [decide_eq_true_eq, decide_eq_false_iff_not, Bool.not_eq_true', Bool.not_eq_false', Option.isNone_some, Option.isNone_none, Bool.not_true, Bool.not_false] at h
      refine tc_reg ?_
      refine tl_v rfl (o_move (by conv => lhs; whnf)) ?_
      refine tl_v rfl (o_move (by conv => lhs; whnf)) ?_
      refine tl_c rfl (o_call bd87 rfl (Flush_c (s := s) (p := ((wi t.q 256 : Nat) : Int)))) ?_
      rintro _ _ ⟨e38, s38, hs38, rfl, rfl⟩
      refine tl_nil ?_
      refine q_block_n ?_
      have e : rawS t s = s38 := by unfold rawS; rw [if_neg (by omega), if_pos (by omega), hs38]
      rw [e]
      exact ⟨.tuple #[], C (Dev d s38), res0 rfl, fun _ _ h => by rw [hC]; exact Dr.sat (A' := R * Dev d s38) (by repeat (first | with_reducible exact dr_refl | apply dr_keep | apply dr_drop)) _ _ h, rfl, rfl⟩
    · try simp only [decide_eq_true_eq, decide_eq_false_iff_not, Bool.not_eq_true', Bool.not_eq_false', Option.isNone_some, Option.isNone_none, Bool.not_true, Bool.not_false] at h
      refine tc_seq ?_
      refine tc_reg ?_
      refine tl_v rfl (o_eqi rfl rfl) ?_
      refine tl_v rfl (o_assign (by conv => lhs; whnf)) ?_
      refine tl_nil ?_
      refine q_then_n ?_
      refine tc_cond rfl (fun h => ?_) (fun h => ?_)
      · try simp only [decide_eq_true_eq, decide_eq_false_iff_not, Bool.not_eq_true', Bool.not_eq_false', Option.isNone_some, Option.isNone_none, Bool.not_true, Bool.not_false] at h
        refine tc_reg ?_
        refine tl_v rfl (o_move (by conv => lhs; whnf)) ?_
        refine tl_c rfl (o_call bd47 rfl (Fence_c (s := s))) ?_
        rintro _ _ ⟨e42, s42, hs42, rfl, rfl⟩
        refine tl_nil ?_
        refine q_block_n ?_
        have e : rawS t s = s42 := by unfold rawS; rw [if_neg (by omega), if_neg (by omega), if_pos (by omega), hs42]
        rw [e]
        exact ⟨.tuple #[], C (Dev d s42), res0 rfl, fun _ _ h => by rw [hC]; exact Dr.sat (A' := R * Dev d s42) (by repeat (first | with_reducible exact dr_refl | apply dr_keep | apply dr_drop)) _ _ h, rfl, rfl⟩
      · try simp only [decide_eq_true_eq, decide_eq_false_iff_not, Bool.not_eq_true', Bool.not_eq_false', Option.isNone_some, Option.isNone_none, Bool.not_true, Bool.not_false] at h
        refine tc_skip ?_
        refine q_block_n ?_
        have e : rawS t s = s := by unfold rawS; rw [if_neg (by omega), if_neg (by omega), if_neg (by omega)]
        rw [e]
        exact ⟨.tuple #[], C (Dev d s), res0 rfl, fun _ _ h => by rw [hC]; exact Dr.sat (A' := R * Dev d s) (by repeat (first | with_reducible exact dr_refl | apply dr_keep | apply dr_drop)) _ _ h, rfl, rfl⟩
end Go.Vl

set_option linter.unusedVariables false
set_option linter.unusedSimpArgs false
namespace Go.Vl
open Go Go.Proofs
theorem Op9W.left {A X : SP} {t : Op9} (h : Op9W A t) : Op9W (A * X) t := ⟨h.cap, h.rs.left, h.byt, h.v, h.kcap, h.krs.left, h.kb, h.q, h.n⟩
theorem bytes_go {p r : Nat} {u : List Nat} {s : DevS} (hL : Live s) (hw : WfD s) (hl : s.ls.length = 4) (hu : ∀ x ∈ u, x < 256) (hp : p + u.length ≤ 256) (hr : Room (r + 256) s) :
    ∃ s2, bytesP (p : Int) u s = (0, s2) ∧ Live s2 ∧ WfD s2 ∧ s2.ls.length = 4 ∧ Room r s2 ∧ Ag p u s2 := by
  by_cases h0 : u = []
  · subst h0
    exact ⟨s, by unfold bytesP; rw [if_neg (by rw [hL.off]; decide), if_pos rfl], hL, hw, hl, room_le hr (by omega), fun x hx => by simp at hx⟩
  · have hpos := List.length_pos_iff.2 h0
    obtain ⟨g1, g2, g3, g4, g5, g6, _⟩ := sto_go (r := r) (p := p) (b := u) hw hL hu (room_le hr (by omega)) (by omega)
    obtain ⟨s2, k1, k2, k3, k4, k5, k6, _, k8⟩ := lastS_go (p := p) (m := u.length) g3 g4 hpos (by omega) g6
    refine ⟨s2, ?_, k3, k4, by omega, k6, k8 u rfl ?_⟩
    · unfold bytesP
      rw [if_neg (by rw [hL.off]; decide), if_neg h0, if_neg (by rw [g1]; decide)]
      exact k1
    · intro x hx
      have hil := imgS_len hw
      rw [g2, spl_at (by omega), if_pos (by omega)]; congr 1; omega
theorem room_new {n m : Nat} (h : m ≤ 2199023255551) : Room m (newS n) := fun l hl => by
  simp only [newS, List.mem_replicate] at hl; rw [hl.2]; simp [zline]; omega
theorem crS_mod {kp : List Int} {s : DevS} (h : s.off = false) : crS (kp.map (· % 1000)) s = (0, goesS (kp.map (· % 1000)) s) := by
  unfold crS
  rw [if_neg (by rw [h]; decide), if_neg]
  unfold lowB
  rw [Bool.not_eq_true, List.any_eq_false]
  intro x hx
  obtain ⟨y, _, rfl⟩ := List.mem_map.1 hx
  have := Int.emod_nonneg y (show (1000 : Int) ≠ 0 by decide)
  simp; omega
theorem mod_le {kp : List Int} : ∀ k ∈ kp.map (· % 1000), k ≤ 9223372036854775807 := fun x hx => by
  obtain ⟨y, _, rfl⟩ := List.mem_map.1 hx
  have := Int.emod_lt_of_pos y (show (0 : Int) < 1000 by decide)
  omega
theorem lasts_fin {p : Nat} {u : List Nat} {kp : List Int} {s : DevS} (hw : WfD s) (hl : s.ls.length = 4) (hp : p + u.length ≤ 256) (hA : Ag p u s) : ((imgS { goesS kp s with off := false }).drop p).take u.length = u := by
  have h1 := ag_goes kp hw hA
  have h2 := goesS_wf (keep := kp) hw
  have h3 : WfD { goesS kp s with off := false } := ⟨h2.pos, h2.top, h2.line, h2.arms, h2.after, h2.keeps⟩
  have h4 : Ag p u { goesS kp s with off := false } := h1
  exact agI_take (ag_img h4 h3 (by simp only [goesS, goPart_length]; omega))
attribute [local irreducible] Sl pt ro Dev imgS
set_option maxRecDepth 20000 in
set_option maxHeartbeats 2000000 in
theorem PersistLasts_w (F : SP) {ba a ha ka : Option Addr} {bc c hc kc : Nat} {bef beh : List Op9} {q : Int} {b : List Nat} {kp : List Int} (hrb : Rs F ba (ocs bef)) (hwb : ∀ t ∈ bef, Op9W F t) (hbl : bef.length ≤ 1048576) (hbs : ∀ t ∈ bef, t.b.length ≤ 1048576) (hrh : Rs F ha (ocs beh)) (hwh : ∀ t ∈ beh, Op9W F t) (hhl : beh.length ≤ 1048576) (hhs : ∀ t ∈ beh, t.b.length ≤ 1048576) (hr : Rs F a (bys b)) (hb : ∀ x ∈ b, x < 256) (hcap : b.length ≤ c) (hbn : b.length ≤ 1048576) (hrk : Rs F ka (ints kp)) (hkl : kp.length ≤ 1048576) :
    Fn Try.prog 12 #[.agg ([.slice ba bef.length bc, .int .i64 q, .slice a b.length c, .slice ha beh.length hc, .slice ka kp.length kc] : List Value).toArray] (F) (fun r B => r = .bool true ∧ B = F) := by
  refine fn_enterW (args := [.agg ([.slice ba bef.length bc, .int .i64 q, .slice a b.length c, .slice ha beh.length hc, .slice ka kp.length kc] : List Value).toArray]) Try.func12 rfl Try.ntmps12 (by simp) ?_
  obtain ⟨p, hp⟩ : ∃ p, p = wi q 256 := ⟨_, rfl⟩
  have hp256 : p < 256 := by rw [hp]; exact wi_lt (by decide)
  obtain ⟨u, hu⟩ : ∃ u, u = b.take (256 - p) := ⟨_, rfl⟩
  have hul : p + u.length ≤ 256 := by rw [hu, List.length_take]; omega
  have hub : ∀ x ∈ u, x < 256 := fun x hx => hb x (by rw [hu] at hx; exact List.mem_of_mem_take hx)
  have hru : Rs F a (bys u) := by rw [hu, ← bys_take]; exact hr.sub _
  have hue : u.length = min (256 - p) b.length := by rw [hu, List.length_take]
  have hn0 : WfD (newS 4) := newS_wf (by decide) (by decide)
  obtain ⟨g1, g2, g3, g4⟩ := rawL_go bef (r := 256 * beh.length + 1024) (s := newS 4) (fun t ht => (hwb t ht).byt) ⟨rfl, rfl⟩ hn0 (by simp [newS]) (room_new (by omega))
  obtain ⟨s2, hB, k1, k2, k3, k4, k5⟩ := bytes_go (p := p) (r := 256 * beh.length + 512) g1 g2 g3 hub hul (room_le g4 (by omega))
  obtain ⟨m1, m2, m3, _, m5⟩ := rawLB_go hul beh (r := 0) (fun t ht => (hwh t ht).byt) k1 k2 k3 (room_le k4 (by omega)) k5
  obtain ⟨s3, hs3⟩ : ∃ s3, s3 = rawLB p u.length beh s2 := ⟨_, rfl⟩
  rw [← hs3] at m1 m2 m3 m5
  have hfin := lasts_fin (kp := kp.map (· % 1000)) m2 m3 hul m5
  refine tc_seq ?_
  refine tc_reg ?_
  refine tl_x rfl (o_box rfl rfl) ?_
  rintro _ _ ⟨b1, rfl, rfl⟩
  refine tl_v rfl (o_assign (by conv => lhs; whnf)) ?_
  refine tl_nil ?_
  refine q_then_n ?_
  refine tc_seq ?_
  refine tc_reg ?_
  refine tl_c rfl (o_call bd51 rfl (New_c (n := 4))) ?_
  rintro _ _ ⟨d16, rfl, rfl⟩
  refine tl_v rfl (o_move (by conv => lhs; whnf)) ?_
  refine tl_v rfl (o_extract rfl rfl) ?_
  refine tl_v rfl (o_extract rfl rfl) ?_
  refine tl_v rfl (o_assign (by conv => lhs; whnf)) ?_
  refine tl_v rfl (o_assign (by conv => lhs; whnf)) ?_
  refine tl_nil ?_
  refine q_then_n ?_
  refine tc_seq ?_
  refine tc_seq ?_
  refine tc_reg ?_
  refine tl_v rfl (o_move (by conv => lhs; whnf)) ?_
  refine tl_v rfl (o_nei rfl rfl) ?_
  refine tl_v rfl (o_move (by conv => lhs; whnf)) ?_
  refine tl_bool (d := 21) rfl (fun h => ?_) (fun h => ?_)
  · (exfalso; first | (revert h; simp; done) | (simp at h; done) | (revert h; simp; omega) | (simp at h; omega) | omega)
  · try simp only [decide_eq_true_eq, decide_eq_false_iff_not, Bool.not_eq_true', Bool.not_eq_false', Option.isNone_some, Option.isNone_none, Bool.not_true, Bool.not_false] at h
    refine tl_v rfl (o_move (by conv => lhs; whnf)) ?_
    refine tl_v rfl (o_eqp Try.underlying41 rfl rfl) ?_
    refine tl_v rfl (o_pick_f rfl (by conv => lhs; whnf)) ?_
    refine tl_v rfl (o_move (by conv => lhs; whnf)) ?_
    refine tl_bool (d := 25) rfl (fun h => ?_) (fun h => ?_)
    · (exfalso; first | (revert h; simp; done) | (simp at h; done) | (revert h; simp; omega) | (simp at h; omega) | omega)
    · try simp only [decide_eq_true_eq, decide_eq_false_iff_not, Bool.not_eq_true', Bool.not_eq_false', Option.isNone_some, Option.isNone_none, Bool.not_true, Bool.not_false] at h
      refine tl_c rfl (o_call bd53 rfl (works9_c)) ?_
      rintro _ _ ⟨rfl, rfl⟩
      refine tl_v rfl (o_not rfl) ?_
      refine tl_v rfl (o_pick_f rfl (by conv => lhs; whnf)) ?_
      refine tl_nil ?_
      refine q_then_n ?_
      refine tc_cond rfl (fun h => ?_) (fun h => ?_)
      · (exfalso; first | (revert h; simp; done) | (simp at h; done) | (revert h; simp; omega) | (simp at h; omega) | omega)
      · try simp only [decide_eq_true_eq, decide_eq_false_iff_not, Bool.not_eq_true', Bool.not_eq_false', Option.isNone_some, Option.isNone_none, Bool.not_true, Bool.not_false] at h
        refine tc_skip ?_
        refine q_then_n ?_
        refine tc_seq ?_
        refine tc_seq ?_
        refine tc_reg ?_
        refine tl_v rfl (o_assign (by conv => lhs; whnf)) ?_
        refine tl_nil ?_
        refine q_then_n ?_
        refine tc_block ?_
        refine tc_loop (fun kk ρ BB => ∃ (i : Nat), (i ≤ bef.length) ∧ kk = bef.length - i ∧ ρ 5 = .int .i64 (i : Nat) ∧ ρ 1 = .pointer (some ⟨b1, 0, none⟩) ∧ ρ 3 = .pointer (some ⟨d16, 0, none⟩) ∧ BB = F * pt b1 (cl [.slice ba bef.length bc, .int .i64 q, .slice a b.length c, .slice ha beh.length hc, .slice ka kp.length kc] 100) * Dev d16 (rawL (bef.take i) (newS 4))) (m := bef.length - (0)) ?_ ?_
        · exact ⟨0, by omega, rfl, rfl, rfl, rfl, rfl⟩
        · intro k ρ B hI
          obtain ⟨i, hp0, hkk1, hE5, hE1, hE3, rfl⟩ := hI
          refine tc_env (d := 5) hE5 ?_
          refine tc_env (d := 1) hE1 ?_
          refine tc_env (d := 3) hE3 ?_
          clear hE5 hE1 hE3
          refine tc_seq ?_
          refine tc_seq ?_
          refine tc_reg ?_
          refine tl_v rfl (o_move (by conv => lhs; whnf)) ?_
          refine tl_v rfl (o_fieldAddr (o := 0) Try.underlying100 rfl rfl sz98 rfl) ?_
          refine tl_v rfl (by first | exact o_load p98 rfl (by repeat (first | with_reducible exact has_here | with_reducible exact has_pt | apply has_left)) rfl | exact o_loadC p98 rfl (by assumption)) ?_
          refine tl_v rfl (o_len Try.underlying98 rfl) ?_
          refine tl_v rfl (o_lss rfl rfl) ?_
          refine tl_nil ?_
          refine q_then_n ?_
          refine tc_cond rfl (fun h => ?_) (fun h => ?_)
          · have hi : i < bef.length := by simp at h; omega
            obtain ⟨j1, j2, j3, j4⟩ := rawL_go (bef.take i) (r := 256) (s := newS 4) (fun t ht => (hwb t (List.mem_of_mem_take ht)).byt) ⟨rfl, rfl⟩ hn0 (by simp [newS]) (room_new (by rw [List.length_take]; omega))
            refine tc_skip ?_
            refine q_then_n ?_
            refine tc_seq ?_
            refine tc_block ?_
            refine tc_reg ?_
            refine tl_v rfl (o_move (by conv => lhs; whnf)) ?_
            refine tl_v rfl (o_fieldAddr (o := 0) Try.underlying100 rfl rfl sz98 rfl) ?_
            refine tl_v rfl (by first | exact o_load p98 rfl (by repeat (first | with_reducible exact has_here | with_reducible exact has_pt | apply has_left)) rfl | exact o_loadC p98 rfl (by assumption)) ?_
            refine tl_v rfl (o_move (by conv => lhs; whnf)) ?_
            refine tl_v rfl (o_ixP Try.underlying98 sz103 rfl rfl (by omega) (by repeat (first | exact nn_rs hrb (fun _ => by first | omega | (rw [ocs_length]; omega) | (rw [ints_length]; omega)) | apply Nn.left))) ?_
            refine tl_v rfl (o_ldPN (xs := ocs bef) (vs := bef[i].cells) a103 sz103 rfl (by repeat (first | exact hrb | apply Rs.left)) (ocs_at hi) rfl (by decide)) ?_
            refine tl_c rfl (o_call bd54 rfl (raw_c (t := bef[i]) (s := rawL (bef.take i) (newS 4)) (hw := (by repeat (first | exact (hwb _ (List.getElem_mem hi)) | apply Op9W.left))) (hl := j3) (hroom := j4) (hbl := hbs _ (List.getElem_mem hi)))) ?_
            rintro _ _ ⟨rfl, rfl⟩
            refine tl_nil ?_
            refine q_block_n (q_then_n ?_)
            refine tc_reg ?_
            refine tl_v rfl (o_move (by conv => lhs; whnf)) ?_
            refine tl_v rfl (by first | exact o_addI rfl rfl (by omega) | exact o_add rfl rfl) ?_
            refine tl_v rfl (o_assign (by conv => lhs; whnf)) ?_
            refine tl_nil ?_
            refine q_then_n ?_
            exact ⟨_, by omega, i + 1, by omega, rfl, rfl, rfl, rfl, (by rw [rawL_succ hi])⟩
          · obtain rfl : i = bef.length := by simp at h; omega
            rw [List.take_length]
            refine tc_exit ?_
            refine q_then_e (q_then_e (q_block_x (q_then_n ?_)))
            refine tc_seq ?_
            refine tc_reg ?_
            refine tl_v rfl (o_fieldAddr (o := 1) Try.underlying100 rfl rfl sz3 rfl) ?_
            refine tl_v rfl (by first | exact o_load p3 rfl (by repeat (first | with_reducible exact has_here | with_reducible exact has_pt | apply has_left)) rfl | exact o_loadC p3 rfl (by assumption)) ?_
            refine tl_c rfl (o_call bd55 rfl (Within_c)) ?_
            rintro _ _ ⟨rfl, rfl⟩
            refine tl_v rfl (o_assign (by conv => lhs; whnf)) ?_
            refine tl_env (d := 6) (v := .int .i64 ((p : Nat) : Int)) ((wi_val' (by decide)).trans (congrArg (fun z : Nat => Value.int .i64 (z : Int)) hp.symm)) ?_
            refine tl_nil ?_
            refine q_then_n ?_
            refine tc_seq ?_
            refine tc_reg ?_
            refine tl_v rfl (o_fieldAddr (o := 2) Try.underlying100 rfl rfl sz28 rfl) ?_
            refine tl_v rfl (by first | exact o_load p28 rfl (by repeat (first | with_reducible exact has_here | with_reducible exact has_pt | apply has_left)) rfl | exact o_loadC p28 rfl (by assumption)) ?_
            refine tl_v rfl (o_assign (by conv => lhs; whnf)) ?_
            refine tl_nil ?_
            refine q_then_n ?_
            refine tc_seq ?_
            refine tc_seq ?_
            refine tc_reg ?_
            refine tl_v rfl (o_move (by conv => lhs; whnf)) ?_
            refine tl_v rfl (o_len Try.underlying28 rfl) ?_
            refine tl_v rfl (o_move (by conv => lhs; whnf)) ?_
            refine tl_v rfl (by first | exact o_subI rfl rfl (by omega) | exact o_sub rfl rfl) ?_
            refine tl_v rfl (o_gtr rfl rfl) ?_
            refine tl_nil ?_
            refine q_then_n ?_
            refine tc_cut (fun ρ BB => ρ 7 = .slice a u.length c ∧ ρ 1 = .pointer (some ⟨b1, 0, none⟩) ∧ ρ 3 = .pointer (some ⟨d16, 0, none⟩) ∧ ρ 6 = .int .i64 ((p : Nat) : Int) ∧ BB = F * pt b1 (cl [.slice ba bef.length bc, .int .i64 q, .slice a b.length c, .slice ha beh.length hc, .slice ka kp.length kc] 100) * Dev d16 (rawL bef (newS 4))) ?_ ?_
            · skip
              refine tc_cond rfl (fun h => ?_) (fun h => ?_)
              · try simp only [decide_eq_true_eq, decide_eq_false_iff_not, Bool.not_eq_true', Bool.not_eq_false', Option.isNone_some, Option.isNone_none, Bool.not_true, Bool.not_false] at h
                refine tc_reg ?_
                refine tl_v rfl (o_move (by conv => lhs; whnf)) ?_
                refine tl_v rfl (o_move (by conv => lhs; whnf)) ?_
                refine tl_v rfl (by first | exact o_subI rfl rfl (by omega) | exact o_sub rfl rfl) ?_
                refine tl_v rfl (o_slice Try.underlying28 sz5 rfl bnd_none (bnd_some rfl (by omega)) (by omega) (by omega)) ?_
                refine tl_v rfl (o_assign (by conv => lhs; whnf)) ?_
                refine tl_nil ?_
                exact ⟨by first | (show Value.slice (cutAddr a c 0 1) _ _ = _; rw [cut_none]; exact congrArg (fun z => Value.slice a z c) (by omega)) | exact congrArg (fun z => Value.slice a z c) (by omega), rfl, rfl, rfl, rfl⟩
              · try simp only [decide_eq_true_eq, decide_eq_false_iff_not, Bool.not_eq_true', Bool.not_eq_false', Option.isNone_some, Option.isNone_none, Bool.not_true, Bool.not_false] at h
                refine tc_skip ?_
                exact ⟨by first | (show Value.slice (cutAddr a c 0 1) _ _ = _; rw [cut_none]; exact congrArg (fun z => Value.slice a z c) (by omega)) | exact congrArg (fun z => Value.slice a z c) (by omega), rfl, rfl, rfl, rfl⟩
            · intro ρ B hI
              obtain ⟨hE7, hE1, hE3, hE6, rfl⟩ := hI
              refine q_then_n ?_
              refine tc_env (d := 7) hE7 ?_
              refine tc_env (d := 1) hE1 ?_
              refine tc_env (d := 3) hE3 ?_
              refine tc_env (d := 6) hE6 ?_
              clear hE7 hE1 hE3 hE6
              refine tc_seq ?_
              refine tc_seq ?_
              refine tc_reg ?_
              refine tl_v rfl (o_move (by conv => lhs; whnf)) ?_
              refine tl_v rfl (o_move (by conv => lhs; whnf)) ?_
              refine tl_v rfl (o_move (by conv => lhs; whnf)) ?_
              refine tl_c rfl (o_call bd39 rfl (CopyBytes_c (xs := u) (hr := (by repeat (first | exact hru | apply Rs.left))))) ?_
              rintro _ _ ⟨a60, c60, rfl, hc60, rfl⟩
              refine tl_c rfl (o_call bd56 rfl (Bytes_k (xs := u) (hr := rs_sl) (he := hB) (hroom := fun _ => room_le g4 (by omega)))) ?_
              rintro _ _ ⟨rfl, rfl⟩
              refine tl_v rfl (o_nei rfl rfl) ?_
              refine tl_nil ?_
              refine q_then_n ?_
              refine tc_cond rfl (fun h => ?_) (fun h => ?_)
              · exfalso; simp at h
              · try simp only [decide_eq_true_eq, decide_eq_false_iff_not, Bool.not_eq_true', Bool.not_eq_false', Option.isNone_some, Option.isNone_none, Bool.not_true, Bool.not_false] at h
                refine tc_skip ?_
                refine q_then_n ?_
                refine tc_seq ?_
                refine tc_seq ?_
                refine tc_pre (Dr.sat (A' := F * pt b1 (cl [.slice ba bef.length bc, .int .i64 q, .slice a b.length c, .slice ha beh.length hc, .slice ka kp.length kc] 100) * Dev d16 s2) (by repeat (first | with_reducible exact dr_refl | apply dr_keep | apply dr_drop))) ?_
                refine tc_reg ?_
                refine tl_v rfl (o_assign (by conv => lhs; whnf)) ?_
                refine tl_nil ?_
                refine q_then_n ?_
                refine tc_block ?_
                refine tc_loop (fun kk ρ BB => ∃ (i : Nat), (i ≤ beh.length) ∧ kk = beh.length - i ∧ ρ 8 = .int .i64 (i : Nat) ∧ ρ 1 = .pointer (some ⟨b1, 0, none⟩) ∧ ρ 3 = .pointer (some ⟨d16, 0, none⟩) ∧ ρ 6 = .int .i64 ((p : Nat) : Int) ∧ ρ 7 = .slice a u.length c ∧ BB = F * pt b1 (cl [.slice ba bef.length bc, .int .i64 q, .slice a b.length c, .slice ha beh.length hc, .slice ka kp.length kc] 100) * Dev d16 (rawLB p u.length (beh.take i) s2)) (m := beh.length - (0)) ?_ ?_
                · exact ⟨0, by omega, rfl, rfl, rfl, rfl, rfl, rfl, rfl⟩
                · intro k ρ B hI
                  obtain ⟨i, hp0, hkk2, hE8, hE1, hE3, hE6, hE7, rfl⟩ := hI
                  refine tc_env (d := 8) hE8 ?_
                  refine tc_env (d := 1) hE1 ?_
                  refine tc_env (d := 3) hE3 ?_
                  refine tc_env (d := 6) hE6 ?_
                  refine tc_env (d := 7) hE7 ?_
                  clear hE8 hE1 hE3 hE6 hE7
                  refine tc_seq ?_
                  refine tc_seq ?_
                  refine tc_reg ?_
                  refine tl_v rfl (o_move (by conv => lhs; whnf)) ?_
                  refine tl_v rfl (o_fieldAddr (o := 3) Try.underlying100 rfl rfl sz98 rfl) ?_
                  refine tl_v rfl (by first | exact o_load p98 rfl (by repeat (first | with_reducible exact has_here | with_reducible exact has_pt | apply has_left)) rfl | exact o_loadC p98 rfl (by assumption)) ?_
                  refine tl_v rfl (o_len Try.underlying98 rfl) ?_
                  refine tl_v rfl (o_lss rfl rfl) ?_
                  refine tl_nil ?_
                  refine q_then_n ?_
                  refine tc_cond rfl (fun h => ?_) (fun h => ?_)
                  · have hi : i < beh.length := by simp at h; omega
                    obtain ⟨j1, j2, j3, j4, _⟩ := rawLB_go hul (beh.take i) (r := 256) (fun t ht => (hwh t (List.mem_of_mem_take ht)).byt) k1 k2 k3 (room_le k4 (by rw [List.length_take]; omega)) k5
                    have hbi := hhs _ (List.getElem_mem hi)
                    refine tc_skip ?_
                    refine q_then_n ?_
                    refine tc_seq ?_
                    refine tc_block ?_
                    refine tc_seq ?_
                    refine tc_reg ?_
                    refine tl_v rfl (o_fieldAddr (o := 3) Try.underlying100 rfl rfl sz98 rfl) ?_
                    refine tl_v rfl (by first | exact o_load p98 rfl (by repeat (first | with_reducible exact has_here | with_reducible exact has_pt | apply has_left)) rfl | exact o_loadC p98 rfl (by assumption)) ?_
                    refine tl_v rfl (o_move (by conv => lhs; whnf)) ?_
                    refine tl_v rfl (o_ixP Try.underlying98 sz103 rfl rfl (by omega) (by repeat (first | exact nn_rs hrh (fun _ => by first | omega | (rw [ocs_length]; omega) | (rw [ints_length]; omega)) | apply Nn.left))) ?_
                    refine tl_v rfl (o_ldPN (xs := ocs beh) (vs := beh[i].cells) a103 sz103 rfl (by repeat (first | exact hrh | apply Rs.left)) (ocs_at hi) rfl (by decide)) ?_
                    refine tl_x rfl (o_alloc z103 rfl) ?_
                    rintro _ _ ⟨b9, rfl, rfl⟩
                    refine tl_u rfl (o_stUN (l' := beh[i].cells) rfl (by repeat (first | with_reducible exact upd_here | with_reducible exact upd_pt | apply upd_left)) sz103 rfl rfl rfl (by simp) rfl) ?_
                    refine tl_nil ?_
                    refine q_then_n ?_
                    refine tc_seq ?_
                    refine tc_reg ?_
                    refine tl_v rfl (o_fieldAddr (o := 1) Try.underlying103 rfl rfl sz3 rfl) ?_
                    refine tl_v rfl (by first | exact o_load p3 rfl (by repeat (first | with_reducible exact has_here | with_reducible exact has_pt | apply has_left)) rfl | exact o_loadC p3 rfl (by assumption)) ?_
                    refine tl_c rfl (o_call bd55 rfl (Within_c)) ?_
                    rintro _ _ ⟨rfl, rfl⟩
                    refine tl_v rfl (o_assign (by conv => lhs; whnf)) ?_
                    refine tl_env (d := 10) (v := .int .i64 ((wi beh[i].q 256 : Nat) : Int)) (wi_val' (by decide)) ?_
                    refine tl_nil ?_
                    refine q_then_n ?_
                    refine tc_seq ?_
                    refine tc_seq ?_
                    refine tc_reg ?_
                    refine tl_v rfl (o_fieldAddr (o := 0) Try.underlying103 rfl rfl sz3 rfl) ?_
                    refine tl_v rfl (by first | exact o_load p3 rfl (by repeat (first | with_reducible exact has_here | with_reducible exact has_pt | apply has_left)) rfl | exact o_loadC p3 rfl (by assumption)) ?_
                    refine tl_v rfl (o_eqi rfl rfl) ?_
                    refine tl_v rfl (o_move (by conv => lhs; whnf)) ?_
                    refine tl_bool (d := 81) rfl (fun h => ?_) (fun h => ?_)
                    · have hk : beh[i].k = 7 := by simpa using h
                      refine tl_v rfl (o_move (by conv => lhs; whnf)) ?_
                      refine tl_v rfl (o_move (by conv => lhs; whnf)) ?_
                      refine tl_v rfl (o_move (by conv => lhs; whnf)) ?_
                      refine tl_v rfl (o_len Try.underlying28 rfl) ?_
                      refine tl_v rfl (by first | exact o_addI rfl rfl (by omega) | exact o_add rfl rfl) ?_
                      refine tl_v rfl (o_lss rfl rfl) ?_
                      refine tl_v rfl (o_pick_t rfl (by conv => lhs; whnf)) ?_
                      refine tl_v rfl (o_move (by conv => lhs; whnf)) ?_
                      refine tl_bool (d := 89) rfl (fun h => ?_) (fun h => ?_)
                      · have hk2 : wi beh[i].q 256 < p + u.length := by simp at h; omega
                        refine tl_v rfl (o_move (by conv => lhs; whnf)) ?_
                        refine tl_v rfl (o_fieldAddr (o := 3) Try.underlying103 rfl rfl sz28 rfl) ?_
                        refine tl_v rfl (by first | exact o_load p28 rfl (by repeat (first | with_reducible exact has_here | with_reducible exact has_pt | apply has_left)) rfl | exact o_loadC p28 rfl (by assumption)) ?_
                        refine tl_v rfl (o_len Try.underlying28 rfl) ?_
                        refine tl_v rfl (by first | exact o_addI rfl rfl (by omega) | exact o_add rfl rfl) ?_
                        refine tl_v rfl (o_move (by conv => lhs; whnf)) ?_
                        refine tl_v rfl (o_gtr rfl rfl) ?_
                        refine tl_v rfl (o_pick_t rfl (by conv => lhs; whnf)) ?_
                        refine tl_nil ?_
                        refine q_then_n ?_
                        refine tc_cond rfl (fun h => ?_) (fun h => ?_)
                        · have hk3 : p < wi beh[i].q 256 + beh[i].b.length := by simp at h; omega
                          have hstep : rawLB p u.length (beh.take (i + 1)) s2 = rawLB p u.length (beh.take i) s2 := by rw [rawLB_succ hi]; exact if_pos ⟨by omega, by omega, by omega⟩
                          refine tc_exit ?_
                          refine q_then_e (q_block_x (q_then_n ?_))
                          refine tc_pre (Dr.sat (A' := F * pt b1 (cl [.slice ba bef.length bc, .int .i64 q, .slice a b.length c, .slice ha beh.length hc, .slice ka kp.length kc] 100) * Dev d16 _) (by repeat (first | with_reducible exact dr_refl | apply dr_keep | apply dr_drop))) ?_
                          refine tc_reg ?_
                          refine tl_v rfl (o_move (by conv => lhs; whnf)) ?_
                          refine tl_v rfl (by first | exact o_addI rfl rfl (by omega) | exact o_add rfl rfl) ?_
                          refine tl_v rfl (o_assign (by conv => lhs; whnf)) ?_
                          refine tl_nil ?_
                          refine q_then_n ?_
                          exact ⟨_, by omega, i + 1, by omega, rfl, rfl, rfl, rfl, rfl, rfl, (by rw [hstep])⟩
                        · have hk3 : ¬ p < wi beh[i].q 256 + beh[i].b.length := by simp at h; omega
                          have hstep : rawLB p u.length (beh.take (i + 1)) s2 = rawS beh[i] (rawLB p u.length (beh.take i) s2) := by rw [rawLB_succ hi]; exact if_neg (by omega)
                          refine tc_skip ?_
                          refine q_then_n ?_
                          refine tc_reg ?_
                          refine tl_v rfl (o_move (by conv => lhs; whnf)) ?_
                          refine tl_v rfl (o_loadN (vs := beh[i].cells) a103 sz103 rfl (by repeat (first | with_reducible exact has_here | with_reducible exact has_pt | apply has_left)) (by show 6 ≤ 6; decide) rfl) ?_
                          refine tl_c rfl (o_call bd54 rfl (raw_c (t := beh[i]) (s := rawLB p u.length (beh.take i) s2) (hw := (by repeat (first | exact (hwh _ (List.getElem_mem hi)) | apply Op9W.left))) (hl := j3) (hroom := j4) (hbl := hbi))) ?_
                          rintro _ _ ⟨rfl, rfl⟩
                          refine tl_nil ?_
                          refine q_block_n (q_then_n ?_)
                          refine tc_pre (Dr.sat (A' := F * pt b1 (cl [.slice ba bef.length bc, .int .i64 q, .slice a b.length c, .slice ha beh.length hc, .slice ka kp.length kc] 100) * Dev d16 _) (by repeat (first | with_reducible exact dr_refl | apply dr_keep | apply dr_drop))) ?_
                          refine tc_reg ?_
                          refine tl_v rfl (o_move (by conv => lhs; whnf)) ?_
                          refine tl_v rfl (by first | exact o_addI rfl rfl (by omega) | exact o_add rfl rfl) ?_
                          refine tl_v rfl (o_assign (by conv => lhs; whnf)) ?_
                          refine tl_nil ?_
                          refine q_then_n ?_
                          exact ⟨_, by omega, i + 1, by omega, rfl, rfl, rfl, rfl, rfl, rfl, (by rw [hstep])⟩
                      · have hk2 : ¬ wi beh[i].q 256 < p + u.length := by simp at h; omega
                        have hstep : rawLB p u.length (beh.take (i + 1)) s2 = rawS beh[i] (rawLB p u.length (beh.take i) s2) := by rw [rawLB_succ hi]; exact if_neg (by omega)
                        refine tl_skip rfl ?_
                        refine tl_skip rfl ?_
                        refine tl_skip rfl ?_
                        refine tl_skip rfl ?_
                        refine tl_skip rfl ?_
                        refine tl_skip rfl ?_
                        refine tl_skip rfl ?_
                        refine tl_v rfl (o_pick_f rfl (by conv => lhs; whnf)) ?_
                        refine tl_nil ?_
                        refine q_then_n ?_
                        refine tc_cond_f rfl ?_
                        refine tc_skip ?_
                        refine q_then_n ?_
                        refine tc_reg ?_
                        refine tl_v rfl (o_move (by conv => lhs; whnf)) ?_
                        refine tl_v rfl (o_loadN (vs := beh[i].cells) a103 sz103 rfl (by repeat (first | with_reducible exact has_here | with_reducible exact has_pt | apply has_left)) (by show 6 ≤ 6; decide) rfl) ?_
                        refine tl_c rfl (o_call bd54 rfl (raw_c (t := beh[i]) (s := rawLB p u.length (beh.take i) s2) (hw := (by repeat (first | exact (hwh _ (List.getElem_mem hi)) | apply Op9W.left))) (hl := j3) (hroom := j4) (hbl := hbi))) ?_
                        rintro _ _ ⟨rfl, rfl⟩
                        refine tl_nil ?_
                        refine q_block_n (q_then_n ?_)
                        refine tc_pre (Dr.sat (A' := F * pt b1 (cl [.slice ba bef.length bc, .int .i64 q, .slice a b.length c, .slice ha beh.length hc, .slice ka kp.length kc] 100) * Dev d16 _) (by repeat (first | with_reducible exact dr_refl | apply dr_keep | apply dr_drop))) ?_
                        refine tc_reg ?_
                        refine tl_v rfl (o_move (by conv => lhs; whnf)) ?_
                        refine tl_v rfl (by first | exact o_addI rfl rfl (by omega) | exact o_add rfl rfl) ?_
                        refine tl_v rfl (o_assign (by conv => lhs; whnf)) ?_
                        refine tl_nil ?_
                        refine q_then_n ?_
                        exact ⟨_, by omega, i + 1, by omega, rfl, rfl, rfl, rfl, rfl, rfl, (by rw [hstep])⟩
                    · have hk : ¬ beh[i].k = 7 := by simpa using h
                      have hstep : rawLB p u.length (beh.take (i + 1)) s2 = rawS beh[i] (rawLB p u.length (beh.take i) s2) := by rw [rawLB_succ hi]; exact if_neg (by omega)
                      refine tl_skip rfl ?_
                      refine tl_skip rfl ?_
                      refine tl_skip rfl ?_
                      refine tl_skip rfl ?_
                      refine tl_skip rfl ?_
                      refine tl_skip rfl ?_
                      refine tl_v rfl (o_pick_f rfl (by conv => lhs; whnf)) ?_
                      refine tl_v rfl (o_move (by conv => lhs; whnf)) ?_
                      refine tl_skip rfl ?_
                      refine tl_skip rfl ?_
                      refine tl_skip rfl ?_
                      refine tl_skip rfl ?_
                      refine tl_skip rfl ?_
                      refine tl_skip rfl ?_
                      refine tl_skip rfl ?_
                      refine tl_v rfl (o_pick_f rfl (by conv => lhs; whnf)) ?_
                      refine tl_nil ?_
                      refine q_then_n ?_
                      refine tc_cond_f rfl ?_
                      refine tc_skip ?_
                      refine q_then_n ?_
                      refine tc_reg ?_
                      refine tl_v rfl (o_move (by conv => lhs; whnf)) ?_
                      refine tl_v rfl (o_loadN (vs := beh[i].cells) a103 sz103 rfl (by repeat (first | with_reducible exact has_here | with_reducible exact has_pt | apply has_left)) (by show 6 ≤ 6; decide) rfl) ?_
                      refine tl_c rfl (o_call bd54 rfl (raw_c (t := beh[i]) (s := rawLB p u.length (beh.take i) s2) (hw := (by repeat (first | exact (hwh _ (List.getElem_mem hi)) | apply Op9W.left))) (hl := j3) (hroom := j4) (hbl := hbi))) ?_
                      rintro _ _ ⟨rfl, rfl⟩
                      refine tl_nil ?_
                      refine q_block_n (q_then_n ?_)
                      refine tc_pre (Dr.sat (A' := F * pt b1 (cl [.slice ba bef.length bc, .int .i64 q, .slice a b.length c, .slice ha beh.length hc, .slice ka kp.length kc] 100) * Dev d16 _) (by repeat (first | with_reducible exact dr_refl | apply dr_keep | apply dr_drop))) ?_
                      refine tc_reg ?_
                      refine tl_v rfl (o_move (by conv => lhs; whnf)) ?_
                      refine tl_v rfl (by first | exact o_addI rfl rfl (by omega) | exact o_add rfl rfl) ?_
                      refine tl_v rfl (o_assign (by conv => lhs; whnf)) ?_
                      refine tl_nil ?_
                      refine q_then_n ?_
                      exact ⟨_, by omega, i + 1, by omega, rfl, rfl, rfl, rfl, rfl, rfl, (by rw [hstep])⟩
                  · obtain rfl : i = beh.length := by simp at h; omega
                    rw [List.take_length, ← hs3]
                    refine tc_exit ?_
                    refine q_then_e (q_then_e (q_block_x (q_then_n ?_)))
                    refine tc_seq ?_
                    refine tc_reg ?_
                    refine tl_v rfl (o_assign (by conv => lhs; whnf)) ?_
                    refine tl_nil ?_
                    refine q_then_n ?_
                    refine tc_seq ?_
                    refine tc_seq ?_
                    refine tc_reg ?_
                    refine tl_v rfl (o_assign (by conv => lhs; whnf)) ?_
                    refine tl_nil ?_
                    refine q_then_n ?_
                    refine tc_block ?_
                    refine tc_pre (fun _ _ h => sl_nil (k := 1) h) ?_
                    refine tc_loop (fun kk ρ BB => ∃ (i : Nat) (a11 : Option Addr) (c11 : Nat), (i ≤ kp.length) ∧ kk = kp.length - i ∧ ρ 11 = .slice a11 i c11 ∧ ρ 12 = .int .i64 (i : Nat) ∧ ρ 1 = .pointer (some ⟨b1, 0, none⟩) ∧ ρ 3 = .pointer (some ⟨d16, 0, none⟩) ∧ ρ 6 = .int .i64 ((p : Nat) : Int) ∧ ρ 7 = .slice a u.length c ∧ BB = F * pt b1 (cl [.slice ba bef.length bc, .int .i64 q, .slice a b.length c, .slice ha beh.length hc, .slice ka kp.length kc] 100) * Dev d16 s3 * Sl 1 (.slice a11 i c11) i (ints ((kp.take i).map (· % 1000)))) (m := kp.length - (0)) ?_ ?_
                    · exact ⟨0, none, 0, by omega, rfl, rfl, rfl, rfl, rfl, rfl, rfl, rfl⟩
                    · intro k ρ B hI
                      obtain ⟨i, a11, c11, hp0, hkk3, hE11, hE12, hE1, hE3, hE6, hE7, rfl⟩ := hI
                      refine tc_env (d := 11) hE11 ?_
                      refine tc_env (d := 12) hE12 ?_
                      refine tc_env (d := 1) hE1 ?_
                      refine tc_env (d := 3) hE3 ?_
                      refine tc_env (d := 6) hE6 ?_
                      refine tc_env (d := 7) hE7 ?_
                      clear hE11 hE12 hE1 hE3 hE6 hE7
                      refine tc_seq ?_
                      refine tc_seq ?_
                      refine tc_reg ?_
                      refine tl_v rfl (o_move (by conv => lhs; whnf)) ?_
                      refine tl_v rfl (o_fieldAddr (o := 4) Try.underlying100 rfl rfl sz37 rfl) ?_
                      refine tl_v rfl (by first | exact o_load p37 rfl (by repeat (first | with_reducible exact has_here | with_reducible exact has_pt | apply has_left)) rfl | exact o_loadC p37 rfl (by assumption)) ?_
                      refine tl_v rfl (o_len Try.underlying37 rfl) ?_
                      refine tl_v rfl (o_lss rfl rfl) ?_
                      refine tl_nil ?_
                      refine q_then_n ?_
                      refine tc_cond rfl (fun h => ?_) (fun h => ?_)
                      · have hi : i < kp.length := by simp at h; omega
                        refine tc_skip ?_
                        refine q_then_n ?_
                        refine tc_seq ?_
                        refine tc_block ?_
                        refine tc_reg ?_
                        refine tl_v rfl (o_move (by conv => lhs; whnf)) ?_
                        refine tl_v rfl (o_fieldAddr (o := 4) Try.underlying100 rfl rfl sz37 rfl) ?_
                        refine tl_v rfl (by first | exact o_load p37 rfl (by repeat (first | with_reducible exact has_here | with_reducible exact has_pt | apply has_left)) rfl | exact o_loadC p37 rfl (by assumption)) ?_
                        refine tl_v rfl (o_move (by conv => lhs; whnf)) ?_
                        refine tl_v rfl (o_ixP1 Try.underlying37 sz3 rfl rfl (by omega) (by repeat (first | exact nn_rs hrk (fun _ => by first | omega | (rw [ocs_length]; omega) | (rw [ints_length]; omega)) | apply Nn.left))) ?_
                        refine tl_v rfl (o_ldP p3 rfl (by repeat (first | exact hrk | apply Rs.left)) (ints_at hi)) ?_
                        refine tl_c rfl (o_call bd55 rfl (Within_c)) ?_
                        rintro _ _ ⟨rfl, rfl⟩
                        refine tl_x rfl (o_buildSlice1 Try.underlying37 sz3 z3 (by conv => lhs; whnf) rfl) ?_
                        rintro _ _ ⟨b115, rfl, rfl⟩
                        refine tl_x rfl (o_apB Try.underlying37 Try.underlying37 sz3 by3 z3 rfl (by decide) (by decide) rfl rfl rfl (by repeat (first | with_reducible exact ct_here | apply ct_left)) rfl (by first | exact bys_all _ | exact ints_all _ | exact wds_all _ | exact bos_all _ | rfl) (by first | omega | (simp only [bys_length, ints_length, wds_length, bos_length, List.length_append, List.length_take, List.length_drop, List.length_singleton]; omega)) (by first | exact bys_sn _ _ | exact ints_sn _ _ | exact wds_sn _ _ | exact bos_sn _ _ | exact (bys_append _ _).symm | rfl)) ?_
                        rintro _ _ ⟨a116, c116, rfl, hc116, rfl⟩
                        refine tl_v rfl (o_assign (by conv => lhs; whnf)) ?_
                        refine tl_nil ?_
                        refine q_block_n (q_then_n ?_)
                        refine tc_reg ?_
                        refine tl_v rfl (o_move (by conv => lhs; whnf)) ?_
                        refine tl_v rfl (by first | exact o_addI rfl rfl (by omega) | exact o_add rfl rfl) ?_
                        refine tl_v rfl (o_assign (by conv => lhs; whnf)) ?_
                        refine tl_nil ?_
                        refine q_then_n ?_
                        exact ⟨_, by omega, i + 1, _, _, by omega, rfl, rfl, rfl, rfl, rfl, rfl, rfl, (by rw [List.take_succ_eq_append_getElem hi, List.map_append]; rfl)⟩
                      · obtain rfl : i = kp.length := by simp at h; omega
                        rw [List.take_length]
                        refine tc_exit ?_
                        refine q_then_e (q_then_e (q_block_x (q_then_n ?_)))
                        refine tc_seq ?_
                        refine tc_seq ?_
                        refine tc_reg ?_
                        refine tl_v rfl (o_move (by conv => lhs; whnf)) ?_
                        refine tl_v rfl (o_move (by conv => lhs; whnf)) ?_
                        refine tl_c rfl (o_call bd28 rfl (Crash_k (keep := kp.map (· % 1000)) (hr := rs_sl) (hk := mod_le) (hm := List.length_map _) (he := crS_mod m1.off))) ?_
                        rintro _ _ ⟨rfl, rfl⟩
                        refine tl_v rfl (o_nei rfl rfl) ?_
                        refine tl_v rfl (o_move (by conv => lhs; whnf)) ?_
                        refine tl_bool (d := 121) rfl (fun h => ?_) (fun h => ?_)
                        · (exfalso; first | (revert h; simp; done) | (simp at h; done) | (revert h; simp; omega) | (simp at h; omega) | omega)
                        · try simp only [decide_eq_true_eq, decide_eq_false_iff_not, Bool.not_eq_true', Bool.not_eq_false', Option.isNone_some, Option.isNone_none, Bool.not_true, Bool.not_false] at h
                          refine tl_v rfl (o_move (by conv => lhs; whnf)) ?_
                          refine tl_c rfl (o_call bd32 rfl (Wake_c (s := goesS (kp.map (· % 1000)) s3))) ?_
                          rintro _ _ ⟨rfl, rfl⟩
                          refine tl_env (d := 123) (v := .int .i64 0) (rfl) ?_
                          refine tl_v rfl (o_nei rfl rfl) ?_
                          refine tl_v rfl (o_pick_f rfl (by conv => lhs; whnf)) ?_
                          refine tl_nil ?_
                          refine q_then_n ?_
                          refine tc_cond rfl (fun h => ?_) (fun h => ?_)
                          · (exfalso; first | (revert h; simp; done) | (simp at h; done) | (revert h; simp; omega) | (simp at h; omega) | omega)
                          · try simp only [decide_eq_true_eq, decide_eq_false_iff_not, Bool.not_eq_true', Bool.not_eq_false', Option.isNone_some, Option.isNone_none, Bool.not_true, Bool.not_false] at h
                            refine tc_skip ?_
                            refine q_then_n ?_
                            refine tc_seq ?_
                            refine tc_reg ?_
                            refine tl_v rfl (o_move (by conv => lhs; whnf)) ?_
                            refine tl_v rfl (o_move (by conv => lhs; whnf)) ?_
                            refine tl_v rfl (o_move (by conv => lhs; whnf)) ?_
                            refine tl_v rfl (o_len Try.underlying28 rfl) ?_
                            refine tl_c rfl (o_call bd27 rfl (Load_c (s := { goesS (kp.map (· % 1000)) s3 with off := false }) (p := p) (m := u.length) (hoff := rfl) (hpm := by simp only [goesS, goPart_length]; omega))) ?_
                            rintro _ _ ⟨a131, c131, rfl, hc131, rfl⟩
                            refine tl_v rfl (o_move (by conv => lhs; whnf)) ?_
                            refine tl_v rfl (o_extract rfl rfl) ?_
                            refine tl_v rfl (o_extract rfl rfl) ?_
                            refine tl_v rfl (o_assign (by conv => lhs; whnf)) ?_
                            refine tl_v rfl (o_assign (by conv => lhs; whnf)) ?_
                            refine tl_nil ?_
                            refine q_then_n ?_
                            refine tc_seq ?_
                            refine tc_reg ?_
                            refine tl_v rfl (o_move (by conv => lhs; whnf)) ?_
                            refine tl_v rfl (o_eqi rfl rfl) ?_
                            refine tl_v rfl (o_move (by conv => lhs; whnf)) ?_
                            refine tl_bool (d := 136) rfl (fun h => ?_) (fun h => ?_)
                            · try simp only [decide_eq_true_eq, decide_eq_false_iff_not, Bool.not_eq_true', Bool.not_eq_false', Option.isNone_some, Option.isNone_none, Bool.not_true, Bool.not_false] at h
                              refine tl_v rfl (o_move (by conv => lhs; whnf)) ?_
                              refine tl_v rfl (o_move (by conv => lhs; whnf)) ?_
                              refine tl_c rfl (o_call bd22 rfl (EqBytes_c (xs := ((imgS { goesS (kp.map (· % 1000)) s3 with off := false }).drop p).take u.length) (ys := u) (hx := by rw [hfin]) (h2 := (by repeat (first | exact hru | apply Rs.left))))) ?_
                              rintro _ _ ⟨rfl, rfl⟩
                              refine tl_env (d := 139) (v := .bool true) (congrArg Value.bool (decide_eq_true hfin)) ?_
                              refine tl_v rfl (o_pick_t rfl (by conv => lhs; whnf)) ?_
                              refine tl_v rfl (o_assign (by conv => lhs; whnf)) ?_
                              refine tl_nil ?_
                              refine q_then_n ?_
                              refine tc_ret ?_
                              exact ⟨.bool true, F, res1 rfl rfl, Dr.sat (by repeat (first | with_reducible exact dr_refl | apply dr_keep | apply dr_drop)), rfl, rfl⟩
                            · (exfalso; first | (revert h; simp; done) | (simp at h; done) | (revert h; simp; omega) | (simp at h; omega) | omega)
theorem five_of' {α : Type} : ∀ {l : List α}, l.length = 5 → ∃ a b c d e, l = [a, b, c, d, e]
  | [a, b, c, d, e], _ => ⟨a, b, c, d, e, rfl⟩
/-- What PersistLasts is handed. -/
structure RgC where
  ba : Option Addr
  bc : Nat
  bef : List Op9
  q : Int
  a : Option Addr
  c : Nat
  b : List Nat
  ha : Option Addr
  hc : Nat
  beh : List Op9
  ka : Option Addr
  kc : Nat
  kp : List Int
def RgC.cells (t : RgC) : List Value := [.slice t.ba t.bef.length t.bc, .int .i64 t.q, .slice t.a t.b.length t.c, .slice t.ha t.beh.length t.hc, .slice t.ka t.kp.length t.kc]
structure RgW (A : SP) (t : RgC) : Prop where
  hrb : Rs A t.ba (ocs t.bef)
  hwb : ∀ x ∈ t.bef, Op9W A x
  hrh : Rs A t.ha (ocs t.beh)
  hwh : ∀ x ∈ t.beh, Op9W A x
  hr : Rs A t.a (bys t.b)
  hb : ∀ x ∈ t.b, x < 256
  hcap : t.b.length ≤ t.c
  hrk : Rs A t.ka (ints t.kp)
set_option maxRecDepth 20000 in
theorem rdu_rg (W : World) : Rdu Try.prog W 100 (fun cs (t : RgC) => cs = t.cells ∧ RgW (old W) t) (fun t => szL Op9.sz t.bef + szL Op9.sz t.beh + t.b.length + t.kp.length) := fun H enc sp hd fu cs d pl h => by
  obtain ⟨hl, Ds, hD, hs, hf⟩ := rdu_fields Try.underlying100 h
  have hc : Try.prog.cellsOf 100 = 5 := by kernel_rfl
  have hci : Try.prog.cellsOf 3 = 1 := by kernel_rfl
  have hcb : Try.prog.cellsOf 28 = 1 := by kernel_rfl
  have hck : Try.prog.cellsOf 37 = 1 := by kernel_rfl
  have hco : Try.prog.cellsOf 98 = 1 := by kernel_rfl
  rw [hc] at hl
  obtain ⟨bef, D0, h0, ⟨ba, bc, e0, g0, r0, w0⟩, s0⟩ := hf 0 _ rfl (rdu_ops W)
  obtain ⟨q, D1, _, ⟨e1, _⟩, _⟩ := hf 1 _ rfl (rdu_int Try.underlying3)
  obtain ⟨b, D2, h2, ⟨a, c, e2, g2, r2, l2⟩, s2⟩ := hf 2 _ rfl (rdu_bys Try.underlying28 Try.underlying5 (by kernel_rfl))
  obtain ⟨beh, D3, h3, ⟨ha, hc', e3, g3, r3, w3⟩, s3⟩ := hf 3 _ rfl (rdu_ops W)
  obtain ⟨kp, D4, h4, ⟨ka, kc, e4, g4, r4, l4⟩, s4⟩ := hf 4 _ rfl (rdu_ints Try.underlying37 Try.underlying3 (by kernel_rfl))
  obtain ⟨d0, d1, d2, d3, d4, rfl⟩ := five_of' (show Ds.length = 5 from hD)
  obtain ⟨c0, c1, c2, c3, c4, rfl⟩ := five_of' hl
  simp only [List.getElem?_cons_succ, List.getElem?_cons_zero, Option.some.injEq] at h0 h2 h3 h4
  subst h0 h2 h3 h4
  simp only [ubs_cons, ubs_nil] at hs
  simp [hci] at e1
  simp [hcb] at e2
  simp [hco] at e0 e3
  simp [hck] at e4
  subst e0 e1 e2 e3 e4
  exact ⟨⟨ba, bc, bef, q, a, c, b, ha, hc', beh, ka, kc, kp⟩, ⟨rfl, ⟨r0, w0, r3, w3, r2, l2, g2, r4⟩⟩, by simp only []; omega⟩
theorem PersistLasts_L (F : SP) (cs : Array Value) (t : RgC) (h : cs.toList = t.cells ∧ RgW F t) (hz : szL Op9.sz t.bef + szL Op9.sz t.beh + t.b.length + t.kp.length ≤ 1048576) : Fn Try.prog 12 #[.agg cs] F (fun r B => r = .bool true ∧ B = F) := by
  obtain ⟨e, hw⟩ := h
  have ecs : cs = t.cells.toArray := by rw [← e]
  rw [ecs]
  have hb := szL_ops (l := t.bef) (by omega)
  have hh := szL_ops (l := t.beh) (by omega)
  exact PersistLasts_w F hw.hrb hw.hwb hb.1 hb.2 hw.hrh hw.hwh hh.1 hh.2 hw.hr hw.hb hw.hcap (by omega) hw.hrk (by omega)
end Go.Vl
