/- What the row rests on, part 3: a calculus of assertions, walks of functions over it, and plain laws. Conditions: none. -/
import Derived.Deep.QuietTactic
import Derived.BigQuiet
import Derived.WalkKit
import Derived.Test.YtndfopmdkcnkgaaProg
import Derived.OrdersHeld
import Derived.Laws.BytesArg
import Derived.RangeFuncRecord
import Derived.TacticsIn
import Derived.Deep.Slices
import Derived.OpenShut
import Derived.ChangeArms
import Derived.SizedLaws
import Derived.ChangeSame
import Derived.Test.YtndfopmdkcnkgaaRows
import Derived.Sort.QuietThIn
import Derived.Test.YtndfopmdkcnkgaaMg2
set_option linter.unusedVariables false
set_option linter.unusedSimpArgs false
namespace Go.Vl
open Go Go.Proofs
/-- Every line has one content alone. -/
def Cln (s : DevS) : Prop := ∀ l ∈ s.ls, l.st.length = 1
def chunk (q : Nat) (I : List Nat) : List Nat := (I.drop (q * 64)).take 64
/-- Every content of every line is as X says. -/
def Poss (X : Nat → List Nat → Prop) (s : DevS) : Prop := ∀ (q : Nat) (l : LineS), s.ls[q]? = some l → ∀ σ ∈ l.st, X q (lb σ)
theorem img_chk {s : DevS} (hw : WfD s) {q : Nat} (hq : q < s.ls.length) : chunk q (imgS s) = lb (seenL s.ls[q]) := by
  have h1 := img_at hw.line hq
  unfold chunk imgS
  rw [h1, ← seen8 (hw.line _ (List.getElem_mem hq)), List.take_left]
theorem poss_img {X : Nat → List Nat → Prop} {s : DevS} (hw : WfD s) (h : Poss X s) {q : Nat} (hq : q < s.ls.length) : X q (chunk q (imgS s)) := by
  rw [img_chk hw hq]; exact h q _ (List.getElem?_eq_getElem hq) _ (seenL_mem (hw.line _ (List.getElem_mem hq)))
theorem poss_sub {X : Nat → List Nat → Prop} {s s' : DevS} (h : Poss X s) (hs : ∀ (q : Nat) (l' : LineS), s'.ls[q]? = some l' → ∃ l : LineS, s.ls[q]? = some l ∧ ∀ σ ∈ l'.st, σ ∈ l.st) : Poss X s' := fun q l' hl' σ hσ => by
  obtain ⟨l, hl, hsub⟩ := hs _ _ hl'
  exact h q l hl σ (hsub σ hσ)
/-- Where each line has one content, that is what is seen. -/
theorem poss_cln {X : Nat → List Nat → Prop} {s : DevS} (hw : WfD s) (hc : Cln s) (h : ∀ q, q < s.ls.length → X q (chunk q (imgS s))) : Poss X s := fun q l hl σ hσ => by
  obtain ⟨hq, rfl⟩ := List.getElem?_eq_some_iff.1 hl
  have := h q hq
  rw [img_chk hw hq] at this
  have h1 := hc _ (List.getElem_mem hq)
  have e : σ = seenL s.ls[q] := by
    rw [seenL_eq (by omega)]
    obtain ⟨k, hk, rfl⟩ := List.mem_iff_getElem.1 hσ
    congr 1; omega
  rw [e]; exact this
theorem goes_sub {kp : List Int} {s : DevS} (hw : WfD s) (q : Nat) (l' : LineS) (hl' : (goesS kp s).ls[q]? = some l') : ∃ l : LineS, s.ls[q]? = some l ∧ (∀ σ ∈ l'.st, σ ∈ l.st) ∧ l'.st.length = 1 := by
  simp only [goesS, goPart, List.getElem?_mapIdx] at hl'
  cases e : s.ls[q]? with
  | none => rw [e] at hl'; cases hl'
  | some l =>
    rw [e] at hl'
    simp only [Option.map_some, Option.some.injEq] at hl'
    have hq := (List.getElem?_eq_some_iff.1 e).1
    subst hl'
    rw [if_pos hq]
    refine ⟨l, rfl, fun σ hσ => ?_, rfl⟩
    have hp : 0 < l.st.length := List.length_pos_iff.2 (hw.line l (List.mem_of_getElem? e)).ne
    have hk := kOf_lt (keep := kp) (i := q) hp
    simp only [goL, List.mem_singleton] at hσ
    rw [hσ]; simp [List.getD, hk]
theorem goes_poss {kp : List Int} {s : DevS} {X : Nat → List Nat → Prop} (hw : WfD s) (h : Poss X s) : Poss X (goesS kp s) := poss_sub h fun q l' hl' => by
  obtain ⟨l, h1, h2, _⟩ := goes_sub hw q l' hl'; exact ⟨l, h1, h2⟩
theorem goes_cln {kp : List Int} {s : DevS} (hw : WfD s) : Cln (goesS kp s) := fun l hl => by
  obtain ⟨q, hq, rfl⟩ := List.mem_iff_getElem.1 hl
  obtain ⟨_, _, _, h⟩ := goes_sub hw q _ (List.getElem?_eq_getElem hq); exact h
/-- The state behind a loss. -/
def Lost (X : Nat → List Nat → Prop) (n : Nat) (s : DevS) : Prop := s.off = true ∧ WfD s ∧ Cln s ∧ Poss X s ∧ s.ls.length = n
theorem done_loss {X : Nat → List Nat → Prop} {s : DevS} (hw : WfD s) (h : Poss X s) : (doneE s = 0 ∧ (doneS s).ls = s.ls ∧ (doneS s).off = s.off) ∨ (doneE s = 5 ∧ Lost X s.ls.length (doneS s)) := by
  have hw' := doneS_wf hw
  have hl := doneS_len s
  unfold Lost doneE doneS at *
  cases e : s.arms with
  | nil => exact .inl ⟨rfl, rfl, rfl⟩
  | cons a ar =>
    simp only [e] at hw' hl ⊢
    by_cases c : wr64 (s.cnt + 1) < a.1
    · rw [if_pos c, if_pos c]; exact .inl ⟨rfl, rfl, rfl⟩
    · rw [if_neg c] at hw' hl
      rw [if_neg c, if_neg c]
      have hw2 : WfD { s with ops := wr64 (s.ops + 1), arms := ar, cnt := 0 } := by
        refine ⟨hw.pos, hw.top, hw.line, ?_, ?_, ?_⟩
        · have := hw.arms; rw [e] at this; simp at this ⊢; omega
        · intro x hx; exact hw.after x (by rw [e]; exact List.mem_cons_of_mem _ hx)
        · intro x hx; exact hw.keeps x (by rw [e]; exact List.mem_cons_of_mem _ hx)
      exact .inr ⟨rfl, rfl, hw', goes_cln hw2, goes_poss hw2 h, hl⟩
theorem chunk_spl {I b : List Nat} {p q : Nat} (hp : p + b.length ≤ I.length) (h : (q + 1) * 64 ≤ p ∨ p + b.length ≤ q * 64) : chunk q (spl I p b) = chunk q I := by
  unfold chunk
  apply List.ext_getElem?
  intro i
  rw [List.getElem?_take, List.getElem?_take]
  by_cases hi : i < 64
  · rw [if_pos hi, if_pos hi, List.getElem?_drop, List.getElem?_drop, spl_at hp, if_neg (by omega)]
  · rw [if_neg hi, if_neg hi]
theorem poss_lay {X : Nat → List Nat → Prop} {s : DevS} {q v : Nat} (h : Poss X s) (hi : q / 64 < s.ls.length) (hw : WfD (layS q v s)) (hX : X (q / 64) (chunk (q / 64) (imgS (layS q v s)))) : Poss X (layS q v s) := fun j l' hl' σ hσ => by
  have hl2 := hl'
  rw [layS_ls hi] at hl'
  by_cases e : j = q / 64
  · subst e
    have hq' : q / 64 < (layS q v s).ls.length := by rw [layS_len']; omega
    rw [img_chk hw hq'] at hX
    have e0 : (layS q v s).ls[q / 64] = l' := by rw [List.getElem?_eq_getElem hq'] at hl2; exact Option.some.inj hl2
    rw [List.getElem?_set_self hi] at hl'
    have e2 := Option.some.inj hl'
    have hσ' : σ ∈ s.ls[q / 64].st ++ [(seenL s.ls[q / 64]).set (q % 64 / 8) v] := by rw [← e2] at hσ; exact hσ
    rcases List.mem_append.1 hσ' with h1 | h1
    · exact h _ _ (List.getElem?_eq_getElem hi) σ h1
    · rw [List.mem_singleton] at h1
      rw [e0, ← e2] at hX
      unfold layL at hX
      rw [seenL_app] at hX
      rw [h1]; exact hX
  · rw [List.getElem?_set_ne (Ne.symm e)] at hl'
    exact h j _ hl' σ hσ
/-- What holds behind a store that went well, seen from before. -/
def Went (X : Nat → List Nat → Prop) (p m : Nat) (s s2 : DevS) : Prop := s2.off = false ∧ WfD s2 ∧ Poss X s2 ∧ s2.ls.length = s.ls.length ∧ ∀ q : Nat, (q + 1) * 64 ≤ p ∨ p + m ≤ q * 64 → s2.ls[q]? = s.ls[q]?
theorem storeF_loss {X : Nat → List Nat → Prop} : ∀ (m : Nat) {p r : Nat} {b : List Nat} {s : DevS}, b.length = m → WfD s → s.off = false → (∀ x ∈ b, x < 256) → Room (r + m) s → p + m ≤ s.ls.length * 64 → Poss X s →
    (∀ k q, 0 < k → k ≤ m → ((p + k) % 8 = 0 ∨ k = m) → q < s.ls.length → X q (chunk q (spl (imgS s) p (b.take k)))) →
    ∃ e s2, storeF b.length p b s = (e, s2) ∧ ((e = 0 ∧ Went X p m s s2 ∧ Room r s2 ∧ imgS s2 = spl (imgS s) p b) ∨ (e = 5 ∧ Lost X s.ls.length s2)) := by
  intro m
  induction m using Nat.strongRecOn with
  | _ m ih =>
    intro p r b s hm hw hO hb hroom hp hP hX
    by_cases h0 : b = []
    · subst h0
      have : m = 0 := by simpa using hm.symm
      subst this
      exact ⟨0, s, storeF_nil _ _ _, .inl ⟨rfl, ⟨hO, hw, hP, rfl, fun _ _ => rfl⟩, fun l hl => by have := hroom l hl; omega, (spl_nil _ _).symm⟩⟩
    · have hpos : 0 < b.length := List.length_pos_iff.2 h0
      have hi : p / 64 < s.ls.length := by omega
      have hr1 : Room 1 s := fun l hl => by have := hroom l hl; omega
      have hwL := layS_wf (at_ := p - p % 8) hw hr1 (stW_nm (p := p) (s := s) hb)
      have himg := img_stW (p := p) hw hi hb hr1
      have hil := img_length hw.line
      have hlen : (layS (p - p % 8) (nm (stW p b s)) s).ls.length = s.ls.length := layS_len _ _ _
      have ht : (b.take (8 - p % 8)).length = min b.length (8 - p % 8) := by rw [List.length_take]; omega
      have hk : (b.drop (8 - p % 8)).length = m - min m (8 - p % 8) := by rw [List.length_drop]; omega
      have hqe : (p - p % 8) / 64 = p / 64 := by omega
      have hP1 : Poss X (layS (p - p % 8) (nm (stW p b s)) s) := by
        refine poss_lay hP (by omega) hwL ?_
        rw [himg, hqe]
        by_cases hlt : m ≤ 8 - p % 8
        · have := hX m (p / 64) (by omega) (by omega) (.inr rfl) hi
          rw [← hm, List.take_length] at this
          rw [List.take_of_length_le (by omega)]; exact this
        · exact hX (8 - p % 8) (p / 64) (by omega) (by omega) (.inl (by omega)) hi
      rw [storeF_step h0]
      rcases done_loss hwL hP1 with ⟨h1, h2, h3⟩ | ⟨h1, h2⟩
      · rw [h1, if_neg (by decide)]
        have hoff : (doneS (layS (p - p % 8) (nm (stW p b s)) s)).off = false := by rw [h3]; unfold layS; rw [(onLine_fields _ _ s).2.2.2.1]; exact hO
        have hI2 : imgS (doneS (layS (p - p % 8) (nm (stW p b s)) s)) = spl (imgS s) p (b.take (8 - p % 8)) := by unfold imgS; rw [h2]; exact himg
        have hroom2 : Room (r + (m - min m (8 - p % 8))) (doneS (layS (p - p % 8) (nm (stW p b s)) s)) := fun l hl => by
          rw [h2] at hl
          have := onLine_room (r := r + m - 1) (f := layL ((p - p % 8) % 64 / 8) (nm (stW p b s))) (i := (p - p % 8) / 64) (fun l hl => by have := hroom l hl; omega) (fun l => by simp [layL]) l hl
          omega
        have hX2 : ∀ k q, 0 < k → k ≤ m - min m (8 - p % 8) → ((p + min b.length (8 - p % 8) + k) % 8 = 0 ∨ k = m - min m (8 - p % 8)) → q < (doneS (layS (p - p % 8) (nm (stW p b s)) s)).ls.length →
            X q (chunk q (spl (imgS (doneS (layS (p - p % 8) (nm (stW p b s)) s))) (p + min b.length (8 - p % 8)) ((b.drop (8 - p % 8)).take k))) := fun k q k0 k1 k2 hq => by
          rw [hI2, ← ht, spl_spl (by rw [ht, List.length_take, List.length_drop]; unfold imgS; omega)]
          have e : b.take (8 - p % 8) ++ (b.drop (8 - p % 8)).take k = b.take (8 - p % 8 + k) := by rw [← List.take_add]
          rw [e]
          refine hX _ q (by omega) (by omega) (by omega) (by rw [h2, hlen] at hq; exact hq)
        obtain ⟨e, s2, g1, g2⟩ := ih (m - min m (8 - p % 8)) (by omega) (p := p + min b.length (8 - p % 8)) (r := r) (b := b.drop (8 - p % 8)) (s := doneS (layS (p - p % 8) (nm (stW p b s)) s))
          hk (doneS_wf hwL) hoff (fun x hx => hb x (List.mem_of_mem_drop hx)) hroom2 (by rw [h2, hlen]; omega) (fun q l hl σ hσ => by rw [h2] at hl; exact hP1 q l hl σ hσ) hX2
        refine ⟨e, s2, g1, ?_⟩
        rcases g2 with ⟨a1, ⟨a2, a3, a4, a5, a6⟩, a7, a8⟩ | ⟨a1, a2⟩
        · left
          refine ⟨a1, ⟨a2, a3, a4, by rw [a5, h2, hlen], fun q hq => ?_⟩, a7, ?_⟩
          · rw [a6 q (by omega), h2, layS_ls (by omega)]
            exact List.getElem?_set_ne (by omega)
          · rw [a8, hI2, ← ht, spl_spl (by rw [ht, List.length_drop]; unfold imgS; omega), List.take_append_drop]
        · right
          rw [h2, hlen] at a2; exact ⟨a1, a2⟩
      · rw [h1, if_pos (by decide)]
        exact ⟨5, _, rfl, .inr ⟨rfl, by rw [hlen] at h2; exact h2⟩⟩
theorem flF_loss {X : Nat → List Nat → Prop} : ∀ (k q : Nat) (s : DevS), WfD s → s.off = false → Poss X s → q + k ≤ s.ls.length →
    ∃ e s2, flF k q s = (e, s2) ∧ ((e = 0 ∧ s2.off = false ∧ WfD s2 ∧ s2.ls = (flsh k q s.ls).map fenceL) ∨ (e = 5 ∧ Lost X s.ls.length s2))
  | 0, q, s, hw, hO, hP, h => by
    have hw2 : WfD (fenceS s) := ⟨by simp [fenceS]; exact hw.pos, by simp [fenceS]; exact hw.top, fun l hl => by
      simp only [fenceS, List.mem_map] at hl
      obtain ⟨l0, h0, rfl⟩ := hl
      exact fenceL_wf (hw.line l0 h0), hw.arms, hw.after, hw.keeps⟩
    have hP2 : Poss X (fenceS s) := poss_sub hP fun q l' hl' => by
      obtain ⟨l, h1, rfl⟩ := fence_get hl'; exact ⟨l, h1, fence_mem⟩
    rw [flF_zero]
    unfold fe
    rw [if_neg (by rw [hO]; decide), flsh_zero]
    rcases done_loss hw2 hP2 with ⟨h1, h2, h3⟩ | ⟨h1, h2⟩
    · exact ⟨_, _, rfl, .inl ⟨h1, by rw [h3]; exact hO, doneS_wf hw2, h2⟩⟩
    · exact ⟨_, _, rfl, .inr ⟨h1, by have e : (fenceS s).ls.length = s.ls.length := by simp [fenceS]
                                     rw [e] at h2; exact h2⟩⟩
  | k + 1, q, s, hw, hO, hP, h => by
    have hq : q < s.ls.length := by omega
    have hs : flushS (q * 64) s = { s with ls := s.ls.set q (flushL s.ls[q]) } := by
      unfold flushS; rw [show q * 64 / 64 = q by omega, onLine_at hq]
    have hwF := flushS_wf (p := q * 64) hw
    have hPF : Poss X (flushS (q * 64) s) := poss_sub hP fun j l' hl' => by
      rw [hs] at hl'
      by_cases e : q = j
      · subst e
        rw [List.getElem?_set_self hq] at hl'
        have := Option.some.inj hl'
        subst this
        exact ⟨_, List.getElem?_eq_getElem hq, fun σ h => h⟩
      · rw [List.getElem?_set_ne e] at hl'
        exact ⟨l', hl', fun σ h => h⟩
    have hlF : (flushS (q * 64) s).ls.length = s.ls.length := by rw [hs]; simp
    have hf1 : fl1 ((q * 64 : Nat) : Int) s = (doneE (flushS (q * 64) s), doneS (flushS (q * 64) s)) := by
      unfold fl1
      rw [hO, rdy_ok (by omega) (by omega) (by omega), if_neg (by simp), Int.toNat_natCast]
    show ∃ e s2, (if (fl1 ((q * 64 : Nat) : Int) s).1 ≠ 0 then fl1 ((q * 64 : Nat) : Int) s else flF k (q + 1) (fl1 ((q * 64 : Nat) : Int) s).2) = (e, s2) ∧ _
    rw [hf1]
    rcases done_loss hwF hPF with ⟨h1, h2, h3⟩ | ⟨h1, h2⟩
    · simp only []
      rw [h1, if_neg (by decide)]
      obtain ⟨e, s2, g1, g2⟩ := flF_loss (X := X) k (q + 1) (doneS (flushS (q * 64) s)) (doneS_wf hwF) (by rw [h3, hs]; exact hO) (fun j l hl σ hσ => by rw [h2] at hl; exact hPF j l hl σ hσ) (by rw [h2, hlF]; omega)
      refine ⟨e, s2, g1, ?_⟩
      rcases g2 with ⟨a1, a2, a3, a4⟩ | ⟨a1, a2⟩
      · exact .inl ⟨a1, a2, a3, by rw [a4, h2, hs]; simp only []; rw [flsh_step hq]⟩
      · exact .inr ⟨a1, by rw [h2, hlF] at a2; exact a2⟩
    · simp only []
      rw [h1, if_pos (by decide)]
      exact ⟨5, _, rfl, .inr ⟨rfl, by rw [hlF] at h2; exact h2⟩⟩
theorem lastS_loss {X : Nat → List Nat → Prop} {p m : Nat} {s : DevS} (hw : WfD s) (hO : s.off = false) (hP : Poss X s) (h1 : 1 ≤ m) (hp : p + m ≤ s.ls.length * 64) (hc : ∀ (q : Nat) (l : LineS), (q + 1) * 64 ≤ p ∨ p + m ≤ q * 64 → s.ls[q]? = some l → l.st.length = 1) :
    ∃ e s2, lastS p m s = (e, s2) ∧ ((e = 0 ∧ s2.off = false ∧ WfD s2 ∧ Cln s2 ∧ s2.ls.length = s.ls.length ∧ imgS s2 = imgS s) ∨ (e = 5 ∧ Lost X s.ls.length s2)) := by
  obtain ⟨e, s2, g1, g2⟩ := flF_loss (X := X) ((p + m - 1) / 64 - p / 64 + 1) (p / 64) s hw hO hP (by omega)
  refine ⟨e, s2, g1, ?_⟩
  rcases g2 with ⟨a1, a2, a3, a4⟩ | h
  · left
    have hwf : ∀ l ∈ flsh ((p + m - 1) / 64 - p / 64 + 1) (p / 64) s.ls, WfL l := flsh_wf hw.line
    refine ⟨a1, a2, a3, fun l' hl' => ?_, by rw [a4, List.length_map, flsh_len], ?_⟩
    · rw [a4] at hl'
      obtain ⟨q, hq, rfl⟩ := List.mem_iff_getElem.1 hl'
      obtain ⟨l1, e1, e2⟩ := fence_get (List.getElem?_eq_getElem hq)
      obtain ⟨l, e3, e4⟩ := flsh_get e1
      rw [e2]
      have hwl := hw.line l (List.mem_of_getElem? e3)
      have hpl := List.length_pos_iff.2 hwl.ne
      by_cases c : p / 64 ≤ q ∧ q < p / 64 + ((p + m - 1) / 64 - p / 64 + 1)
      · rw [if_pos c] at e4
        subst e4
        unfold fenceL flushL
        rw [if_pos (by simp only []; omega)]
        simp only [List.length_drop]; omega
      · rw [if_neg c] at e4
        subst e4
        have := hc q l1 (by omega) e3
        unfold fenceL
        split
        · rename_i h0
          have := hwl.hi
          simp only [List.length_drop]; omega
        · exact this
    · unfold imgS
      rw [a4]
      refine img_seen ?_
      rw [← flsh_seen ((p + m - 1) / 64 - p / 64 + 1) (p / 64) s.ls, List.map_map]
      exact List.map_congr_left fun l hl => seen_fence (hwf l hl)
  · exact .inr h
end Go.Vl

set_option linter.unusedVariables false
set_option linter.unusedSimpArgs false
namespace Go.Vl
open Go Go.Proofs
theorem crL_app : ∀ {xs ys : List Nat} {r : Nat}, crL r (xs ++ ys) = crL (crL r xs) ys
  | [], _, _ => rfl
  | x :: xs, ys, r => by show crL _ (xs ++ ys) = crL (crL _ xs) ys; exact crL_app
theorem crc_app {s : Nat} {xs ys : List Nat} : crc s (xs ++ ys) = crc (crc s xs) ys := by
  unfold crc; rw [crL_app, Nat.xor_assoc (crL _ xs), Nat.xor_self, Nat.xor_zero]
/-- How many bytes are added behind n bytes. -/
def pad8 (n : Nat) : Nat := (8 - n % 8) % 8
def up8 (n : Nat) : Nat := n + pad8 n
theorem up8_le (n : Nat) : n ≤ up8 n ∧ up8 n < n + 8 := by unfold up8 pad8; omega
/-- The head of a record, but for its sum. -/
def recH (p n : Nat) : List Nat := le 8 p ++ le 8 n
theorem recH_len (p n : Nat) : (recH p n).length = 16 := by unfold recH; rw [List.length_append, le_length, le_length]
theorem recH_b (p n : Nat) : ∀ x ∈ recH p n, x < 256 := fun x hx => by
  rcases List.mem_append.1 hx with h | h <;> exact le_bytes _ _ _ h
/-- A record's bytes. -/
def recS (p : Nat) (old : List Nat) : List Nat := recH p old.length ++ le 8 (crc 0 (recH p old.length ++ old)) ++ old ++ List.replicate (pad8 old.length) 0
theorem recS_eq (p : Nat) (old : List Nat) : recS p old = recH p old.length ++ le 8 (crc 0 (recH p old.length ++ old)) ++ old ++ List.replicate (pad8 old.length) 0 := rfl
theorem recS_len (p : Nat) (old : List Nat) : (recS p old).length = 24 + up8 old.length := by
  unfold recS up8; simp only [List.length_append, recH_len, le_length, List.length_replicate]; omega
theorem recS_b {p : Nat} {old : List Nat} (h : ∀ x ∈ old, x < 256) : ∀ x ∈ recS p old, x < 256 := fun x hx => by
  unfold recS at hx
  rcases List.mem_append.1 hx with h1 | h1
  · rcases List.mem_append.1 h1 with h2 | h2
    · rcases List.mem_append.1 h2 with h3 | h3
      · exact recH_b _ _ _ h3
      · exact le_bytes _ _ _ h3
    · exact h x h2
  · rw [(List.mem_replicate.1 h1).2]; decide
/-- What records of so many bytes take. -/
def needF : List Int → Int → Int × Int
  | [], s => (s, 0)
  | n :: l, s => if n < 1 then (0, 2) else if 9223372036854775807 < n + pad8 n.toNat then (0, 2) else if 9223372036854775807 - 24 - s < n + pad8 n.toNat then (0, 2) else needF l (s + 24 + (n + pad8 n.toNat))
def needS (l : List Int) : Int × Int := needF l 0
/-- May an extent be? -/
def mayX (n at_ sz : Nat) (x : Int × Int) : Bool := decide (1 ≤ x.2 ∧ 64 ≤ x.1 ∧ x.1 + x.2 ≤ n ∧ (x.1 + x.2 ≤ at_ ∨ (at_ + sz : Nat) ≤ x.1))
/-- Where a log may lie. -/
structure LogW (n at_ sz : Nat) : Prop where
  a : 64 ≤ at_
  am : at_ % 64 = 0
  s : 128 ≤ sz
  sm : sz % 64 = 0
  top : at_ + sz ≤ n
/-- Records are stored, one behind the other. -/
def putF : Nat → List (Int × Int) → DevS → Int × DevS
  | _, [], s => (0, s)
  | p, x :: l, s => if (sto (p : Nat) (recS x.1.toNat (((imgS s).drop x.1.toNat).take x.2.toNat)) s).1 ≠ 0 then sto (p : Nat) (recS x.1.toNat (((imgS s).drop x.1.toNat).take x.2.toNat)) s
    else putF (p + (24 + up8 x.2.toNat)) l (sto (p : Nat) (recS x.1.toNat (((imgS s).drop x.1.toNat).take x.2.toNat)) s).2
def lensX (l : List (Int × Int)) : List Int := l.map (·.2)
def writeS (at_ sz : Nat) (l : List (Int × Int)) (s : DevS) : Int × DevS :=
  if s.off = true then (5, s) else if (wordP (at_ : Nat) s).1 ≠ 0 then (3, s) else if l.all (mayX (s.ls.length * 64) at_ sz) = false then (6, s)
  else if (needS (lensX l)).2 ≠ 0 ∨ ((sz - 64 : Nat) : Int) < (needS (lensX l)).1 then (111, s) else if l = [] then (0, s)
  else if (putF (at_ + 64) l s).1 ≠ 0 then putF (at_ + 64) l s
  else if (rangeP ((at_ + 64 : Nat) : Int) (needS (lensX l)).1 (putF (at_ + 64) l s).2).1 ≠ 0 then rangeP ((at_ + 64 : Nat) : Int) (needS (lensX l)).1 (putF (at_ + 64) l s).2
  else pubP (at_ : Nat) l.length (rangeP ((at_ + 64 : Nat) : Int) (needS (lensX l)).1 (putF (at_ + 64) l s).2).2
def clearS (at_ : Nat) (s : DevS) : Int × DevS := if s.off = true then (5, s) else pubP (at_ : Nat) 0 s
/-- The record at a place of the room. -/
def readS (n at_ sz : Nat) (room : List Nat) (p : Nat) : Option ((Nat × List Nat) × Nat) :=
  if room.length < p + 24 then none
  else if mayX n at_ sz ((nm ((room.drop p).take 8) : Nat), (nm ((room.drop (p + 8)).take 8) : Nat)) = false then none
  else if room.length < p + (24 + up8 (nm ((room.drop (p + 8)).take 8))) then none
  else if recS (nm ((room.drop p).take 8)) ((room.drop (p + 24)).take (nm ((room.drop (p + 8)).take 8))) ≠ (room.drop p).take (24 + up8 (nm ((room.drop (p + 8)).take 8))) then none
  else some ((nm ((room.drop p).take 8), (room.drop (p + 24)).take (nm ((room.drop (p + 8)).take 8))), 24 + up8 (nm ((room.drop (p + 8)).take 8)))
/-- So many records, read. -/
def recsF (n at_ sz : Nat) (room : List Nat) : Nat → Nat → List (Nat × List Nat) × Int
  | 0, _ => ([], 0)
  | k + 1, p => match readS n at_ sz room p with
    | none => ([], 110)
    | some (x, t) => if (recsF n at_ sz room k (p + t)).2 ≠ 0 then ([], 110) else (x :: (recsF n at_ sz room k (p + t)).1, 0)
def roomS (at_ sz : Nat) (s : DevS) : List Nat := ((imgS s).drop (at_ + 64)).take (sz - 64)
def recordsS (at_ sz : Nat) (s : DevS) : List (Nat × List Nat) × Int :=
  if s.off = true then ([], 5) else recsF (s.ls.length * 64) at_ sz (roomS at_ sz s) (wordP (at_ : Nat) s).1 0
/-- Lines are flushed. -/
def flL : Nat → Nat → DevS → Int × DevS
  | 0, _, s => (0, s)
  | k + 1, q, s => if (fl1 ((q * 64 : Nat) : Int) s).1 ≠ 0 then fl1 ((q * 64 : Nat) : Int) s else flL k (q + 1) (fl1 ((q * 64 : Nat) : Int) s).2
def flushX (p m : Nat) (s : DevS) : Int × DevS := flL ((p + m - 1) / 64 - p / 64 + 1) (p / 64) s
def backS (x : Nat × List Nat) (s : DevS) : Int × DevS := if (sto (x.1 : Nat) x.2 s).1 ≠ 0 then sto (x.1 : Nat) x.2 s else flushX x.1 x.2.length (sto (x.1 : Nat) x.2 s).2
/-- Records are brought back, one behind the other. -/
def backF : List (Nat × List Nat) → DevS → Int × DevS
  | [], s => (0, s)
  | x :: l, s => if (backS x s).1 ≠ 0 then backS x s else backF l (backS x s).2
def rollS (at_ sz : Nat) (s : DevS) : (Int × Int) × DevS :=
  if (recordsS at_ sz s).2 ≠ 0 ∨ (recordsS at_ sz s).1 = [] then ((0, (recordsS at_ sz s).2), s)
  else if (backF (recordsS at_ sz s).1.reverse s).1 ≠ 0 then ((0, (backF (recordsS at_ sz s).1.reverse s).1), (backF (recordsS at_ sz s).1.reverse s).2)
  else if (fe (backF (recordsS at_ sz s).1.reverse s).2).1 ≠ 0 then ((0, (fe (backF (recordsS at_ sz s).1.reverse s).2).1), (fe (backF (recordsS at_ sz s).1.reverse s).2).2)
  else if (pubP (at_ : Nat) 0 (fe (backF (recordsS at_ sz s).1.reverse s).2).2).1 ≠ 0 then ((0, (pubP (at_ : Nat) 0 (fe (backF (recordsS at_ sz s).1.reverse s).2).2).1), (pubP (at_ : Nat) 0 (fe (backF (recordsS at_ sz s).1.reverse s).2).2).2)
  else (((recordsS at_ sz s).1.length, 0), (pubP (at_ : Nat) 0 (fe (backF (recordsS at_ sz s).1.reverse s).2).2).2)
end Go.Vl

set_option linter.unusedVariables false
set_option linter.unusedSimpArgs false
namespace Go.Vl
open Go Go.Proofs
def lcs11 (d at_ sz : Nat) : List Value := [.pointer (some ⟨d, 0, none⟩), .int .i64 (at_ : Nat), .int .i64 (sz : Nat)]
def xcs (x : Int × Int) : List Value := [.int .i64 x.1, .int .i64 x.2]
structure XW (x : Int × Int) : Prop where
  a : -9223372036854775808 ≤ x.1 ∧ x.1 ≤ 9223372036854775807
  l : -9223372036854775808 ≤ x.2 ∧ x.2 ≤ 9223372036854775807
/-- n, brought up. -/
def rndS (n : Nat) : Int × Int := if 9223372036854775807 < n + pad8 n then (0, 2) else (((up8 n : Nat) : Int), 0)
theorem wr_i64 {x : Int} (h : -9223372036854775808 ≤ x ∧ x ≤ 9223372036854775807) : IntKind.i64.wrap x = x := by simp [IntKind.wrap, IntKind.bits, IntKind.signed]; omega
theorem needF_cons {n : Nat} {l : List Int} {s : Int} (h : 1 ≤ n) : needF ((n : Int) :: l) s = if (rndS n).2 ≠ 0 ∨ 9223372036854775807 - 24 - s < (rndS n).1 then (0, 2) else needF l (s + 24 + (rndS n).1) := by
  have e : needF ((n : Int) :: l) s = if (n : Int) < 1 then (0, 2) else if 9223372036854775807 < (n : Int) + pad8 (n : Int).toNat then (0, 2) else if 9223372036854775807 - 24 - s < (n : Int) + pad8 (n : Int).toNat then (0, 2) else needF l (s + 24 + ((n : Int) + pad8 (n : Int).toNat)) := rfl
  rw [e, if_neg (by omega), Int.toNat_natCast]
  unfold rndS up8
  by_cases h1 : 9223372036854775807 < n + pad8 n
  · rw [if_pos (by omega), if_pos h1, if_pos (.inl (by decide))]
  · rw [if_neg (by omega), if_neg h1]
    by_cases h2 : 9223372036854775807 - 24 - s < ((n + pad8 n : Nat) : Int)
    · rw [if_pos (by omega), if_pos (.inr h2)]
    · rw [if_neg (by omega), if_neg (by simp only [ne_eq, not_true, false_or]; exact h2)]
      congr 1
theorem needF_drop {xs : List Int} {i : Nat} (h : i < xs.length) (s : Int) : needF (xs.drop i) s = needF (xs[i] :: xs.drop (i + 1)) s := by rw [List.drop_eq_getElem_cons h]
theorem needF_bad {n : Int} {l : List Int} {s : Int} (h : n < 1) : needF (n :: l) s = (0, 2) := by
  show (if n < 1 then _ else _) = _
  rw [if_pos h]
theorem Sum_2 {A : SP} {a a2 : Option Addr} {m m2 c c2 b : Nat} {xs ys : List Nat} {E : TypeId} (h1 : Rs A a (bys xs)) (e1 : xs.length = m) (hb : ∀ x ∈ xs, x < 256) (hl : m ≤ 1099511627776) (k1 : Rs A a2 (bys ys)) (k2 : ys.length = m2) (kb : ∀ x ∈ ys, x < 256) (kl : m2 ≤ 1099511627776) :
    Fn Try.prog 74 #[.slice (some ⟨b, 0, none⟩) 2 2] (A * pt b (cl [.slice a m c, .slice a2 m2 c2] E)) (fun r B => r = .int .u32 ((crc 0 (xs ++ ys) : Nat) : Int) ∧ A * pt b (cl [.slice a m c, .slice a2 m2 c2] E) = B) := by
  subst e1 k2
  refine fn_rs (xs := [.slice a xs.length c, .slice a2 ys.length c2]) rs_pt0 fun hr => ?_; refine fn_rs h1.left fun h1 => ?_; refine fn_rs k1.left fun k1 => ?_
  have h := Sum_c (c := 2) (ls := [xs, ys]) ⟨_, rfl, hr, fun i hi => by
    match i, hi with
    | 0, _ => exact ⟨a, c, rfl, h1⟩
    | 1, _ => exact ⟨a2, c2, rfl, k1⟩⟩ rfl (by intro l hl; simp at hl; rcases hl with rfl | rfl; exact hb; exact kb) (by intro l hm; simp at hm; rcases hm with rfl | rfl; exact hl; exact kl) (by show 2 ≤ _; decide)
  rw [show crcs [xs, ys] = crc 0 (xs ++ ys) by rw [crc_app]; rfl] at h
  exact h
attribute [local irreducible] crk crL crc Sl pt ro Dev imgS recS
theorem Round8_c {A : SP} {n : Nat} (hn : n ≤ 9223372036854775807 := by omega) :
    Fn Try.prog 39 #[.int .i64 (n : Nat), .int .i64 8] (A) (fun r B => r = .tuple #[.int .i64 (rndS n).1, .int .i64 (rndS n).2] ∧ A = B) := by
  refine fn_enterW (args := [.int .i64 (n : Nat), .int .i64 8]) Try.func39 rfl Try.ntmps39 (by simp) ?_; refine sr ?_; refine tla ?_; refine tla ?_; refine nq ?_; refine tc_seq ?_; refine sr ?_; refine tlm ?_; refine tv (o_lss rfl rfl) ?_; refine tlm ?_; refine tl_bool (d := 9) rfl (fun h => ?_) (fun h => ?_)
  · exfalso; first | (simp at h; done) | (simp at h; omega)
  · try simp only [lv1, lv2, lv3, lv4, lv5, lv6, Bool.not_true, Bool.not_false] at h
    refine tlm ?_; refine tv (o_lss rfl rfl) ?_; refine tv (o_pick_f rfl (by conv => lhs; whnf)) ?_; refine nq ?_; refine tc_cond rfl (fun h => ?_) (fun h => ?_)
    · exfalso; simp at h
    · try simp only [lv1, lv2, lv3, lv4, lv5, lv6, Bool.not_true, Bool.not_false] at h
      refine tc_skip ?_; refine q_then_n ?_; refine sr ?_; refine tlm ?_; refine tlm ?_; refine tlm ?_; refine tv (o_remN (b := 8) rfl rfl (by decide)) ?_; refine tv (by first | exact o_subI rfl rfl (by omega) | exact o_sub rfl rfl) ?_; refine tl_env (d := 17) (v := .int .i64 ((8 - n % 8 : Nat) : Int)) (by show Value.int .i64 ((8 : Int) - ((n % 8 : Nat) : Int)) = _; congr 1; omega) ?_; refine tlm ?_; refine tv (o_remN (b := 8) rfl rfl (by decide)) ?_; refine tla ?_; refine nq ?_; refine tc_seq ?_; refine sr ?_; refine tlm ?_; refine tlm ?_; refine tv (by first | exact o_subI rfl rfl (by omega) | exact o_sub rfl rfl) ?_; refine tl_env (d := 22) (v := .int .i64 ((9223372036854775807 - pad8 n : Nat) : Int)) (by have hp : pad8 n < 8 := (by unfold pad8; omega); show Value.int .i64 ((9223372036854775807 : Int) - ((pad8 n : Nat) : Int)) = _; congr 1; omega) ?_; refine tv (o_gtr rfl rfl) ?_; refine nq ?_; refine tc_cond rfl (fun h => ?_) (fun h => ?_)
      · have hp : pad8 n < 8 := by unfold pad8; omega
        have hg : 9223372036854775807 < n + pad8 n := by first | omega | (simp at h; omega)
        refine sr ?_; refine tla ?_; refine tla ?_; refine nq ?_; refine tc_ret ?_; refine q_then_r ?_
        have e : rndS n = (0, 2) := by unfold rndS; rw [if_pos hg]
        rw [e]
        exact ⟨.tuple #[.int .i64 0, .int .i64 2], A, res2 rfl rfl rfl, Dr.sat (by repeat (first | with_reducible exact dr_refl | apply dr_keep | apply dr_drop)), rfl, rfl⟩
      · have hp : pad8 n < 8 := by unfold pad8; omega
        have hg : ¬ 9223372036854775807 < n + pad8 n := by first | omega | (simp at h; omega)
        refine tc_skip ?_; refine q_then_n ?_; refine sr ?_; refine tlm ?_; refine tlm ?_; refine tv (by first | exact o_addI rfl rfl (by omega) | exact o_add rfl rfl) ?_; refine tl_env (d := 26) (v := .int .i64 ((up8 n : Nat) : Int)) (by show Value.int .i64 (IntKind.i64.wrap ((n + pad8 n : Nat) : Int)) = _; rw [wr_i64 (by omega)]; rfl) ?_; refine tla ?_; refine tla ?_; refine nq ?_; refine tc_ret ?_
        have e : rndS n = (((up8 n : Nat) : Int), 0) := by unfold rndS; rw [if_neg hg]
        rw [e]
        exact ⟨.tuple #[.int .i64 ((up8 n : Nat) : Int), .int .i64 0], A, res2 rfl rfl rfl, Dr.sat (by repeat (first | with_reducible exact dr_refl | apply dr_keep | apply dr_drop)), rfl, rfl⟩
theorem Need_c {A : SP} {a : Option Addr} {c m : Nat} {xs : List Int} (hr : Rs A a (ints xs) := by repeat (first | assumption | with_reducible exact rs_sl | with_reducible exact rs_pt0 | exact rs_none | apply Rs.left)) (hm : xs.length = m := by first | assumption | rfl) (hx : ∀ x ∈ xs, -9223372036854775808 ≤ x ∧ x ≤ 9223372036854775807 := by assumption) (hml : m ≤ 4611686018427387904 := by omega) :
    Fn Try.prog 10 #[.slice a m c] (A) (fun r B => r = .tuple #[.int .i64 (needS xs).1, .int .i64 (needS xs).2] ∧ A = B) := by
  refine fn_enterW (args := [.slice a m c]) Try.func10 rfl Try.ntmps10 (by simp) ?_; refine sr ?_; refine tla ?_; refine tla ?_; refine nq ?_; refine sr ?_; refine tla ?_; refine nq ?_; refine tc_seq ?_; refine sr ?_; refine tlm ?_; refine tv (o_len Try.underlying22 rfl) ?_; refine tlm ?_; refine nq ?_; refine tc_block ?_; refine tc_loop (fun kk ρ BB => ∃ (i : Nat) (sm : Int), (i ≤ m) ∧ (needF (xs.drop i) sm = needS xs) ∧ (0 ≤ sm ∧ sm ≤ 9223372036854775807) ∧ kk = m - i ∧ ρ 4 = .int .i64 sm ∧ ρ 11 = .int .i64 (i : Nat) ∧ ρ 9 = .slice a m c ∧ ρ 10 = .int .i64 (m : Nat) ∧ BB = A) (m := m - (0)) ?_ ?_
  · exact ⟨0, 0, by omega, rfl, by omega, rfl, rfl, rfl, rfl, rfl, rfl⟩
  · intro k ρ B hI
    obtain ⟨i, sm, hp0, hp1, hp2, hkk1, hE4, hE11, hE9, hE10, hBA⟩ := hI
    obtain rfl := hBA.symm
    refine tc_env (d := 4) hE4 ?_; refine tc_env (d := 11) hE11 ?_; refine tc_env (d := 9) hE9 ?_; refine tc_env (d := 10) hE10 ?_
    clear hE4 hE11 hE9 hE10
    refine sr ?_; refine tv (o_lss rfl rfl) ?_; refine nq ?_; refine tc_seq ?_; refine tc_cond rfl (fun h => ?_) (fun h => ?_)
    · have hi : i < xs.length := by first | omega | (simp at h; omega)
      obtain ⟨x, hx1⟩ : ∃ x, xs[i] = x := ⟨_, rfl⟩
      have hxb := hx x (hx1 ▸ List.getElem_mem hi)
      have hnd := needF_drop hi sm
      rw [hx1] at hnd
      obtain ⟨hsm0, hsm1⟩ := hp2
      refine tc_skip ?_; refine q_then_n ?_; refine tc_seq ?_; refine tc_block ?_; refine sr ?_; refine tv (o_ixP1 Try.underlying22 sz3 rfl rfl (by omega) (nn_rs hr (by rw [ints_length]; omega))) ?_; refine tv (o_ldP p3 rfl hr (ints_at hi)) ?_; refine tl_env (d := 14) (v := .int .i64 x) (by show Value.int .i64 xs[i] = _; rw [hx1]) ?_; refine tla ?_; refine nq ?_; refine tc_seq ?_; refine sr ?_; refine tlm ?_; refine tv (o_lss rfl rfl) ?_; refine nq ?_; refine tc_cond rfl (fun h => ?_) (fun h => ?_)
      · have g16 : (x < 1) := by first | exact of_decide_eq_true h | (have h2 := h; simp at h2; omega) | simpa using h
        refine sr ?_; refine tla ?_; refine tla ?_; refine nq ?_; refine tc_ret ?_; refine q_then_r (q_block_r (q_then_r (q_then_r (q_block_r (q_then_r ?_)))))
        have e : needS xs = (0, 2) := by rw [← hp1, hnd]; first | exact needF_bad g16 | rw [needF_cons hq1, if_pos hng]
        rw [e]
        exact ⟨.tuple #[.int .i64 0, .int .i64 2], A, res2 rfl rfl rfl, Dr.sat (by repeat (first | with_reducible exact dr_refl | apply dr_keep | apply dr_drop)), rfl, rfl⟩
      · have g16 : ¬ (x < 1) := by first | exact of_decide_eq_false h | (have h2 := h; simp at h2; omega) | simpa using h
        refine tc_skip ?_; refine q_then_n ?_; refine sr ?_; refine tlm ?_
        obtain ⟨q, rfl⟩ := Int.eq_ofNat_of_zero_le (show 0 ≤ x by omega)
        have hq1 : 1 ≤ q := by omega
        have hqr : (rndS q).1 ≤ 9223372036854775807 ∧ 0 ≤ (rndS q).1 := by unfold rndS up8; split <;> simp <;> omega
        refine tl_c rfl (o_call bd39 rfl (Round8_c (n := q))) ?_; rintro _ _ ⟨rfl, rfl⟩; refine tlm ?_; refine tv (o_extract rfl rfl) ?_; refine tv (o_extract rfl rfl) ?_; refine tla ?_; refine tla ?_; refine nq ?_; refine tc_seq ?_; refine sr ?_; refine tlm ?_; refine tv (o_nei rfl rfl) ?_; refine tlm ?_; refine tl_bool (d := 24) rfl (fun h => ?_) (fun h => ?_)
        · have hng : (rndS q).2 ≠ 0 ∨ 9223372036854775807 - 24 - sm < (rndS q).1 := .inl (by first | exact of_decide_eq_true h | (simp at h; omega))
          refine tk ?_; refine tk ?_; refine tk ?_; refine tk ?_; refine tv (o_pick_t rfl (by conv => lhs; whnf)) ?_; refine nq ?_; refine tc_cond_t rfl ?_; refine sr ?_; refine tla ?_; refine tla ?_; refine nq ?_; refine tc_ret ?_; refine q_then_r (q_block_r (q_then_r (q_then_r (q_block_r (q_then_r ?_)))))
          have e : needS xs = (0, 2) := by rw [← hp1, hnd]; first | exact needF_bad g16 | rw [needF_cons hq1, if_pos hng]
          rw [e]
          exact ⟨.tuple #[.int .i64 0, .int .i64 2], A, res2 rfl rfl rfl, Dr.sat (by repeat (first | with_reducible exact dr_refl | apply dr_keep | apply dr_drop)), rfl, rfl⟩
        · have h24 : (rndS q).2 = 0 := by first | (have h9 := of_decide_eq_false h; omega) | (simp at h; omega)
          refine tlm ?_; refine tlm ?_; refine tv (o_subI rfl rfl (by omega)) ?_; refine tv (o_gtr rfl rfl) ?_; refine tv (o_pick_f rfl (by conv => lhs; whnf)) ?_; refine nq ?_; refine tc_cond rfl (fun h => ?_) (fun h => ?_)
          · have hng : (rndS q).2 ≠ 0 ∨ 9223372036854775807 - 24 - sm < (rndS q).1 := by first | assumption | exact .inr (by first | omega | (simp at h; omega))
            refine sr ?_; refine tla ?_; refine tla ?_; refine nq ?_; refine tc_ret ?_; refine q_then_r (q_block_r (q_then_r (q_then_r (q_block_r (q_then_r ?_)))))
            have e : needS xs = (0, 2) := by rw [← hp1, hnd]; first | exact needF_bad g16 | rw [needF_cons hq1, if_pos hng]
            rw [e]
            exact ⟨.tuple #[.int .i64 0, .int .i64 2], A, res2 rfl rfl rfl, Dr.sat (by repeat (first | with_reducible exact dr_refl | apply dr_keep | apply dr_drop)), rfl, rfl⟩
          · have hn9 : ¬ 9223372036854775807 - 24 - sm < (rndS q).1 := by first | omega | (simp at h; omega)
            have hng : ¬ ((rndS q).2 ≠ 0 ∨ 9223372036854775807 - 24 - sm < (rndS q).1) := by omega
            refine tc_skip ?_; refine q_then_n ?_; refine sr ?_; refine tlm ?_; refine tv (by first | exact o_addI rfl rfl (by omega) | exact o_add rfl rfl) ?_; refine tla ?_; refine nq ?_; refine tc_reg ?_; refine tlm ?_; refine tlm ?_; refine tv (by first | exact o_addI rfl rfl (by omega) | exact o_add rfl rfl) ?_; refine tla ?_; refine tl_nil ?_; refine q_block_n (q_then_n ?_); refine tc_reg ?_; refine tv (by first | exact o_addI rfl rfl (by omega) | exact o_add rfl rfl) ?_; refine tlm ?_; refine nq ?_; exact ⟨_, by omega, i + 1, _, by omega, by rw [← hp1, hnd, needF_cons hq1, if_neg hng], by omega, rfl, rfl, rfl, rfl, rfl, rfl⟩
    · obtain rfl : i = m := by first | omega | (simp at h; omega)
      refine tc_exit ?_; refine q_then_e (q_then_e (q_block_x (q_then_n ?_))); refine sr ?_; refine tlm ?_; refine tla ?_; refine tla ?_; refine nq ?_; refine tc_ret ?_
      have e : needS xs = (sm, 0) := by rw [← hp1, List.drop_eq_nil_of_le (by omega)]; rfl
      rw [e]
      exact ⟨.tuple #[.int .i64 sm, .int .i64 0], A, res2 rfl rfl rfl, Dr.sat (by repeat (first | with_reducible exact dr_refl | apply dr_keep | apply dr_drop)), rfl, rfl⟩
theorem may11_c {A R : SP} {C : SP → SP} {d : Nat} {s : DevS} (hc : Ct A (Dev d s) R C := by repeat (first | with_reducible exact ct_here | apply ct_left)) {bl at_ sz : Nat} (hl : Has A bl (cl (lcs11 d at_ sz) 52) := by (repeat (first | assumption | with_reducible exact has_here | with_reducible exact has_pt | apply has_left))) {x : Int × Int} (hx : XW x := by assumption) (hlw : LogW (s.ls.length * 64) at_ sz := by assumption) :
    Fn Try.prog 54 #[.pointer (some ⟨bl, 0, none⟩), .agg (xcs x).toArray] (A) (fun r B => r = .bool (mayX (s.ls.length * 64) at_ sz x) ∧ A = B) := by
  refine fn_enterW (args := [.pointer (some ⟨bl, 0, none⟩), .agg (xcs x).toArray]) Try.func54 rfl Try.ntmps54 (by simp) ?_; refine tc_have (fun _ _ h => ct_wf2 hc h) fun hw => ?_
  have htop := hw.top
  have hpos := hw.pos
  obtain ⟨rfl, hC⟩ := hc
  obtain ⟨⟨hx1, hx2⟩, ⟨hx3, hx4⟩⟩ := hx
  obtain ⟨w1, w2, w3, w4, w5⟩ := hlw
  refine sr ?_; refine tl_x rfl (o_box rfl rfl) ?_; rintro _ _ ⟨b3, rfl, rfl⟩; refine tla ?_; refine nq ?_; refine sr ?_; refine tlm ?_; refine tv (o_nilCheck rfl) ?_; refine tv (o_fieldAddr (o := 0) Try.underlying52 rfl rfl sz31 rfl) ?_; refine tv (o_load p31 rfl (by repeat (first | assumption | apply has_left)) rfl) ?_; refine tl_c rfl (o_call bd45 rfl (Size_c (s := s))) ?_; rintro _ _ ⟨rfl, rfl⟩; refine tla ?_; refine nq ?_; refine tc_seq ?_; refine tc_seq ?_; refine tc_cut (fun ρ BB => ∃ (bb : Bool), (bb = decide (¬ (1 ≤ x.2 ∧ 64 ≤ x.1 ∧ x.1 ≤ (s.ls.length : Int) * 64 ∧ x.2 ≤ (s.ls.length : Int) * 64 - x.1))) ∧ ρ 33 = .bool bb ∧ ρ 0 = .pointer (some ⟨bl, 0, none⟩) ∧ ρ 3 = .pointer (some ⟨b3, 0, none⟩) ∧ BB = R * Dev d s * pt b3 (cl (xcs x) 74)) ?_ ?_
  · skip
    refine tc_reg ?_; refine tv (o_fieldAddr (o := 1) Try.underlying74 rfl rfl sz3 rfl) ?_; refine tv (by first | exact o_load p3 rfl (by repeat (first | with_reducible exact has_here | with_reducible exact has_pt | apply has_left)) rfl | exact o_loadC p3 rfl (by assumption)) ?_; refine tv (o_lss rfl rfl) ?_; refine tlm ?_; refine tl_bool (d := 14) rfl (fun h => ?_) (fun h => ?_)
    · have g14 : (x.2 < 1) := by first | exact of_decide_eq_true h | (have h2 := h; simp at h2; omega) | simpa using h
      refine tk ?_; refine tk ?_; refine tk ?_; refine tv (o_pick_t rfl (by conv => lhs; whnf)) ?_; refine tlm ?_; refine tk ?_; refine tk ?_; refine tk ?_; refine tk ?_; refine tv (o_pick_t rfl (by conv => lhs; whnf)) ?_; refine tlm ?_; refine tk ?_; refine tk ?_; refine tk ?_; refine tk ?_; refine tk ?_; refine tk ?_; refine tk ?_; refine tv (o_pick_t rfl (by conv => lhs; whnf)) ?_; refine tl_nil ?_; exact ⟨_, by first | exact (decide_eq_true (by omega)).symm | exact (decide_eq_false (by omega)).symm | (rw [decide_eq_decide]; omega), rfl, rfl, rfl, rfl⟩
    · have g14 : ¬ (x.2 < 1) := by first | exact of_decide_eq_false h | (have h2 := h; simp at h2; omega) | simpa using h
      refine tv (o_fieldAddr (o := 0) Try.underlying74 rfl rfl sz3 rfl) ?_; refine tv (by first | exact o_load p3 rfl (by repeat (first | with_reducible exact has_here | with_reducible exact has_pt | apply has_left)) rfl | exact o_loadC p3 rfl (by assumption)) ?_; refine tv (o_lss rfl rfl) ?_; refine tv (o_pick_f rfl (by conv => lhs; whnf)) ?_; refine tlm ?_; refine tl_bool (d := 19) rfl (fun h => ?_) (fun h => ?_)
      · have g19 : (x.2 < 1 ∨ x.1 < 64) := by first | exact of_decide_eq_true h | (have h2 := h; simp at h2; omega) | simpa using h
        refine tk ?_; refine tk ?_; refine tk ?_; refine tk ?_; refine tv (o_pick_t rfl (by conv => lhs; whnf)) ?_; refine tlm ?_; refine tk ?_; refine tk ?_; refine tk ?_; refine tk ?_; refine tk ?_; refine tk ?_; refine tk ?_; refine tv (o_pick_t rfl (by conv => lhs; whnf)) ?_; refine tl_nil ?_; exact ⟨_, by first | exact (decide_eq_true (by omega)).symm | exact (decide_eq_false (by omega)).symm | (rw [decide_eq_decide]; omega), rfl, rfl, rfl, rfl⟩
      · have g19 : ¬ (x.2 < 1 ∨ x.1 < 64) := by first | exact of_decide_eq_false h | (have h2 := h; simp at h2; omega) | simpa using h
        refine tv (o_fieldAddr (o := 0) Try.underlying74 rfl rfl sz3 rfl) ?_; refine tv (by first | exact o_load p3 rfl (by repeat (first | with_reducible exact has_here | with_reducible exact has_pt | apply has_left)) rfl | exact o_loadC p3 rfl (by assumption)) ?_; refine tlm ?_; refine tv (o_gtr rfl rfl) ?_; refine tv (o_pick_f rfl (by conv => lhs; whnf)) ?_; refine tlm ?_; refine tl_bool (d := 25) rfl (fun h => ?_) (fun h => ?_)
        · have g25 : (x.2 < 1 ∨ x.1 < 64 ∨ (s.ls.length : Int) * 64 < x.1) := by first | exact of_decide_eq_true h | (have h2 := h; simp at h2; omega) | simpa using h
          refine tk ?_; refine tk ?_; refine tk ?_; refine tk ?_; refine tk ?_; refine tk ?_; refine tk ?_; refine tv (o_pick_t rfl (by conv => lhs; whnf)) ?_; refine tl_nil ?_; exact ⟨_, by first | exact (decide_eq_true (by omega)).symm | exact (decide_eq_false (by omega)).symm | (rw [decide_eq_decide]; omega), rfl, rfl, rfl, rfl⟩
        · have g25 : ¬ (x.2 < 1 ∨ x.1 < 64 ∨ (s.ls.length : Int) * 64 < x.1) := by first | exact of_decide_eq_false h | (have h2 := h; simp at h2; omega) | simpa using h
          refine tv (o_fieldAddr (o := 1) Try.underlying74 rfl rfl sz3 rfl) ?_; refine tv (by first | exact o_load p3 rfl (by repeat (first | with_reducible exact has_here | with_reducible exact has_pt | apply has_left)) rfl | exact o_loadC p3 rfl (by assumption)) ?_; refine tlm ?_; refine tv (o_fieldAddr (o := 0) Try.underlying74 rfl rfl sz3 rfl) ?_; refine tv (by first | exact o_load p3 rfl (by repeat (first | with_reducible exact has_here | with_reducible exact has_pt | apply has_left)) rfl | exact o_loadC p3 rfl (by assumption)) ?_; refine tv (o_subI rfl rfl (by omega)) ?_; refine tv (o_gtr rfl rfl) ?_; refine tv (o_pick_f rfl (by conv => lhs; whnf)) ?_; refine tl_nil ?_; exact ⟨_, by first | exact (decide_eq_true (by omega)).symm | exact (decide_eq_false (by omega)).symm | (rw [decide_eq_decide]; omega), rfl, rfl, rfl, rfl⟩
  · intro ρ B hI
    obtain ⟨bb, hbb0, hE33, hE0, hE3, rfl⟩ := hI
    refine q_then_n ?_; refine tc_env (d := 33) hE33 ?_; refine tc_env (d := 0) hE0 ?_; refine tc_env (d := 3) hE3 ?_
    clear hE33 hE0 hE3
    refine tc_cond rfl (fun h => ?_) (fun h => ?_)
    · have hf := of_decide_eq_true (show decide (¬ (1 ≤ x.2 ∧ 64 ≤ x.1 ∧ x.1 ≤ (s.ls.length : Int) * 64 ∧ x.2 ≤ (s.ls.length : Int) * 64 - x.1)) = true by rw [← hbb0]; exact h)
      refine sr ?_; refine tla ?_; refine nq ?_; refine tc_ret ?_; refine q_then_r ?_
      have e : mayX (s.ls.length * 64) at_ sz x = false := decide_eq_false (by omega)
      rw [e]
      exact ⟨.bool false, _, res1 rfl rfl, Dr.sat (by repeat (first | with_reducible exact dr_refl | apply dr_keep | apply dr_drop)), rfl, rfl⟩
    · have hf : (1 ≤ x.2 ∧ 64 ≤ x.1 ∧ x.1 ≤ (s.ls.length : Int) * 64 ∧ x.2 ≤ (s.ls.length : Int) * 64 - x.1) := by have h9 := of_decide_eq_false (show decide (¬ (1 ≤ x.2 ∧ 64 ≤ x.1 ∧ x.1 ≤ (s.ls.length : Int) * 64 ∧ x.2 ≤ (s.ls.length : Int) * 64 - x.1)) = false by rw [← hbb0]; exact h); omega
      refine tc_skip ?_; refine q_then_n ?_; refine tc_seq ?_; refine tc_regq mo (by kernel_rfl) ?_; refine ql_v rfl (o_fieldAddr (o := 0) Try.underlying74 rfl rfl sz3 rfl) ?_; refine ql_v rfl (by first | exact o_load p3 rfl (by repeat (first | with_reducible exact has_here | with_reducible exact has_pt | apply has_left)) rfl | exact o_loadC p3 rfl (by assumption)) ?_; refine ql_v rfl (o_fieldAddr (o := 1) Try.underlying74 rfl rfl sz3 rfl) ?_; refine ql_v rfl (by first | exact o_load p3 rfl (by repeat (first | with_reducible exact has_here | with_reducible exact has_pt | apply has_left)) rfl | exact o_loadC p3 rfl (by assumption)) ?_; refine ql_v rfl (o_addI rfl rfl (by omega)) ?_; refine ql_v rfl (o_move (by conv => lhs; whnf)) ?_; refine ql_v rfl (o_nilCheck rfl) ?_; refine ql_v rfl (o_fieldAddr (o := 1) Try.underlying52 rfl rfl sz3 rfl) ?_; refine ql_v rfl (o_load p3 rfl (by repeat (first | assumption | apply has_left)) rfl) ?_; refine ql_v rfl (o_leq rfl rfl) ?_; refine ql_v rfl (o_move (by conv => lhs; whnf)) ?_; refine ql_bool (d := 44) rfl (fun h => ?_) (fun h => ?_)
      · have g44 : (x.1 + x.2 ≤ at_) := by first | exact of_decide_eq_true h | (have h2 := h; simp at h2; omega) | simpa using h
        refine ql_skip rfl ?_; refine ql_skip rfl ?_; refine ql_skip rfl ?_; refine ql_skip rfl ?_; refine ql_skip rfl ?_; refine ql_skip rfl ?_; refine ql_skip rfl ?_; refine ql_skip rfl ?_; refine ql_skip rfl ?_; refine ql_skip rfl ?_; refine ql_skip rfl ?_; refine ql_skip rfl ?_; refine ql_v rfl (o_pick_t rfl (by conv => lhs; whnf)) ?_; refine ql_v rfl (o_assign (by conv => lhs; whnf)) ?_; refine ql_nil ?_; refine q_then_n ?_; refine tc_ret ?_
        have e : ∀ b, b = decide (x.1 + x.2 ≤ at_ ∨ ((at_ + sz : Nat) : Int) ≤ x.1) → mayX (s.ls.length * 64) at_ sz x = b := fun b hb => by rw [hb]; unfold mayX; rw [decide_eq_decide]; omega
        exact ⟨.bool (mayX (s.ls.length * 64) at_ sz x), _, res1 rfl (congrArg Value.bool (e _ (by first | exact (decide_eq_true (by omega)).symm | exact (decide_eq_false (by omega)).symm | (rw [decide_eq_decide]; omega)))).symm, Dr.sat (by repeat (first | with_reducible exact dr_refl | apply dr_keep | apply dr_drop)), rfl, rfl⟩
      · have g44 : ¬ (x.1 + x.2 ≤ at_) := by first | exact of_decide_eq_false h | (have h2 := h; simp at h2; omega) | simpa using h
        refine ql_v rfl (o_fieldAddr (o := 0) Try.underlying74 rfl rfl sz3 rfl) ?_; refine ql_v rfl (by first | exact o_load p3 rfl (by repeat (first | with_reducible exact has_here | with_reducible exact has_pt | apply has_left)) rfl | exact o_loadC p3 rfl (by assumption)) ?_; refine ql_v rfl (o_move (by conv => lhs; whnf)) ?_; refine ql_v rfl (o_nilCheck rfl) ?_; refine ql_v rfl (o_fieldAddr (o := 1) Try.underlying52 rfl rfl sz3 rfl) ?_; refine ql_v rfl (o_load p3 rfl (by repeat (first | assumption | apply has_left)) rfl) ?_; refine ql_v rfl (o_move (by conv => lhs; whnf)) ?_; refine ql_v rfl (o_nilCheck rfl) ?_; refine ql_v rfl (o_fieldAddr (o := 2) Try.underlying52 rfl rfl sz3 rfl) ?_; refine ql_v rfl (o_load p3 rfl (by repeat (first | assumption | apply has_left)) rfl) ?_; refine ql_v rfl (o_addI rfl rfl (by omega)) ?_; refine ql_v rfl (o_geq rfl rfl) ?_; refine ql_v rfl (o_pick_f rfl (by conv => lhs; whnf)) ?_; refine ql_v rfl (o_assign (by conv => lhs; whnf)) ?_; refine ql_nil ?_; refine q_then_n ?_; refine tc_ret ?_
        have e : ∀ b, b = decide (x.1 + x.2 ≤ at_ ∨ ((at_ + sz : Nat) : Int) ≤ x.1) → mayX (s.ls.length * 64) at_ sz x = b := fun b hb => by rw [hb]; unfold mayX; rw [decide_eq_decide]; omega
        exact ⟨.bool (mayX (s.ls.length * 64) at_ sz x), _, res1 rfl (congrArg Value.bool (e _ (by first | exact (decide_eq_true (by omega)).symm | exact (decide_eq_false (by omega)).symm | (rw [decide_eq_decide]; omega)))).symm, Dr.sat (by repeat (first | with_reducible exact dr_refl | apply dr_keep | apply dr_drop)), rfl, rfl⟩
theorem record_c {A : SP} {a : Option Addr} {c m p : Nat} {xs : List Nat} (hr : Rs A a (bys xs) := by repeat (first | assumption | with_reducible exact rs_sl | with_reducible exact rs_pt0 | exact rs_none | apply Rs.left)) (hm : xs.length = m := by first | assumption | rfl) (hb : ∀ x ∈ xs, x < 256 := by assumption) (hp : p < 9223372036854775808 := by omega) (hml : m ≤ 1099511627776 := by omega) :
    Fn Try.prog 55 #[.int .i64 (p : Nat), .slice a m c] (A) (fun r B => ∃ a2 c2, r = .slice a2 (24 + up8 m) c2 ∧ 24 + up8 m ≤ c2 ∧ B = A * Sl 1 (.slice a2 (24 + up8 m) c2) (24 + up8 m) (bys (recS p xs))) := by
  refine fn_enterW (args := [.int .i64 (p : Nat), .slice a m c]) Try.func55 rfl Try.ntmps55 (by simp) ?_
  obtain ⟨Z, hZ⟩ : ∃ Z, crc 0 (recH p m ++ xs) = Z := ⟨_, rfl⟩
  have hZb : ∀ x ∈ recH p m ++ xs, x < 256 := fun x hx => by rcases List.mem_append.1 hx with h1 | h1; exact recH_b _ _ x h1; exact hb x h1
  have hZl : Z < 4294967296 := hZ ▸ crc_lt (by decide) hZb
  obtain ⟨Y, hY⟩ : ∃ Y, recH p m ++ le 8 Z ++ xs = Y := ⟨_, rfl⟩
  have hYl : Y.length = 24 + m := by rw [← hY, List.length_append, List.length_append, recH_len, le_length, hm]
  have hYr : recS p xs = Y ++ List.replicate (pad8 m) 0 := by rw [← hY, ← hZ, ← hm]; exact recS_eq _ _
  refine sr ?_; refine tla ?_; refine nq ?_; refine sr ?_; refine tlm ?_; refine tv (by first | exact o_conv64 Try.underlying3 Try.underlying89 rfl | exact o_conv Try.underlying3 Try.underlying89 rfl) ?_; refine tl_env (d := 7) (v := .int .u64 ((p : Nat) : Int)) (congrArg (fun z : Nat => Value.int .u64 (z : Int)) (Nat.mod_eq_of_lt (by omega))) ?_; refine tl_c rfl (o_call bd69 rfl (Put64_c (xs := []) (v := p))) ?_; rintro _ _ ⟨a8, c8, rfl, hc8, rfl⟩; refine tlm ?_; refine tv (o_len Try.underlying60 rfl) ?_; refine tv (by first | exact o_conv64 Try.underlying3 Try.underlying89 rfl | exact o_conv Try.underlying3 Try.underlying89 rfl) ?_; refine tl_env (d := 11) (v := .int .u64 ((m : Nat) : Int)) (congrArg (fun z : Nat => Value.int .u64 (z : Int)) (Nat.mod_eq_of_lt (by omega))) ?_; refine tl_c rfl (o_call bd69 rfl (Put64_c (m := 8) (xs := [] ++ le 8 p) (v := m) (hr := rs_sl) (hm := by rw [List.nil_append, le_length]))) ?_; rintro _ _ ⟨a12, c12, rfl, hc12, rfl⟩; refine tla ?_; refine nq ?_; refine sr ?_; refine tlm ?_; refine tlm ?_; refine tlm ?_; refine tl_x rfl (o_buildSliceL (k := 1) (vs := [.slice a12 (8 + 8) c12, .slice a m c]) (l := [.slice a12 (8 + 8) c12, .slice a m c]) Try.underlying68 sz60 z60 rfl rfl (by decide) (by decide) (by intro v hv; simp at hv; rcases hv with rfl | rfl <;> rfl) rfl) ?_; rintro _ _ ⟨b16, rfl, rfl⟩; refine tl_c rfl (o_call bd74 rfl (Sum_2 (xs := recH p m) (ys := xs) rs_sl (recH_len _ _) (recH_b _ _) (by decide) hr.left.left hm hb hml)) ?_
  rintro _ _ ⟨rfl, rfl⟩; refine tv (by first | exact o_conv64 Try.underlying137 Try.underlying89 rfl | exact o_conv Try.underlying137 Try.underlying89 rfl) ?_; refine tl_env (d := 18) (v := .int .u64 ((crc 0 (recH p m ++ xs) : Nat) : Int)) (congrArg (fun z : Nat => Value.int .u64 (z : Int)) (Nat.mod_eq_of_lt (by omega))) ?_; refine tl_c rfl (o_call bd69 rfl (Put64_c)) ?_; rintro _ _ ⟨a19, c19, rfl, hc19, rfl⟩; refine tla ?_; refine nq ?_; refine sr ?_; refine tlm ?_; refine tlm ?_; refine tl_x rfl (o_apR Try.underlying60 Try.underlying60 sz5 by5 z5 rfl (by decide) (by decide) rfl rfl (by repeat (first | with_reducible exact ct_here | apply ct_left)) (by repeat (first | assumption | with_reducible exact rs_sl | with_reducible exact rs_pt0 | exact rs_none | apply Rs.left)) (by first | omega | (simp only [bys_length, ints_length, wds_length, bos_length, List.length_append, List.length_take, List.length_drop, List.length_singleton]; omega)) (by first | exact bys_all _ | exact ints_all _ | exact wds_all _ | exact bos_all _ | rfl) (by first | omega | (simp only [bys_length, ints_length, wds_length, bos_length, List.length_append, List.length_take, List.length_drop, List.length_singleton]; omega)) (by first | exact bys_sn _ _ | exact ints_sn _ _ | exact wds_sn _ _ | exact bos_sn _ _ | exact (bys_append _ _).symm | rfl)) ?_; rintro _ _ ⟨a22, c22, rfl, hc22, rfl⟩; refine tla ?_; refine nq ?_; refine tc_seq ?_; refine tc_block ?_
  refine tc_pre (A' := A * Sl 1 (.slice a22 (24 + m + 0) c22) (24 + m + 0) (bys (Y ++ List.replicate 0 0))) (fun g w h => by have h2 := Dr.sat (A' := A * Sl 1 (.slice a22 (8 + 8 + 8 + m) c22) (8 + 8 + 8 + m) (bys ([] ++ le 8 p ++ le 8 m ++ le 8 (crc 0 (recH p m ++ xs))) ++ bys xs)) (by repeat (first | with_reducible exact dr_refl | apply dr_keep | apply dr_drop)) g w h; rw [hZ, ← bys_append, show [] ++ le 8 p ++ le 8 m ++ le 8 Z ++ xs = Y from hY] at h2; rw [show 24 + m + 0 = 8 + 8 + 8 + m by omega, List.replicate_zero, List.append_nil]; exact h2) ?_; refine tc_loop (fun kk ρ BB => ∃ (i : Nat) (a5 : Option Addr) (c5 : Nat), (i ≤ pad8 m) ∧ (24 + m + i ≤ c5) ∧ kk = pad8 m - i ∧ ρ 5 = .slice a5 (24 + m + i) c5 ∧ Dr BB (A * Sl 1 (.slice a5 (24 + m + i) c5) (24 + m + i) (bys (Y ++ List.replicate i 0)))) (m := pad8 m - (0)) ?_ ?_
  · exact ⟨0, a22, c22, by omega, by omega, rfl, by rw [show 24 + m + 0 = 8 + 8 + 8 + m by omega]; rfl, (by repeat (first | with_reducible exact dr_refl | apply dr_keep | apply dr_drop))⟩
  · intro k ρ B hI
    obtain ⟨i, a5, c5, hp0, hp1, hkk1, hE5, hBA⟩ := hI
    refine tc_pre hBA.sat ?_
    clear hBA
    refine tc_env (d := 5) hE5 ?_
    clear hE5
    refine tc_seq ?_; refine sr ?_; refine tlm ?_; refine tv (o_len Try.underlying60 rfl) ?_; refine tv (o_remN (b := 8) rfl rfl (by decide)) ?_; refine tl_env (d := 25) (v := .int .i64 (((24 + m + i) % 8 : Nat) : Int)) (by first | rfl | (show Value.int .i64 _ = _; congr 1; omega)) ?_; refine tv (o_nei rfl rfl) ?_; refine nq ?_; refine tc_cond rfl (fun h => ?_) (fun h => ?_)
    · have hi : i < pad8 m := by have h9 : (24 + m + i) % 8 ≠ 0 := (by first | omega | (simp at h; omega)); unfold pad8 at *; omega
      have hi8 : i < 8 := by have : pad8 m < 8 := (by unfold pad8; omega); omega
      refine tc_skip ?_; refine q_then_n ?_; refine tc_block ?_; refine tc_reg ?_; refine tlm ?_; refine tl_x rfl (o_buildSliceL (k := 1) (vs := bys [0]) (l := bys [0]) Try.underlying60 sz5 z5 rfl rfl (by decide) (by decide) (by intro v hv; simp only [bys, b8, List.map_cons, List.map_nil, List.mem_cons, List.not_mem_nil, or_false] at hv; rcases hv with rfl; rfl) rfl) ?_; rintro _ _ ⟨b28, rfl, rfl⟩; refine tl_x rfl (o_apB Try.underlying60 Try.underlying60 sz5 by5 z5 rfl (by decide) (by decide) rfl rfl rfl (by repeat (first | with_reducible exact ct_here | apply ct_left)) rfl rfl (by omega) (show _ = bys (Y ++ List.replicate i 0 ++ [0]) by rw [← bys_append])) ?_; rintro _ _ ⟨a29, c29, rfl, hc29, rfl⟩; refine tla ?_; refine tl_nil ?_; refine q_block_n (q_then_n ?_); exact ⟨_, by omega, i + 1, a29, c29, by omega, by omega, rfl, rfl, by rw [List.replicate_succ', ← List.append_assoc]; repeat (first | with_reducible exact dr_refl | apply dr_keep | apply dr_drop)⟩
    · obtain rfl : i = pad8 m := by have h9 : (24 + m + i) % 8 = 0 := (by first | omega | (simp at h; omega)); unfold pad8 at *; omega
      refine tc_exit ?_; refine q_then_e (q_then_e (q_block_x (q_then_n ?_))); refine sr ?_; refine tlm ?_; refine tla ?_; refine nq ?_; refine tc_ret ?_
      rw [hYr, show 24 + up8 m = 24 + m + pad8 m by unfold up8; omega]
      exact ⟨_, _, res1 rfl rfl, fun _ _ h => h, a5, c5, rfl, hp1, rfl⟩
end Go.Vl

set_option linter.unusedVariables false
set_option linter.unusedSimpArgs false
namespace Go.Vl
open Go Go.Proofs
/-! ### Cells of records, k each -/
section
variable {α : Type} {f : α → List Value} {k : Nat}
theorem fm_length : ∀ {l : List α} (_ : ∀ a ∈ l, (f a).length = k), (l.flatMap f).length = l.length * k
  | [], _ => by simp
  | a :: l, h => by
    rw [List.flatMap_cons, List.length_append, h a (by simp), fm_length (fun x hx => h x (List.mem_cons_of_mem _ hx)), List.length_cons, Nat.add_mul]; omega
theorem fm_drop : ∀ {l : List α} {i : Nat} (_ : ∀ a ∈ l, (f a).length = k), (l.flatMap f).drop (i * k) = (l.drop i).flatMap f
  | [], i, _ => by simp
  | a :: l, 0, _ => by simp
  | a :: l, i + 1, h => by
    have e : (i + 1) * k = (f a).length + i * k := by rw [h a (by simp), Nat.add_mul]; omega
    rw [e, List.flatMap_cons, List.drop_length_add_append, fm_drop (fun x hx => h x (List.mem_cons_of_mem _ hx)), List.drop_succ_cons]
theorem fm_at {l : List α} {i : Nat} (h : ∀ a ∈ l, (f a).length = k) (hi : i < l.length) : ((l.flatMap f).drop (i * k)).take k = f l[i] := by
  rw [fm_drop h, List.drop_eq_getElem_cons hi, List.flatMap_cons]
  have := h _ (List.getElem_mem hi)
  conv => lhs; arg 1; rw [← this]
  rw [List.take_left]
theorem fm_sn (l : List α) (a : α) : l.flatMap f ++ f a = (l ++ [a]).flatMap f := by simp
end
/-! ### Iterated assertions -/
section
variable {α : Type} {f : α → SP}
def Bs (f : α → SP) : List α → SP
  | [] => emp
  | a :: l => Bs f l * f a
theorem bs_nil : Bs f [] = emp := rfl
theorem bs_cons (a : α) (l : List α) : Bs f (a :: l) = Bs f l * f a := rfl
theorem bs_append : ∀ (l m : List α), Bs f (l ++ m) = Bs f l * Bs f m
  | [], m => (emp_star _).symm
  | a :: l, m => by rw [List.cons_append, bs_cons, bs_cons, bs_append l m, star_swap]
theorem bs_snoc (l : List α) (a : α) : Bs f (l ++ [a]) = Bs f l * f a := by rw [bs_append, bs_cons, bs_nil, emp_star]
theorem bs_get : ∀ {l : List α} {i : Nat} (hi : i < l.length), ∃ R, Bs f l = R * f l[i] ∧ ∀ y, Bs f (l.set i y) = R * f y
  | a :: l, 0, _ => ⟨Bs f l, rfl, fun _ => rfl⟩
  | a :: l, i + 1, hi => by
    obtain ⟨R, h1, h2⟩ := bs_get (l := l) (i := i) (by simpa using hi)
    refine ⟨R * f a, ?_, fun y => ?_⟩
    · simp only [bs_cons, List.getElem_cons_succ]; rw [h1, star_swap]
    · simp only [List.set_cons_succ, bs_cons]; rw [h2, star_swap]
end
theorem rs_cutC {A : SP} {a : Option Addr} {cap l : Nat} {X : List Nat} (h : Rs A a (bys X)) (hx : X.length ≤ cap) : Rs A (cutAddr a cap l 1) (bys (X.drop l)) := by
  have := rs_cut (l := l) (k := 1) (cap := cap) h (by rw [bys_length]; omega)
  rw [Nat.mul_one] at this
  unfold bys at this ⊢
  rwa [← List.map_drop] at this
theorem bys_takeG (xs : List Nat) (n : Nat) : (bys xs).take n = bys (xs.take n) := by simp [bys, List.map_take]
theorem rs_mid {A : SP} {a : Option Addr} {cap l m : Nat} {X : List Nat} (h : Rs A a (bys X)) (hx : X.length ≤ cap) : Rs A (cutAddr a cap l 1) (bys ((X.drop l).take m)) := by
  rw [← bys_takeG]; exact (rs_cutC h hx).sub m
end Go.Vl

set_option linter.unusedVariables false
set_option linter.unusedSimpArgs false
namespace Go.Vl
open Go Go.Proofs
/-- A line: where its contents' list lies, where each content lies and its words; the mark. -/
structure RL where
  v : Value
  rows : List (Value × List Nat)
  mark : Int
def RL.l (x : RL) : LineS := ⟨x.rows.map Prod.snd, x.mark⟩
def rcl (x : RL) : List Value := [x.v, .int .i64 x.mark]
def rowR (p : Value × List Nat) : SP := SlR 1 p.1 64 (bys (lb p.2))
def rlR (x : RL) : SP := Sl 1 x.v x.rows.length (x.rows.map Prod.fst) * Bs rowR x.rows
def rdcs (lv : Value) (s : DevS) (av : Value) : List Value := [.int .i64 ((s.ls.length * 64 : Nat) : Int), lv, .int .i64 s.ops, av, .int .i64 s.cnt, .bool s.off]
/-- The device, its parts told. -/
def RDevC (r : Nat) (lv : Value) (rls : List RL) (av : Value) (kvs : List Value) (s : DevS) : SP :=
  pt r (cl (rdcs lv s av) 98) * Sl 2 lv s.ls.length (rls.flatMap rcl) * Bs rlR rls * ArmsR av kvs s.arms
/-- The device. -/
def RDev (r : Nat) (s : DevS) : SP := fun h => WfD s ∧ ∃ lv rls av kvs, rls.map RL.l = s.ls ∧ kvs.length = s.arms.length ∧ RDevC r lv rls av kvs s h
theorem rdev_iff {r : Nat} {s : DevS} {R : SP} {g : Gh} {w : World} : sat g w (R * RDev r s) ↔ WfD s ∧ ∃ lv rls av kvs, rls.map RL.l = s.ls ∧ kvs.length = s.arms.length ∧ sat g w (R * RDevC r lv rls av kvs s) := by
  constructor
  · intro hs
    obtain ⟨_, ⟨x, y, hd, rfl, ha, hw, lv, rls, av, kvs, h1, h2, h3⟩, hx⟩ := hs.hp
    exact ⟨hw, lv, rls, av, kvs, h1, h2, hs.os, hs.tape, hs.out, _, ⟨x, y, hd, rfl, ha, h3⟩, hx⟩
  · rintro ⟨hw, lv, rls, av, kvs, h1, h2, hs⟩
    exact hs.mono fun h ⟨x, y, hd, e, ha, hb⟩ => ⟨x, y, hd, e, ha, hw, lv, rls, av, kvs, h1, h2, hb⟩
section
variable {P : Program} {n : Nat} {Q : Post} {ρ : Env} {r : Nat} {s : DevS} {R : SP}
end
theorem rdev_back {r : Nat} {s : DevS} {R : SP} {lv av : Value} {rls : List RL} {kvs : List Value} (hw : WfD s) (h1 : rls.map RL.l = s.ls) (h2 : kvs.length = s.arms.length) : ∀ g w, sat g w (R * RDevC r lv rls av kvs s) → sat g w (R * RDev r s) :=
  fun g w hs => rdev_iff.2 ⟨hw, lv, rls, av, kvs, h1, h2, hs⟩
section
variable {r : Nat} {s : DevS} {R F : SP} {lv av : Value} {rls : List RL} {kvs : List Value}
/-- What is read of the device. -/
structure RdevR (A : SP) (r : Nat) (lv : Value) (rls : List RL) (av : Value) (s : DevS) : Prop where
  wf : WfD s
  len : rls.length = s.ls.length
  at_ : ∀ i (h : i < rls.length) (h' : i < s.ls.length), rls[i].l = s.ls[i]
  d : Rs A (some ⟨r, 0, none⟩) (rdcs lv s av)
  lv : ∃ b o c, lv = .slice (some ⟨b, o, none⟩) s.ls.length c ∧ s.ls.length ≤ c ∧ Rs A (some ⟨b, o, none⟩) (rls.flatMap rcl)
  all : ∀ i (h : i < rls.length), ∃ b o c, rls[i].v = .slice (some ⟨b, o, none⟩) rls[i].rows.length c ∧ rls[i].rows.length ≤ c ∧ Rs A (some ⟨b, o, none⟩) (rls[i].rows.map Prod.fst)
  row : ∀ i (h : i < rls.length) j (h' : j < rls[i].rows.length), ∃ b o c, rls[i].rows[j].1 = .slice (some ⟨b, o, none⟩) 64 c ∧ 64 ≤ c ∧ Rs A (some ⟨b, o, none⟩) (bys (lb rls[i].rows[j].2))
theorem rs_in {A X R : SP} {a : Option Addr} {xs : List Value} (e : A = R * X) (h : Rs (R * X) a xs) : Rs A a xs := e ▸ h
theorem rdevR_of (hw : WfD s) (h1 : rls.map RL.l = s.ls) {g : Gh} {w : World} (hs : sat g w (F * RDevC r lv rls av kvs s)) : RdevR (F * RDevC r lv rls av kvs s) r lv rls av s := by
  have hlen : rls.length = s.ls.length := by rw [← h1, List.length_map]
  have hat : ∀ i (h : i < rls.length) (h' : i < s.ls.length), rls[i].l = s.ls[i] := fun i h h' => by
    have : (rls.map RL.l)[i]? = some rls[i].l := by simp [h]
    rw [h1, List.getElem?_eq_getElem h'] at this
    exact (Option.some.inj this).symm
  have hrne : ∀ i (h : i < rls.length), 0 < rls[i].rows.length := fun i h => by
    have hl := hw.line _ (List.getElem_mem (show i < s.ls.length by omega))
    rw [← hat i h (by omega)] at hl
    have := List.length_pos_iff.2 hl.ne
    simpa [RL.l] using this
  refine ⟨hw, hlen, hat, ?_, ?_, ?_, ?_⟩
  · refine rs_in (R := F * Sl 2 lv s.ls.length (rls.flatMap rcl) * Bs rlR rls * ArmsR av kvs s.arms) (X := pt r (cl (rdcs lv s av) 98)) (by unfold RDevC; ac_rfl) rs_pt0
  · have e : F * RDevC r lv rls av kvs s = F * pt r (cl (rdcs lv s av) 98) * Bs rlR rls * ArmsR av kvs s.arms * Sl 2 lv s.ls.length (rls.flatMap rcl) := by unfold RDevC; ac_rfl
    have hpos := hw.pos
    obtain ⟨a, c, e1, e2, e3, e4⟩ := sl_have' e hs
    obtain ⟨b, o, rfl, hc⟩ := e4.some (by rw [e3]; omega)
    exact ⟨b, o, c, e1, e2, rs_rd (rd_cells hc)⟩
  · intro i h
    obtain ⟨R, hR, _⟩ := bs_get (f := rlR) h
    have e : F * RDevC r lv rls av kvs s = F * pt r (cl (rdcs lv s av) 98) * Sl 2 lv s.ls.length (rls.flatMap rcl) * R * Bs rowR rls[i].rows * ArmsR av kvs s.arms * Sl 1 rls[i].v rls[i].rows.length (rls[i].rows.map Prod.fst) := by unfold RDevC; rw [hR]; unfold rlR; ac_rfl
    have hpos := hrne i h
    obtain ⟨a, c, e1, e2, e3, e4⟩ := sl_have' e hs
    obtain ⟨b, o, rfl, hc⟩ := e4.some (by rw [e3]; omega)
    exact ⟨b, o, c, e1, e2, rs_rd (rd_cells hc)⟩
  · intro i h j h'
    obtain ⟨R, hR, _⟩ := bs_get (f := rlR) h
    obtain ⟨R', hR', _⟩ := bs_get (f := rowR) h'
    have e : F * RDevC r lv rls av kvs s = F * pt r (cl (rdcs lv s av) 98) * Sl 2 lv s.ls.length (rls.flatMap rcl) * R * Sl 1 rls[i].v rls[i].rows.length (rls[i].rows.map Prod.fst) * R' * ArmsR av kvs s.arms * SlR 1 rls[i].rows[j].1 64 (bys (lb rls[i].rows[j].2)) := by
      unfold RDevC; rw [hR]; unfold rlR; rw [hR']; unfold rowR; ac_rfl
    obtain ⟨a, c, e1, e2, e3, e4⟩ := slR_have e hs
    obtain ⟨b, o, rfl, hc⟩ := e4.some (by rw [e3]; omega)
    exact ⟨b, o, c, e1, e2, rs_rd (rd_cells hc)⟩
theorem RdevR.left {A X : SP} (h : RdevR A r lv rls av s) : RdevR (A * X) r lv rls av s :=
  ⟨h.wf, h.len, h.at_, h.d.left, let ⟨b, o, c, e1, e2, e3⟩ := h.lv; ⟨b, o, c, e1, e2, e3.left⟩, fun i hi => let ⟨b, o, c, e1, e2, e3⟩ := h.all i hi; ⟨b, o, c, e1, e2, e3.left⟩,
    fun i hi j hj => let ⟨b, o, c, e1, e2, e3⟩ := h.row i hi j hj; ⟨b, o, c, e1, e2, e3.left⟩⟩
theorem RdevR.rows {A : SP} (h : RdevR A r lv rls av s) {i : Nat} (hi : i < rls.length) (hi' : i < s.ls.length) : rls[i].rows.length = s.ls[i].st.length := by
  rw [← h.at_ i hi hi']; simp [RL.l]
theorem RdevR.snd {A : SP} (h : RdevR A r lv rls av s) {i j : Nat} (hi : i < rls.length) (hi' : i < s.ls.length) (hj : j < rls[i].rows.length) : rls[i].rows[j].2 = s.ls[i].st[j]'(by rw [← h.rows hi hi']; exact hj) := by
  have := h.at_ i hi hi'
  have e : s.ls[i].st = rls[i].rows.map Prod.snd := by rw [← this]; rfl
  simp only [e, List.getElem_map]
theorem RdevR.mark {A : SP} (h : RdevR A r lv rls av s) {i : Nat} (hi : i < rls.length) (hi' : i < s.ls.length) : rls[i].mark = s.ls[i].mark := by rw [← h.at_ i hi hi']; rfl
end
end Go.Vl

set_option linter.unusedVariables false
set_option linter.unusedSimpArgs false
namespace Go.Vl
open Go Go.Proofs
theorem fn_rdevR0 {P : Program} {f : FuncId} {args : Array Value} {F : SP} {r : Nat} {s : DevS} {q : Value → Prop}
    (h : ∀ A lv rls av, RdevR A r lv rls av s → Fn P f args A fun v B => q v ∧ A = B) :
    Fn P f args (F * RDev r s) fun v B => q v ∧ F * RDev r s = B := fun g w hs => by
  obtain ⟨hw, lv, rls, av, kvs, h1, h2, hs'⟩ := rdev_iff.1 hs
  refine (h _ lv rls av (rdevR_of hw h1 hs') g w hs').mono ?_; rintro e w' ⟨v, B, e1, ⟨hq, rfl⟩, hB⟩; exact ⟨v, F * RDev r s, e1, ⟨hq, rfl⟩, rdev_back hw h1 h2 _ _ hB⟩
theorem fn_rdevR {P : Program} {f : FuncId} {args : Array Value} {F : SP} {r : Nat} {s : DevS} {q : Value → SP → Prop}
    (h : ∀ A lv rls av, RdevR A r lv rls av s → Fn P f args A fun v B => ∃ X, B = A * X ∧ q v X) :
    Fn P f args (F * RDev r s) fun v B => ∃ X, B = F * RDev r s * X ∧ q v X := fun g w hs => by
  obtain ⟨hw, lv, rls, av, kvs, h1, h2, hs'⟩ := rdev_iff.1 hs
  refine (h _ lv rls av (rdevR_of hw h1 hs') g w hs').mono ?_; rintro e w' ⟨v, B, e1, ⟨X, rfl, hq⟩, hB⟩; refine ⟨v, _, e1, ⟨X, rfl, hq⟩, ?_⟩
  have h3 := rdev_back (R := F * X) hw h1 h2 _ _ (hB.perm (star_swap _ _ _))
  exact h3.perm (star_swap _ _ _)
section
variable {A : SP} {r : Nat} {lv av : Value} {rls : List RL} {s : DevS}
theorem RdevR.pos (h : RdevR A r lv rls av s) {i : Nat} (hi : i < rls.length) : 0 < rls[i].rows.length := by
  have h' : i < s.ls.length := by rw [← h.len]; exact hi
  rw [h.rows hi h']
  exact List.length_pos_iff.2 (h.wf.line _ (List.getElem_mem h')).ne
theorem RdevR.small (h : RdevR A r lv rls av s) {i : Nat} (hi : i < rls.length) : rls[i].rows.length ≤ 2199023255552 := by
  have h' : i < s.ls.length := by rw [← h.len]; exact hi
  rw [h.rows hi h']
  exact (h.wf.line _ (List.getElem_mem h')).small
/-- The content that is seen. -/
theorem RdevR.top (h : RdevR A r lv rls av s) {i : Nat} (hi : i < rls.length) (hi' : i < s.ls.length) : ∃ b o c, (rls[i].rows.map Prod.fst)[rls[i].rows.length - 1]? = some (.slice (some ⟨b, o, none⟩) 64 c) ∧ 64 ≤ c ∧ Rs A (some ⟨b, o, none⟩) (bys (lb (seenL s.ls[i]))) := by
  have hp := h.pos hi
  obtain ⟨b, o, c, e1, e2, e3⟩ := h.row i hi (rls[i].rows.length - 1) (by omega)
  refine ⟨b, o, c, ?_, e2, ?_⟩
  · rw [List.getElem?_map, List.getElem?_eq_getElem (by omega)]; simp [e1]
  · rw [h.snd hi hi' (by omega)] at e3
    have e : seenL s.ls[i] = s.ls[i].st[rls[i].rows.length - 1]'(by rw [← h.rows hi hi']; omega) := by
      unfold seenL; simp only [← h.rows hi hi']
      simp [List.getD, show rls[i].rows.length - 1 < s.ls[i].st.length by rw [← h.rows hi hi']; omega]
    rw [e]; exact e3
end
attribute [local irreducible] Sl pt ro imgS
theorem rfits_c {A : SP} {p : Int} :
    Fn Try.prog 43 #[.int .i64 p] (A) (fun r B => r = .bool (fitsB p) ∧ A = B) := by
  refine fn_enterW (args := [.int .i64 p]) Try.func43 rfl Try.ntmps43 (by simp) ?_; refine sr ?_; refine tla ?_; refine nq ?_; refine sr ?_; refine tlm ?_; refine tv (o_geq rfl rfl) ?_; refine tlm ?_; refine tl_bool (d := 5) rfl (fun h => ?_) (fun h => ?_)
  · try simp only [lv1, lv2, lv3, lv4, lv5, lv6, Bool.not_true, Bool.not_false] at h
    refine tlm ?_; refine tv (o_leq rfl rfl) ?_; refine tv (o_pick_t rfl (by conv => lhs; whnf)) ?_; refine tlm ?_; refine tl_bool (d := 9) rfl (fun h => ?_) (fun h => ?_)
    · try simp only [lv1, lv2, lv3, lv4, lv5, lv6, Bool.not_true, Bool.not_false] at h
      refine tlm ?_; refine tv (by first | exact o_remI rfl rfl (by omega) | exact o_rem rfl rfl (by omega)) ?_; refine tv (o_eqi rfl rfl) ?_; refine tv (o_pick_t rfl (by conv => lhs; whnf)) ?_; refine tla ?_; refine nq ?_; refine tc_ret ?_; refine ⟨.bool (decide (p % 64 = 0)), _, res1 rfl rfl, ?_, by unfold fitsB; congr 1; rw [decide_eq_decide]; omega, rfl⟩; exact Dr.sat (by repeat (first | with_reducible exact dr_refl | apply dr_keep | apply dr_drop))
    · try simp only [lv1, lv2, lv3, lv4, lv5, lv6, Bool.not_true, Bool.not_false] at h
      refine tk ?_; refine tk ?_; refine tk ?_; refine tv (o_pick_f rfl (by conv => lhs; whnf)) ?_; refine tla ?_; refine nq ?_; refine tc_ret ?_; refine ⟨.bool false, _, res1 rfl rfl, ?_, by unfold fitsB; rw [decide_eq_false (by omega)], rfl⟩; exact Dr.sat (by repeat (first | with_reducible exact dr_refl | apply dr_keep | apply dr_drop))
  · try simp only [lv1, lv2, lv3, lv4, lv5, lv6, Bool.not_true, Bool.not_false] at h
    refine tk ?_; refine tk ?_; refine tv (o_pick_f rfl (by conv => lhs; whnf)) ?_; refine tlm ?_; refine tk ?_; refine tk ?_; refine tk ?_; refine tv (o_pick_f rfl (by conv => lhs; whnf)) ?_; refine tla ?_; refine nq ?_; refine tc_ret ?_; refine ⟨.bool false, _, res1 rfl rfl, ?_, by unfold fitsB; rw [decide_eq_false (by omega)], rfl⟩; exact Dr.sat (by repeat (first | with_reducible exact dr_refl | apply dr_keep | apply dr_drop))
end Go.Vl

set_option linter.unusedVariables false
set_option linter.unusedSimpArgs false
namespace Go.Vl
open Go Go.Proofs
theorem nm_rep0 : ∀ k, nm (List.replicate k 0) = 0
  | 0 => rfl
  | k + 1 => by rw [List.replicate_succ]; show 0 + 256 * nm (List.replicate k 0) = 0; rw [nm_rep0 k]
theorem fromS_zero (n : Nat) : fromS n (List.replicate (n * 64) 0) = newS n := by
  have hz : ∀ i, lineF (List.replicate (n * 64) 0) i = zline := fun i => by
    unfold lineF zline
    congr 2
    apply List.ext_getElem
    · simp
    · intro j h1 h2
      simp only [List.getElem_mapIdx, List.getElem_replicate, wordF, List.drop_replicate, List.take_replicate]
      exact nm_rep0 _
  unfold fromS
  have : (newS n).ls.mapIdx (fun i _ => lineF (List.replicate (n * 64) 0) i) = (newS n).ls := by
    simp only [hz]
    apply List.ext_getElem
    · simp
    · intro j h1 h2; simp [newS]
  rw [this]
theorem fromS_len (n : Nat) (xs : List Nat) : (fromS n xs).ls.length = n := by simp [fromS, newS]
theorem fromS_at {n : Nat} (xs : List Nat) {i : Nat} (h : i < n) : (fromS n xs).ls[i]'(by rw [fromS_len]; exact h) = lineF xs i := by simp [fromS]
theorem bys_rep (k : Nat) : List.replicate k (.int .u8 0) = bys (List.replicate k 0) := by simp [bys, b8]
attribute [local irreducible] Sl pt ro
set_option maxRecDepth 20000 in
set_option maxHeartbeats 1000000 in
theorem rFrom_c {F : SP} {a : Option Addr} {c m : Nat} {xs : List Nat} (n : Nat) (hr : Rs F a (bys xs) := by repeat (first | assumption | with_reducible exact rs_sl | with_reducible exact rs_pt0 | exact rs_none | apply Rs.left)) (hx : xs.length = m := by first | assumption | rfl) (hm : m = n * 64 := by omega) (hmc : m ≤ c := by omega) (hb : ∀ x ∈ xs, x < 256 := by assumption) (hn : 0 < n := by omega) (hn2 : n ≤ 65536 := by omega) :
    Fn Try.prog 44 #[.slice a m c] (F) (fun v B => ∃ d, v = .tuple #[.pointer (some ⟨d, 0, none⟩), .int .i64 0] ∧ B = F * RDev d (fromS n xs)) := by
  refine fn_enterW (args := [.slice a m c]) Try.func44 rfl Try.ntmps44 (by simp) ?_
  have hfit : fitsB (m : Int) = true := by unfold fitsB; simp; omega
  refine sr ?_; refine tla ?_; refine tla ?_; refine nq ?_; refine tc_seq ?_; refine sr ?_; refine tlm ?_; refine tv (o_len Try.underlying60 rfl) ?_; refine tl_c rfl (o_call bd43 rfl (rfits_c (p := (m : Nat)))) ?_; rintro _ _ ⟨rfl, rfl⟩; refine tv (o_not rfl) ?_; refine nq ?_; refine tc_cond rfl (fun h => ?_) (fun h => ?_)
  · exfalso; rw [hfit] at h; exact absurd h (by decide)
  · try simp only [lv1, lv2, lv3, lv4, lv5, lv6, Bool.not_true, Bool.not_false] at h
    refine tc_skip ?_; refine q_then_n ?_; refine sr ?_; refine tlm ?_; refine tv (o_len Try.underlying60 rfl) ?_; refine tv (o_bS (l := [.int .i64 (m : Nat), .slice none 0 0, .int .i64 0, .slice none 0 0, .int .i64 0, .bool false]) (pv_cons (by conv => lhs; whnf) pv_nil) Try.underlying98 z98 (pl98 Try.underlying98) rfl) ?_; refine tl_x rfl (o_box rfl rfl) ?_; rintro _ _ ⟨b13, rfl, rfl⟩; refine tl_pre (A' := F * Bs rlR [] * pt b13 (cl ([.int .i64 ((n * 64 : Nat) : Int), .slice none 0 0, .int .i64 0, .slice none 0 0, .int .i64 0, .bool false]) 98) * Sl 2 (.slice none 0 0) 0 []) (fun _ _ h => sl_nil (by rw [bs_nil, star_emp, ← hm]; exact h)) ?_; refine tla ?_; refine nq ?_; refine tc_seq ?_; refine sr ?_; refine tla ?_; refine nq ?_; refine tc_block ?_; refine tc_loop (fun kk ρ BB => ∃ (i : Nat) (aL : Option Addr) (cL : Nat) (rls1 : List RL), (i ≤ n) ∧ (rls1.map RL.l = (fromS n xs).ls.take i) ∧ kk = n - i ∧ ρ 5 = .int .i64 ((i * 64 : Nat) : Int) ∧ ρ 0 = .slice a m c ∧ ρ 4 = .pointer (some ⟨b13, 0, none⟩) ∧ BB = F * Bs rlR rls1 * pt b13 (cl ([.int .i64 ((n * 64 : Nat) : Int), .slice aL i cL, .int .i64 0, .slice none 0 0, .int .i64 0, .bool false]) 98) * Sl 2 (.slice aL i cL) i (rls1.flatMap rcl)) (m := n - (0)) ?_ ?_
    · exact ⟨0, none, 0, [], by omega, rfl, rfl, rfl, rfl, rfl, rfl⟩
    · intro k ρ B hI
      obtain ⟨i, aL, cL, rls1, hp0, hp1, hkk1, hE5, hE0, hE4, rfl⟩ := hI
      refine tc_env (d := 5) hE5 ?_; refine tc_env (d := 0) hE0 ?_; refine tc_env (d := 4) hE4 ?_
      clear hE5 hE0 hE4
      refine tc_seq ?_; refine sr ?_; refine tlm ?_; refine tlm ?_; refine tv (o_len Try.underlying60 rfl) ?_; refine tv (o_lss rfl rfl) ?_; refine nq ?_; refine tc_cond rfl (fun h => ?_) (fun h => ?_)
      · have hi : i < n := by simp at h; omega
        have hrl : rls1.length = i := by have := congrArg List.length hp1; rw [List.length_map, List.length_take, fromS_len] at this; omega
        have hxl : ((xs.drop (i * 64)).take 64).length = 64 := by rw [List.length_take, List.length_drop]; omega
        have hlf := lineF_lb hb (show i * 64 + 64 ≤ xs.length by omega)
        refine tc_skip ?_; refine q_then_n ?_; refine tc_seq ?_; refine tc_block ?_; refine tc_regh (S := F * Bs rlR rls1) mo (by repeat (first | with_reducible exact dr_refl | apply dr_keep | apply dr_drop)) ?_
        show TH _ _ _ _ _ 18 #[ff,ff,ff,ff,ff,ff,ff,ff,ff,ff,ff,ff,ff,ff,ff,ff,ff,ff] _ _
        refine th_take (i := 0) (listed' := #[tt,ff,ff,ff,ff,ff,ff,ff,ff,ff,ff,ff,ff,ff,ff,ff,ff,ff]) rfl (by kernel_rfl) (by kernel_rfl) (by kernel_rfl) rfl rfl (o_move (by conv => lhs; whnf)) ?_; refine th_take (i := 1) (listed' := #[tt,tt,ff,ff,ff,ff,ff,ff,ff,ff,ff,ff,ff,ff,ff,ff,ff,ff]) rfl (by kernel_rfl) (by kernel_rfl) (by kernel_rfl) rfl rfl (o_move (by conv => lhs; whnf)) ?_; refine th_take (i := 2) (listed' := #[tt,tt,tt,ff,ff,ff,ff,ff,ff,ff,ff,ff,ff,ff,ff,ff,ff,ff]) rfl (by kernel_rfl) (by kernel_rfl) (by kernel_rfl) rfl rfl (o_nilCheck rfl) ?_; refine th_take (i := 3) (listed' := #[tt,tt,tt,tt,ff,ff,ff,ff,ff,ff,ff,ff,ff,ff,ff,ff,ff,ff]) rfl (by kernel_rfl) (by kernel_rfl) (by kernel_rfl) rfl rfl (o_fieldAddr (o := 1) Try.underlying98 rfl rfl sz96 rfl) ?_; refine th_take (i := 5) (listed' := #[tt,tt,tt,tt,ff,tt,ff,ff,ff,ff,ff,ff,ff,ff,ff,ff,ff,ff]) rfl (by kernel_rfl) (by kernel_rfl) (by kernel_rfl) rfl rfl (o_move (by conv => lhs; whnf)) ?_; refine th_take (i := 6) (listed' := #[tt,tt,tt,tt,ff,tt,tt,ff,ff,ff,ff,ff,ff,ff,ff,ff,ff,ff]) rfl (by kernel_rfl) (by kernel_rfl) (by kernel_rfl) rfl rfl (o_move (by conv => lhs; whnf)) ?_; refine th_take (i := 7) (listed' := #[tt,tt,tt,tt,ff,tt,tt,tt,ff,ff,ff,ff,ff,ff,ff,ff,ff,ff]) rfl (by kernel_rfl) (by kernel_rfl) (by kernel_rfl) rfl rfl (o_move (by conv => lhs; whnf)) ?_; refine th_take (i := 8) (listed' := #[tt,tt,tt,tt,ff,tt,tt,tt,tt,ff,ff,ff,ff,ff,ff,ff,ff,ff]) rfl (by kernel_rfl) (by kernel_rfl) (by kernel_rfl) rfl rfl (o_addI rfl rfl (by omega)) ?_
        refine th_env (d := 28) (v := .int .i64 ((i * 64 + 64 : Nat) : Int)) (rfl) ?_; refine th_take (i := 9) (listed' := #[tt,tt,tt,tt,ff,tt,tt,tt,tt,tt,ff,ff,ff,ff,ff,ff,ff,ff]) rfl (by kernel_rfl) (by kernel_rfl) (by kernel_rfl) rfl rfl (o_slice (l := i * 64) (h := i * 64 + 64) Try.underlying60 sz5 rfl (bnd_nat rfl) (bnd_nat rfl) (by omega) (by omega)) ?_; refine th_env (d := 29) (v := .slice (cutAddr a c (i * 64) 1) 64 (c - i * 64)) (by show Value.slice _ (i * 64 + 64 - i * 64) _ = _; rw [Nat.add_sub_cancel_left]) ?_; refine th_two (i := 4) (j := 10) (by kernel_rfl) ?_ ?_
        · skip
          refine oh_v (i := 4) (listed' := #[tt,tt,tt,tt,tt,tt,tt,tt,tt,tt,ff,ff,ff,ff,ff,ff,ff,ff]) rfl rfl rfl (o_load p96 rfl (by repeat (first | with_reducible exact has_here | with_reducible exact has_pt | apply has_left)) rfl) ?_; refine th_one (i := 10) (by kernel_rfl) ?_; refine oh_c (i := 10) (listed' := #[tt,tt,tt,tt,tt,tt,tt,tt,tt,tt,tt,ff,ff,ff,ff,ff,ff,ff]) rfl rfl rfl (o_call bd59 rfl (CopyBytes_c (xs := (xs.drop (i * 64)).take 64) (hr := (by repeat (first | exact rs_mid hr (by omega) | apply Rs.left))) (hm := hxl))) ?_; rintro _ _ ⟨a30, c30, rfl, hc30, rfl⟩; refine ⟨by repeat (first | with_reducible exact dr_refl | apply dr_keep | apply dr_drop), ?_⟩; refine th_one (i := 11) (by kernel_rfl) ?_; refine oh_x (i := 11) (listed' := #[tt,tt,tt,tt,tt,tt,tt,tt,tt,tt,tt,tt,ff,ff,ff,ff,ff,ff]) rfl rfl rfl (o_buildSlice1 Try.underlying68 sz60 z60 rfl rfl) ?_; rintro _ _ ⟨b31, rfl, rfl⟩; refine ⟨by repeat (first | with_reducible exact dr_refl | apply dr_keep | apply dr_drop), ?_⟩; refine th_take (i := 12) (listed' := #[tt,tt,tt,tt,tt,tt,tt,tt,tt,tt,tt,tt,tt,ff,ff,ff,ff,ff]) rfl (by kernel_rfl) (by kernel_rfl) (by kernel_rfl) rfl rfl (o_bS (l := [_, _]) (pv_cons (by conv => lhs; whnf) (pv_cons (by conv => lhs; whnf) pv_nil)) Try.underlying126 z126 (pl126 Try.underlying126) rfl) ?_; refine th_one (i := 13) (by kernel_rfl) ?_; refine oh_x (i := 13) (listed' := #[tt,tt,tt,tt,tt,tt,tt,tt,tt,tt,tt,tt,tt,tt,ff,ff,ff,ff]) rfl rfl rfl (o_buildSliceK (k := 2) (l := [.slice (some ⟨b31, 0, none⟩) 1 1, .int .i64 (-1)]) Try.underlying96 sz126 z126 rfl rfl (by decide)) ?_
          rintro _ _ ⟨b33, rfl, rfl⟩; refine ⟨by repeat (first | with_reducible exact dr_refl | apply dr_keep | apply dr_drop), ?_⟩; refine th_one (i := 14) (by kernel_rfl) ?_; refine oh_x (i := 14) (listed' := #[tt,tt,tt,tt,tt,tt,tt,tt,tt,tt,tt,tt,tt,tt,tt,ff,ff,ff]) rfl rfl rfl (o_apB Try.underlying96 Try.underlying96 sz126 by126 z126 rfl (by decide) (by decide) rfl rfl rfl (by repeat (first | with_reducible exact ct_here | apply ct_left)) rfl rfl (by omega) (fm_sn rls1 ((⟨.slice (some ⟨b31, 0, none⟩) 1 1, [(.slice a30 64 c30, seenL (lineF xs i))], -1⟩ : RL)))) ?_; rintro _ _ ⟨a34, c34, rfl, hc34, rfl⟩; refine ⟨by repeat (first | with_reducible exact dr_refl | apply dr_keep | apply dr_drop), ?_⟩; refine th_take (i := 15) (listed' := #[tt,tt,tt,tt,tt,tt,tt,tt,tt,tt,tt,tt,tt,tt,tt,tt,ff,ff]) rfl (by kernel_rfl) (by kernel_rfl) (by kernel_rfl) rfl rfl (o_nilCheck rfl) ?_; refine th_take (i := 16) (listed' := #[tt,tt,tt,tt,tt,tt,tt,tt,tt,tt,tt,tt,tt,tt,tt,tt,tt,ff]) rfl (by kernel_rfl) (by kernel_rfl) (by kernel_rfl) rfl rfl (o_fieldAddr (o := 1) Try.underlying98 rfl rfl sz96 rfl) ?_; refine th_one (i := 17) (by kernel_rfl) ?_; refine oh_u (i := 17) (listed' := #[tt,tt,tt,tt,tt,tt,tt,tt,tt,tt,tt,tt,tt,tt,tt,tt,tt,tt]) rfl rfl rfl (o_stU (l' := [.int .i64 ((n * 64 : Nat) : Int), .slice a34 (i + 1) c34, .int .i64 0, .slice none 0 0, .int .i64 0, .bool false]) rfl (by repeat (first | with_reducible exact upd_here | with_reducible exact upd_pt | apply upd_left)) sz96 rfl rfl (by show 1 < 6; decide) rfl) (by repeat (first | with_reducible exact dr_refl | apply dr_keep | apply dr_drop)) ?_
          refine th_done (by kernel_rfl) ?_; refine q_block_n (q_then_n ?_)
          have hnext : (rls1 ++ [(⟨.slice (some ⟨b31, 0, none⟩) 1 1, [(.slice a30 64 c30, seenL (lineF xs i))], -1⟩ : RL)]).map RL.l = (fromS n xs).ls.take (i + 1) := by
            rw [List.map_append, hp1, List.take_succ_eq_append_getElem (by rw [fromS_len]; exact hi), fromS_at xs hi]; rfl
          refine tc_pre (A' := F * Bs rlR (rls1 ++ [(⟨.slice (some ⟨b31, 0, none⟩) 1 1, [(.slice a30 64 c30, seenL (lineF xs i))], -1⟩ : RL)]) * pt b13 (cl ([.int .i64 ((n * 64 : Nat) : Int), .slice a34 (i + 1) c34, .int .i64 0, .slice none 0 0, .int .i64 0, .bool false]) 98) * Sl 2 (.slice a34 (i + 1) c34) (i + 1) ((rls1 ++ [(⟨.slice (some ⟨b31, 0, none⟩) 1 1, [(.slice a30 64 c30, seenL (lineF xs i))], -1⟩ : RL)]).flatMap rcl)) (fun _ _ h => ?_) ?_
          · have e : rlR (⟨.slice (some ⟨b31, 0, none⟩) 1 1, [(.slice a30 64 c30, seenL (lineF xs i))], -1⟩ : RL) = Sl 1 (.slice (some ⟨b31, 0, none⟩) 1 1) 1 [.slice a30 64 c30] * SlR 1 (.slice a30 64 c30) 64 (bys ((xs.drop (i * 64)).take 64)) := by
              show Sl 1 _ 1 [_] * Bs rowR [_] = _
              rw [bs_cons, bs_nil, emp_star]
              show _ * SlR 1 _ 64 (bys (lb (seenL (lineF xs i)))) = _
              rw [hlf]
            rw [bs_snoc, e]
            have h1 := sl_share (h.perm (show _ = F * Bs rlR rls1 * pt b13 (cl ([.int .i64 ((n * 64 : Nat) : Int), .slice a34 (i + 1) c34, .int .i64 0, .slice none 0 0, .int .i64 0, .bool false]) 98) * Sl 2 (.slice a34 (i + 1) c34) (i + 1) ((rls1 ++ [(⟨.slice (some ⟨b31, 0, none⟩) 1 1, [(.slice a30 64 c30, seenL (lineF xs i))], -1⟩ : RL)]).flatMap rcl) * pt b31 (cl [.slice a30 64 c30] 60) * Sl 1 (.slice a30 64 c30) 64 (bys ((xs.drop (i * 64)).take 64)) by ac_rfl))
            have h2 := sl_new (k := 1) (n := 1) (cap := 1) (xs := [.slice a30 64 c30]) (h1.perm (star_swap _ _ _)) (by decide) (Nat.le_refl _) rfl
            exact h2.perm (by ac_rfl)
          refine tc_reg ?_; refine tlm ?_; refine tv (by first | exact o_addI rfl rfl (by omega) | exact o_add rfl rfl) ?_; refine tl_env (d := 19) (v := .int .i64 (((i + 1) * 64 : Nat) : Int)) (by show Value.int .i64 _ = _; congr 1; omega) ?_; refine tla ?_; refine nq ?_; exact ⟨_, by omega, i + 1, a34, c34, rls1 ++ [(⟨.slice (some ⟨b31, 0, none⟩) 1 1, [(.slice a30 64 c30, seenL (lineF xs i))], -1⟩ : RL)], by omega, hnext, rfl, rfl, rfl, rfl, rfl⟩
        · skip
          refine oh_c (i := 10) (listed' := #[tt,tt,tt,tt,ff,tt,tt,tt,tt,tt,tt,ff,ff,ff,ff,ff,ff,ff]) rfl rfl rfl (o_call bd59 rfl (CopyBytes_c (xs := (xs.drop (i * 64)).take 64) (hr := (by repeat (first | exact rs_mid hr (by omega) | apply Rs.left))) (hm := hxl))) ?_; rintro _ _ ⟨a30, c30, rfl, hc30, rfl⟩; refine ⟨by repeat (first | with_reducible exact dr_refl | apply dr_keep | apply dr_drop), ?_⟩; refine th_two (i := 4) (j := 11) (by kernel_rfl) ?_ ?_
          · skip
            refine oh_v (i := 4) (listed' := #[tt,tt,tt,tt,tt,tt,tt,tt,tt,tt,tt,ff,ff,ff,ff,ff,ff,ff]) rfl rfl rfl (o_load p96 rfl (by repeat (first | with_reducible exact has_here | with_reducible exact has_pt | apply has_left)) rfl) ?_; refine th_one (i := 11) (by kernel_rfl) ?_; refine oh_x (i := 11) (listed' := #[tt,tt,tt,tt,tt,tt,tt,tt,tt,tt,tt,tt,ff,ff,ff,ff,ff,ff]) rfl rfl rfl (o_buildSlice1 Try.underlying68 sz60 z60 rfl rfl) ?_; rintro _ _ ⟨b31, rfl, rfl⟩; refine ⟨by repeat (first | with_reducible exact dr_refl | apply dr_keep | apply dr_drop), ?_⟩; refine th_take (i := 12) (listed' := #[tt,tt,tt,tt,tt,tt,tt,tt,tt,tt,tt,tt,tt,ff,ff,ff,ff,ff]) rfl (by kernel_rfl) (by kernel_rfl) (by kernel_rfl) rfl rfl (o_bS (l := [_, _]) (pv_cons (by conv => lhs; whnf) (pv_cons (by conv => lhs; whnf) pv_nil)) Try.underlying126 z126 (pl126 Try.underlying126) rfl) ?_; refine th_one (i := 13) (by kernel_rfl) ?_; refine oh_x (i := 13) (listed' := #[tt,tt,tt,tt,tt,tt,tt,tt,tt,tt,tt,tt,tt,tt,ff,ff,ff,ff]) rfl rfl rfl (o_buildSliceK (k := 2) (l := [.slice (some ⟨b31, 0, none⟩) 1 1, .int .i64 (-1)]) Try.underlying96 sz126 z126 rfl rfl (by decide)) ?_; rintro _ _ ⟨b33, rfl, rfl⟩; refine ⟨by repeat (first | with_reducible exact dr_refl | apply dr_keep | apply dr_drop), ?_⟩; refine th_one (i := 14) (by kernel_rfl) ?_; refine oh_x (i := 14) (listed' := #[tt,tt,tt,tt,tt,tt,tt,tt,tt,tt,tt,tt,tt,tt,tt,ff,ff,ff]) rfl rfl rfl (o_apB Try.underlying96 Try.underlying96 sz126 by126 z126 rfl (by decide) (by decide) rfl rfl rfl (by repeat (first | with_reducible exact ct_here | apply ct_left)) rfl rfl (by omega) (fm_sn rls1 ((⟨.slice (some ⟨b31, 0, none⟩) 1 1, [(.slice a30 64 c30, seenL (lineF xs i))], -1⟩ : RL)))) ?_
            rintro _ _ ⟨a34, c34, rfl, hc34, rfl⟩; refine ⟨by repeat (first | with_reducible exact dr_refl | apply dr_keep | apply dr_drop), ?_⟩; refine th_take (i := 15) (listed' := #[tt,tt,tt,tt,tt,tt,tt,tt,tt,tt,tt,tt,tt,tt,tt,tt,ff,ff]) rfl (by kernel_rfl) (by kernel_rfl) (by kernel_rfl) rfl rfl (o_nilCheck rfl) ?_; refine th_take (i := 16) (listed' := #[tt,tt,tt,tt,tt,tt,tt,tt,tt,tt,tt,tt,tt,tt,tt,tt,tt,ff]) rfl (by kernel_rfl) (by kernel_rfl) (by kernel_rfl) rfl rfl (o_fieldAddr (o := 1) Try.underlying98 rfl rfl sz96 rfl) ?_; refine th_one (i := 17) (by kernel_rfl) ?_; refine oh_u (i := 17) (listed' := #[tt,tt,tt,tt,tt,tt,tt,tt,tt,tt,tt,tt,tt,tt,tt,tt,tt,tt]) rfl rfl rfl (o_stU (l' := [.int .i64 ((n * 64 : Nat) : Int), .slice a34 (i + 1) c34, .int .i64 0, .slice none 0 0, .int .i64 0, .bool false]) rfl (by repeat (first | with_reducible exact upd_here | with_reducible exact upd_pt | apply upd_left)) sz96 rfl rfl (by show 1 < 6; decide) rfl) (by repeat (first | with_reducible exact dr_refl | apply dr_keep | apply dr_drop)) ?_; refine th_done (by kernel_rfl) ?_; refine q_block_n (q_then_n ?_)
            have hnext : (rls1 ++ [(⟨.slice (some ⟨b31, 0, none⟩) 1 1, [(.slice a30 64 c30, seenL (lineF xs i))], -1⟩ : RL)]).map RL.l = (fromS n xs).ls.take (i + 1) := by
              rw [List.map_append, hp1, List.take_succ_eq_append_getElem (by rw [fromS_len]; exact hi), fromS_at xs hi]; rfl
            refine tc_pre (A' := F * Bs rlR (rls1 ++ [(⟨.slice (some ⟨b31, 0, none⟩) 1 1, [(.slice a30 64 c30, seenL (lineF xs i))], -1⟩ : RL)]) * pt b13 (cl ([.int .i64 ((n * 64 : Nat) : Int), .slice a34 (i + 1) c34, .int .i64 0, .slice none 0 0, .int .i64 0, .bool false]) 98) * Sl 2 (.slice a34 (i + 1) c34) (i + 1) ((rls1 ++ [(⟨.slice (some ⟨b31, 0, none⟩) 1 1, [(.slice a30 64 c30, seenL (lineF xs i))], -1⟩ : RL)]).flatMap rcl)) (fun _ _ h => ?_) ?_
            · have e : rlR (⟨.slice (some ⟨b31, 0, none⟩) 1 1, [(.slice a30 64 c30, seenL (lineF xs i))], -1⟩ : RL) = Sl 1 (.slice (some ⟨b31, 0, none⟩) 1 1) 1 [.slice a30 64 c30] * SlR 1 (.slice a30 64 c30) 64 (bys ((xs.drop (i * 64)).take 64)) := by
                show Sl 1 _ 1 [_] * Bs rowR [_] = _
                rw [bs_cons, bs_nil, emp_star]
                show _ * SlR 1 _ 64 (bys (lb (seenL (lineF xs i)))) = _
                rw [hlf]
              rw [bs_snoc, e]
              have h1 := sl_share (h.perm (show _ = F * Bs rlR rls1 * pt b13 (cl ([.int .i64 ((n * 64 : Nat) : Int), .slice a34 (i + 1) c34, .int .i64 0, .slice none 0 0, .int .i64 0, .bool false]) 98) * Sl 2 (.slice a34 (i + 1) c34) (i + 1) ((rls1 ++ [(⟨.slice (some ⟨b31, 0, none⟩) 1 1, [(.slice a30 64 c30, seenL (lineF xs i))], -1⟩ : RL)]).flatMap rcl) * pt b31 (cl [.slice a30 64 c30] 60) * Sl 1 (.slice a30 64 c30) 64 (bys ((xs.drop (i * 64)).take 64)) by ac_rfl))
              have h2 := sl_new (k := 1) (n := 1) (cap := 1) (xs := [.slice a30 64 c30]) (h1.perm (star_swap _ _ _)) (by decide) (Nat.le_refl _) rfl
              exact h2.perm (by ac_rfl)
            refine tc_reg ?_; refine tlm ?_; refine tv (by first | exact o_addI rfl rfl (by omega) | exact o_add rfl rfl) ?_; refine tl_env (d := 19) (v := .int .i64 (((i + 1) * 64 : Nat) : Int)) (by show Value.int .i64 _ = _; congr 1; omega) ?_; refine tla ?_; refine nq ?_; exact ⟨_, by omega, i + 1, a34, c34, rls1 ++ [(⟨.slice (some ⟨b31, 0, none⟩) 1 1, [(.slice a30 64 c30, seenL (lineF xs i))], -1⟩ : RL)], by omega, hnext, rfl, rfl, rfl, rfl, rfl⟩
          · skip
            refine oh_x (i := 11) (listed' := #[tt,tt,tt,tt,ff,tt,tt,tt,tt,tt,tt,tt,ff,ff,ff,ff,ff,ff]) rfl rfl rfl (o_buildSlice1 Try.underlying68 sz60 z60 rfl rfl) ?_; rintro _ _ ⟨b31, rfl, rfl⟩; refine ⟨by repeat (first | with_reducible exact dr_refl | apply dr_keep | apply dr_drop), ?_⟩; refine th_take (i := 12) (listed' := #[tt,tt,tt,tt,ff,tt,tt,tt,tt,tt,tt,tt,tt,ff,ff,ff,ff,ff]) rfl (by kernel_rfl) (by kernel_rfl) (by kernel_rfl) rfl rfl (o_bS (l := [_, _]) (pv_cons (by conv => lhs; whnf) (pv_cons (by conv => lhs; whnf) pv_nil)) Try.underlying126 z126 (pl126 Try.underlying126) rfl) ?_; refine th_two (i := 4) (j := 13) (by kernel_rfl) ?_ ?_
            · skip
              refine oh_v (i := 4) (listed' := #[tt,tt,tt,tt,tt,tt,tt,tt,tt,tt,tt,tt,tt,ff,ff,ff,ff,ff]) rfl rfl rfl (o_load p96 rfl (by repeat (first | with_reducible exact has_here | with_reducible exact has_pt | apply has_left)) rfl) ?_; refine th_one (i := 13) (by kernel_rfl) ?_; refine oh_x (i := 13) (listed' := #[tt,tt,tt,tt,tt,tt,tt,tt,tt,tt,tt,tt,tt,tt,ff,ff,ff,ff]) rfl rfl rfl (o_buildSliceK (k := 2) (l := [.slice (some ⟨b31, 0, none⟩) 1 1, .int .i64 (-1)]) Try.underlying96 sz126 z126 rfl rfl (by decide)) ?_; rintro _ _ ⟨b33, rfl, rfl⟩; refine ⟨by repeat (first | with_reducible exact dr_refl | apply dr_keep | apply dr_drop), ?_⟩; refine th_one (i := 14) (by kernel_rfl) ?_; refine oh_x (i := 14) (listed' := #[tt,tt,tt,tt,tt,tt,tt,tt,tt,tt,tt,tt,tt,tt,tt,ff,ff,ff]) rfl rfl rfl (o_apB Try.underlying96 Try.underlying96 sz126 by126 z126 rfl (by decide) (by decide) rfl rfl rfl (by repeat (first | with_reducible exact ct_here | apply ct_left)) rfl rfl (by omega) (fm_sn rls1 ((⟨.slice (some ⟨b31, 0, none⟩) 1 1, [(.slice a30 64 c30, seenL (lineF xs i))], -1⟩ : RL)))) ?_; rintro _ _ ⟨a34, c34, rfl, hc34, rfl⟩; refine ⟨by repeat (first | with_reducible exact dr_refl | apply dr_keep | apply dr_drop), ?_⟩; refine th_take (i := 15) (listed' := #[tt,tt,tt,tt,tt,tt,tt,tt,tt,tt,tt,tt,tt,tt,tt,tt,ff,ff]) rfl (by kernel_rfl) (by kernel_rfl) (by kernel_rfl) rfl rfl (o_nilCheck rfl) ?_
              refine th_take (i := 16) (listed' := #[tt,tt,tt,tt,tt,tt,tt,tt,tt,tt,tt,tt,tt,tt,tt,tt,tt,ff]) rfl (by kernel_rfl) (by kernel_rfl) (by kernel_rfl) rfl rfl (o_fieldAddr (o := 1) Try.underlying98 rfl rfl sz96 rfl) ?_; refine th_one (i := 17) (by kernel_rfl) ?_; refine oh_u (i := 17) (listed' := #[tt,tt,tt,tt,tt,tt,tt,tt,tt,tt,tt,tt,tt,tt,tt,tt,tt,tt]) rfl rfl rfl (o_stU (l' := [.int .i64 ((n * 64 : Nat) : Int), .slice a34 (i + 1) c34, .int .i64 0, .slice none 0 0, .int .i64 0, .bool false]) rfl (by repeat (first | with_reducible exact upd_here | with_reducible exact upd_pt | apply upd_left)) sz96 rfl rfl (by show 1 < 6; decide) rfl) (by repeat (first | with_reducible exact dr_refl | apply dr_keep | apply dr_drop)) ?_; refine th_done (by kernel_rfl) ?_; refine q_block_n (q_then_n ?_)
              have hnext : (rls1 ++ [(⟨.slice (some ⟨b31, 0, none⟩) 1 1, [(.slice a30 64 c30, seenL (lineF xs i))], -1⟩ : RL)]).map RL.l = (fromS n xs).ls.take (i + 1) := by
                rw [List.map_append, hp1, List.take_succ_eq_append_getElem (by rw [fromS_len]; exact hi), fromS_at xs hi]; rfl
              refine tc_pre (A' := F * Bs rlR (rls1 ++ [(⟨.slice (some ⟨b31, 0, none⟩) 1 1, [(.slice a30 64 c30, seenL (lineF xs i))], -1⟩ : RL)]) * pt b13 (cl ([.int .i64 ((n * 64 : Nat) : Int), .slice a34 (i + 1) c34, .int .i64 0, .slice none 0 0, .int .i64 0, .bool false]) 98) * Sl 2 (.slice a34 (i + 1) c34) (i + 1) ((rls1 ++ [(⟨.slice (some ⟨b31, 0, none⟩) 1 1, [(.slice a30 64 c30, seenL (lineF xs i))], -1⟩ : RL)]).flatMap rcl)) (fun _ _ h => ?_) ?_
              · have e : rlR (⟨.slice (some ⟨b31, 0, none⟩) 1 1, [(.slice a30 64 c30, seenL (lineF xs i))], -1⟩ : RL) = Sl 1 (.slice (some ⟨b31, 0, none⟩) 1 1) 1 [.slice a30 64 c30] * SlR 1 (.slice a30 64 c30) 64 (bys ((xs.drop (i * 64)).take 64)) := by
                  show Sl 1 _ 1 [_] * Bs rowR [_] = _
                  rw [bs_cons, bs_nil, emp_star]
                  show _ * SlR 1 _ 64 (bys (lb (seenL (lineF xs i)))) = _
                  rw [hlf]
                rw [bs_snoc, e]
                have h1 := sl_share (h.perm (show _ = F * Bs rlR rls1 * pt b13 (cl ([.int .i64 ((n * 64 : Nat) : Int), .slice a34 (i + 1) c34, .int .i64 0, .slice none 0 0, .int .i64 0, .bool false]) 98) * Sl 2 (.slice a34 (i + 1) c34) (i + 1) ((rls1 ++ [(⟨.slice (some ⟨b31, 0, none⟩) 1 1, [(.slice a30 64 c30, seenL (lineF xs i))], -1⟩ : RL)]).flatMap rcl) * pt b31 (cl [.slice a30 64 c30] 60) * Sl 1 (.slice a30 64 c30) 64 (bys ((xs.drop (i * 64)).take 64)) by ac_rfl))
                have h2 := sl_new (k := 1) (n := 1) (cap := 1) (xs := [.slice a30 64 c30]) (h1.perm (star_swap _ _ _)) (by decide) (Nat.le_refl _) rfl
                exact h2.perm (by ac_rfl)
              refine tc_reg ?_; refine tlm ?_; refine tv (by first | exact o_addI rfl rfl (by omega) | exact o_add rfl rfl) ?_; refine tl_env (d := 19) (v := .int .i64 (((i + 1) * 64 : Nat) : Int)) (by show Value.int .i64 _ = _; congr 1; omega) ?_; refine tla ?_; refine nq ?_; exact ⟨_, by omega, i + 1, a34, c34, rls1 ++ [(⟨.slice (some ⟨b31, 0, none⟩) 1 1, [(.slice a30 64 c30, seenL (lineF xs i))], -1⟩ : RL)], by omega, hnext, rfl, rfl, rfl, rfl, rfl⟩
            · skip
              refine oh_x (i := 13) (listed' := #[tt,tt,tt,tt,ff,tt,tt,tt,tt,tt,tt,tt,tt,tt,ff,ff,ff,ff]) rfl rfl rfl (o_buildSliceK (k := 2) (l := [.slice (some ⟨b31, 0, none⟩) 1 1, .int .i64 (-1)]) Try.underlying96 sz126 z126 rfl rfl (by decide)) ?_; rintro _ _ ⟨b33, rfl, rfl⟩; refine ⟨by repeat (first | with_reducible exact dr_refl | apply dr_keep | apply dr_drop), ?_⟩; refine th_one (i := 4) (by kernel_rfl) ?_; refine oh_v (i := 4) (listed' := #[tt,tt,tt,tt,tt,tt,tt,tt,tt,tt,tt,tt,tt,tt,ff,ff,ff,ff]) rfl rfl rfl (o_load p96 rfl (by repeat (first | with_reducible exact has_here | with_reducible exact has_pt | apply has_left)) rfl) ?_; refine th_one (i := 14) (by kernel_rfl) ?_; refine oh_x (i := 14) (listed' := #[tt,tt,tt,tt,tt,tt,tt,tt,tt,tt,tt,tt,tt,tt,tt,ff,ff,ff]) rfl rfl rfl (o_apB Try.underlying96 Try.underlying96 sz126 by126 z126 rfl (by decide) (by decide) rfl rfl rfl (by repeat (first | with_reducible exact ct_here | apply ct_left)) rfl rfl (by omega) (fm_sn rls1 ((⟨.slice (some ⟨b31, 0, none⟩) 1 1, [(.slice a30 64 c30, seenL (lineF xs i))], -1⟩ : RL)))) ?_; rintro _ _ ⟨a34, c34, rfl, hc34, rfl⟩; refine ⟨by repeat (first | with_reducible exact dr_refl | apply dr_keep | apply dr_drop), ?_⟩; refine th_take (i := 15) (listed' := #[tt,tt,tt,tt,tt,tt,tt,tt,tt,tt,tt,tt,tt,tt,tt,tt,ff,ff]) rfl (by kernel_rfl) (by kernel_rfl) (by kernel_rfl) rfl rfl (o_nilCheck rfl) ?_
              refine th_take (i := 16) (listed' := #[tt,tt,tt,tt,tt,tt,tt,tt,tt,tt,tt,tt,tt,tt,tt,tt,tt,ff]) rfl (by kernel_rfl) (by kernel_rfl) (by kernel_rfl) rfl rfl (o_fieldAddr (o := 1) Try.underlying98 rfl rfl sz96 rfl) ?_; refine th_one (i := 17) (by kernel_rfl) ?_; refine oh_u (i := 17) (listed' := #[tt,tt,tt,tt,tt,tt,tt,tt,tt,tt,tt,tt,tt,tt,tt,tt,tt,tt]) rfl rfl rfl (o_stU (l' := [.int .i64 ((n * 64 : Nat) : Int), .slice a34 (i + 1) c34, .int .i64 0, .slice none 0 0, .int .i64 0, .bool false]) rfl (by repeat (first | with_reducible exact upd_here | with_reducible exact upd_pt | apply upd_left)) sz96 rfl rfl (by show 1 < 6; decide) rfl) (by repeat (first | with_reducible exact dr_refl | apply dr_keep | apply dr_drop)) ?_; refine th_done (by kernel_rfl) ?_; refine q_block_n (q_then_n ?_)
              have hnext : (rls1 ++ [(⟨.slice (some ⟨b31, 0, none⟩) 1 1, [(.slice a30 64 c30, seenL (lineF xs i))], -1⟩ : RL)]).map RL.l = (fromS n xs).ls.take (i + 1) := by
                rw [List.map_append, hp1, List.take_succ_eq_append_getElem (by rw [fromS_len]; exact hi), fromS_at xs hi]; rfl
              refine tc_pre (A' := F * Bs rlR (rls1 ++ [(⟨.slice (some ⟨b31, 0, none⟩) 1 1, [(.slice a30 64 c30, seenL (lineF xs i))], -1⟩ : RL)]) * pt b13 (cl ([.int .i64 ((n * 64 : Nat) : Int), .slice a34 (i + 1) c34, .int .i64 0, .slice none 0 0, .int .i64 0, .bool false]) 98) * Sl 2 (.slice a34 (i + 1) c34) (i + 1) ((rls1 ++ [(⟨.slice (some ⟨b31, 0, none⟩) 1 1, [(.slice a30 64 c30, seenL (lineF xs i))], -1⟩ : RL)]).flatMap rcl)) (fun _ _ h => ?_) ?_
              · have e : rlR (⟨.slice (some ⟨b31, 0, none⟩) 1 1, [(.slice a30 64 c30, seenL (lineF xs i))], -1⟩ : RL) = Sl 1 (.slice (some ⟨b31, 0, none⟩) 1 1) 1 [.slice a30 64 c30] * SlR 1 (.slice a30 64 c30) 64 (bys ((xs.drop (i * 64)).take 64)) := by
                  show Sl 1 _ 1 [_] * Bs rowR [_] = _
                  rw [bs_cons, bs_nil, emp_star]
                  show _ * SlR 1 _ 64 (bys (lb (seenL (lineF xs i)))) = _
                  rw [hlf]
                rw [bs_snoc, e]
                have h1 := sl_share (h.perm (show _ = F * Bs rlR rls1 * pt b13 (cl ([.int .i64 ((n * 64 : Nat) : Int), .slice a34 (i + 1) c34, .int .i64 0, .slice none 0 0, .int .i64 0, .bool false]) 98) * Sl 2 (.slice a34 (i + 1) c34) (i + 1) ((rls1 ++ [(⟨.slice (some ⟨b31, 0, none⟩) 1 1, [(.slice a30 64 c30, seenL (lineF xs i))], -1⟩ : RL)]).flatMap rcl) * pt b31 (cl [.slice a30 64 c30] 60) * Sl 1 (.slice a30 64 c30) 64 (bys ((xs.drop (i * 64)).take 64)) by ac_rfl))
                have h2 := sl_new (k := 1) (n := 1) (cap := 1) (xs := [.slice a30 64 c30]) (h1.perm (star_swap _ _ _)) (by decide) (Nat.le_refl _) rfl
                exact h2.perm (by ac_rfl)
              refine tc_reg ?_; refine tlm ?_; refine tv (by first | exact o_addI rfl rfl (by omega) | exact o_add rfl rfl) ?_; refine tl_env (d := 19) (v := .int .i64 (((i + 1) * 64 : Nat) : Int)) (by show Value.int .i64 _ = _; congr 1; omega) ?_; refine tla ?_; refine nq ?_; exact ⟨_, by omega, i + 1, a34, c34, rls1 ++ [(⟨.slice (some ⟨b31, 0, none⟩) 1 1, [(.slice a30 64 c30, seenL (lineF xs i))], -1⟩ : RL)], by omega, hnext, rfl, rfl, rfl, rfl, rfl⟩
      · obtain rfl : i = n := by simp at h; omega
        rw [List.take_of_length_le (by rw [fromS_len]; exact Nat.le_refl _)] at hp1
        refine tc_exit ?_; refine q_then_e (q_then_e (q_block_x (q_then_n ?_))); refine sr ?_; refine tlm ?_; refine tla ?_; refine tla ?_; refine nq ?_; refine tc_ret ?_; refine ⟨.tuple #[.pointer (some ⟨b13, 0, none⟩), .int .i64 0], F * RDev b13 (fromS i xs), res2 rfl rfl rfl, fun _ _ h => ?_, b13, rfl, rfl⟩; refine rdev_back (lv := .slice aL i cL) (rls := rls1) (av := .slice none 0 0) (kvs := []) (fromS_wf hn hn2 hb) hp1 rfl _ _ ?_
        have h1 := sl_nil (k := 2) h
        refine h1.perm ?_
        unfold RDevC ArmsR rdcs
        rw [fromS_len]
        show _ = F * (_ * _ * _ * (Sl 2 (.slice none 0 0) 0 [] * emp))
        rw [star_emp]
        rw [show (fromS i xs).ops = 0 from rfl, show (fromS i xs).cnt = 0 from rfl, show (fromS i xs).off = false from rfl]
        ac_rfl
theorem rNew_c {F : SP} {n : Nat} {p : Int} (hp : p = ((n * 64 : Nat) : Int) := by omega) (hn : 0 < n := by omega) (hn2 : n ≤ 65536 := by omega) :
    Fn Try.prog 15 #[.int .i64 p] (F) (fun v B => ∃ d, v = .tuple #[.pointer (some ⟨d, 0, none⟩), .int .i64 0] ∧ B = F * RDev d (newS n)) := by
  refine fn_enterW (args := [.int .i64 p]) Try.func15 rfl Try.ntmps15 (by simp) ?_
  subst hp
  have hfit : fitsB ((n * 64 : Nat) : Int) = true := by unfold fitsB; simp; omega
  refine sr ?_; refine tla ?_; refine tla ?_; refine nq ?_; refine tc_seq ?_; refine sr ?_; refine tlm ?_; refine tl_c rfl (o_call bd43 rfl (rfits_c (p := ((n * 64 : Nat) : Int)))) ?_; rintro _ _ ⟨rfl, rfl⟩; refine tv (o_not rfl) ?_; refine nq ?_; refine tc_cond rfl (fun h => ?_) (fun h => ?_)
  · exfalso; rw [hfit] at h; exact absurd h (by decide)
  · try simp only [lv1, lv2, lv3, lv4, lv5, lv6, Bool.not_true, Bool.not_false] at h
    refine tc_skip ?_; refine q_then_n ?_; refine sr ?_; refine tlm ?_; refine tl_x rfl (o_makeSlice (len := n * 64) (cap := n * 64) Try.underlying60 sz5 by5 z5 rfl rfl rfl (by omega) (by omega) (by omega)) ?_; rintro _ _ ⟨b8, rfl, rfl⟩; refine tl_c rfl (o_call bd44 rfl (rFrom_c (n := n) (xs := List.replicate (n * 64) 0) (hr := by rw [bys_rep]; exact rs_pt0) (hx := List.length_replicate) (hb := fun x hx => by rw [List.eq_of_mem_replicate hx]; decide))) ?_; rintro _ _ ⟨d9, rfl, rfl⟩; refine tv (o_extract rfl rfl) ?_; refine tv (o_extract rfl rfl) ?_; refine tla ?_; refine tla ?_; refine nq ?_; refine tc_ret ?_; exact ⟨.tuple #[.pointer (some ⟨d9, 0, none⟩), .int .i64 0], F * RDev d9 (newS n), res2 rfl rfl rfl, by rw [fromS_zero]; exact Dr.sat (by repeat (first | with_reducible exact dr_refl | apply dr_keep | apply dr_drop)), d9, rfl, rfl⟩
end Go.Vl

set_option linter.unusedVariables false
set_option linter.unusedSimpArgs false
namespace Go.Vl
open Go Go.Proofs
theorem Foc.words {A A' : SP} {hvs : List Value} {held : List (List Nat)} (h : Foc A (Words hvs held) (Words hvs held) A') (hl : hvs.length = held.length) {g : Gh} {w : World} (hs : sat g w A) :
    ∀ i (hi : i < held.length), ∃ a c, hvs[i]? = some (.slice a held[i].length c) ∧ Rd A a (wds held[i]) := fun i hi => by
  obtain ⟨R, hA, _⟩ := h
  obtain ⟨S, h1, _⟩ := words_get hl hi
  rw [h1, ← star_assoc] at hA
  obtain ⟨a, c, e, _, _, hr⟩ := sl_have' hA hs
  exact ⟨a, c, by rw [List.getElem?_eq_getElem (by omega), e], hr⟩
/-- What PmemLasts looks at, of a book and a device behind a loss of power. -/
structure Lasts (P : PlS) (s2 : DevS) : Prop where
  len : s2.ls.length = P.marks.length
  wf : WfD s2
  wfp : WfD P.s
  seen : ∀ i (h : i < P.seen.length), nm (((imgS P.s).drop (8 * i)).take 8) = P.seen[i]
  held : ∀ i (h : i < P.held.length), nm (((imgS s2).drop (8 * i)).take 8) ∈ P.held[i]
  last : ∀ i (h : i < P.sure.length) (h' : i < P.last.length), P.sure[i] = true → nm (((imgS s2).drop (8 * i)).take 8) = P.last[i]
end Go.Vl

set_option linter.unusedVariables false
set_option linter.unusedSimpArgs false
namespace Go.Vl
open Go Go.Proofs
/-- The book tells the device. -/
structure InvL (P : PlS) (w : Nat) (l : LineS) : Prop where
  seen : (seenL l).getD (w % 8) 0 = P.seen.getD w 0
  held : ∀ σ ∈ l.st, σ.getD (w % 8) 0 ∈ P.held.getD w []
  last : P.sure.getD w false = true → ∀ σ ∈ l.st, σ.getD (w % 8) 0 = P.last.getD w 0
  mark : P.marks.getD (w / 8) 0 = 1 → l.mark = (l.st.length : Int) - 1
def Inv (P : PlS) : Prop := ∀ w l, w < P.seen.length → P.s.ls[w / 8]? = some l → InvL P w l
end Go.Vl

set_option linter.unusedVariables false
set_option linter.unusedSimpArgs false
namespace Go.Vl
open Go Go.Proofs
instance : Inhabited StepC := ⟨⟨0, 0, .bool false, 0, .bool false, .bool false, .bool false⟩⟩
end Go.Vl

set_option linter.unusedVariables false
set_option linter.unusedSimpArgs false
namespace Go.Vl
open Go Go.Proofs
section
variable {P : Program} {n : Nat} {ρ : Env} {dst : Option Nat} {ty : TypeId} {pos : String} {after : Array Edge} {gd : Option (Nat × Bool)} {A : SP}
end
def rdT (n : Nat) (I : List Nat) : List Int × Int := if I.take 64 = sbB [n, 128, 32768, 32896, (n - 32896) / 256, 0] then ([(n : Int), ((128 : Nat) : Int), ((32768 : Nat) : Int), ((32896 : Nat) : Int), (((n - 32896) / 256 : Nat) : Int)], 0) else ([0, 0, 0, 0, 0], 100)
end Go.Vl

set_option linter.unusedVariables false
set_option linter.unusedSimpArgs false
namespace Go.Vl
open Go Go.Proofs
def wk1 : DevS := (bytesP 60 [1, 1, 1, 1, 1, 1, 1, 1] (newS 2)).2
def wk2 : DevS := (pubP 8 258 wk1).2
def wk3 : DevS := (crS [] wk2).2
def wk4 : DevS := { wk3 with off := false }
def nk1 : DevS := (crS [] (newS 1)).2
end Go.Vl

set_option linter.unusedVariables false
set_option linter.unusedSimpArgs false
namespace Go.Vl
open Go Go.Proofs
/-- The mark of a place. -/
def mk (i k : Nat) : Nat := (i * 31 + k * 7 + 1) % 256
/-- The marks of a list. -/
def mks (i n : Nat) : List Nat := (List.range n).map (mk i)
def mkL (j : Nat) (l : List Nat) : List Nat := mks j l.length
/-- Lists that bear their marks; the first of them is number j. -/
def PM : Nat → List Value → List Nat → SP
  | j, v :: vs, n :: ns => PM (j + 1) vs ns * Sl 1 v n (bys (mks j n))
  | _, [], [] => emp
  | _, _, _ => pure_ False
/-- Such lists, and what they were grown to. -/
def GP : Nat → List Value → List Value → List Nat → SP
  | j, v :: vs, g :: gs, n :: ns => GP (j + 1) vs gs ns * Gr v n (bys (mks j n)) g (n + 70) (bys (mks j (n + 70)))
  | _, [], [], [] => emp
  | _, _, _, _ => pure_ False
attribute [local irreducible] Sl SlR pt ro Parts Gr
end Go.Vl

set_option linter.unusedVariables false
set_option linter.unusedSimpArgs false
namespace Go.Vl
open Go Go.Proofs
/-- What Read and Root answer. -/
def rdA (s : DevS) : List Int × Int := if s.off = true then ([0, 0, 0, 0, 0], 5) else if 578 ≤ s.ls.length then rdT (s.ls.length * 64) (imgS s) else ([0, 0, 0, 0, 0], 100)
def rootA (s : DevS) : Nat × Int := if (rdA s).2 ≠ 0 then (0, (rdA s).2) else wordP 64 s
end Go.Vl

set_option linter.unusedVariables false
set_option linter.unusedSimpArgs false
namespace Go.Vl
open Go Go.Proofs
theorem old_heap' {W w : World} {g : Gh} (h : sat g w (old W)) {k : Nat} (hk : k < W.heap.size) : w.heap[k]? = W.heap[k]? := by
  obtain ⟨x, rfl, hx⟩ := h.hp
  have := Array.getElem?_eq_getElem hk
  rw [this]; exact hx _ _ true (by simp [this])
theorem cell_old' {W : World} {b off : Nat} {v : Value} (h : W.cell? ⟨b, off, none⟩ = some v) : Cell (old W) b off v := fun g w hs => by
  have hb : b < W.heap.size := by
    rcases Nat.lt_or_ge b W.heap.size with h1 | h1
    · exact h1
    · exfalso
      have : W.heap[b]? = none := Array.getElem?_eq_none h1
      simp [World.cell?, this] at h
  have := old_heap' hs hb
  rw [← h]; simp only [World.cell?, this]
theorem rs_old {W : World} {a : Addr} {xs : List Value} (h : ∀ i v, xs[i]? = some v → W.cell? (a.add i) = some v) : Rs (old W) (some a) xs := by
  cases xs with
  | nil => exact rs_nil
  | cons x l =>
    obtain ⟨b, off, spot⟩ := a
    have h0 := h 0 x rfl
    have hspot : spot = none := by simpa [Addr.add] using World.cell?_spot h0
    subst hspot
    refine fun g w hs i v hv => ⟨b, off, rfl, ?_⟩
    have := h i v hv
    rw [WideShapes.add_plain] at this
    exact cell_old' this g w hs
/-- Whatever lies there as a value of type t, by the argument's own reading, r holds of. -/
def Rdb {α : Type} (P : Program) (W : World) (t : TypeId) (r : List Value → α → Prop) : Prop :=
  ∀ (H : Type) (enc : TypeId × Value → H) (spare : Nat → Bool) (held : Bool) (fuel : Nat) (cs : List Value) (d : DataW H) (pl : List MemPlace),
    DataW.trod enc P W 0 spare held fuel t cs = some (d, pl) → (∀ n ∈ d.weights P t, n ≤ reachBytes) → ∃ x, r cs x
theorem Rdb.mono {α β : Type} {P : Program} {W : World} {t : TypeId} {r : List Value → α → Prop} {q : List Value → β → Prop} (h : Rdb P W t r) (k : ∀ cs x, r cs x → ∃ y, q cs y) : Rdb P W t q :=
  fun H enc sp hd fu cs d pl h1 h2 => by obtain ⟨x, hx⟩ := h H enc sp hd fu cs d pl h1 h2; exact k cs x hx
def PInt (k : IntKind) (cs : List Value) (n : Int) : Prop := cs = [.int k n] ∧ (Lit.int k n).wf = true
theorem rdb_int {P : Program} {W : World} {t : TypeId} {k : IntKind} (ht : P.underlying t = some (.int k)) : Rdb P W t (PInt k) := fun H enc sp hd fu cs d pl h _ => by
  obtain ⟨n, e, _, hw⟩ := DataW.trod_int ht h
  exact ⟨n, e, hw⟩
def PBool (cs : List Value) (b : Bool) : Prop := cs = [.bool b]
/-- A slice: its elements' cells, and what each is. -/
def PSl {α : Type} (A : SP) (k b : Nat) (r : List Value → α → Prop) (cs : List Value) (xs : List α) : Prop :=
  ∃ (a : Option Addr) (cap : Nat) (Cs : List (List Value)), cs = [.slice a xs.length cap] ∧ xs.length ≤ cap ∧ xs.length * b ≤ reachBytes ∧ Cs.length = xs.length ∧ (∀ i (h : i < xs.length) (h' : i < Cs.length), Cs[i].length = k ∧ r Cs[i] xs[i]) ∧ Rs A a Cs.flatten
theorem weightsAll_mem {H : Type} {P : Program} {e : TypeId} : ∀ {l : List (DataW H)} {d : DataW H}, d ∈ l → ∀ n ∈ d.weights P e, n ∈ DataW.weightsAll P e l
  | x :: l, d, h, n, hn => by
    simp only [DataW.weightsAll, List.mem_append]
    rcases List.mem_cons.1 h with rfl | h
    · exact .inl hn
    · exact .inr (weightsAll_mem h n hn)
theorem flat_at {k : Nat} : ∀ {Cs : List (List Value)} (_ : ∀ c ∈ Cs, c.length = k) {i j : Nat} (_ : j < k) (hi : i < Cs.length), Cs.flatten[i * k + j]? = Cs[i][j]?
  | c :: Cs, h, 0, j, hj, _ => by
    rw [Nat.zero_mul, Nat.zero_add, List.flatten_cons, List.getElem?_append_left (by rw [h c (by simp)]; exact hj)]; rfl
  | c :: Cs, h, i + 1, j, hj, hi => by
    have hc := h c (by simp)
    rw [List.flatten_cons, List.getElem?_append_right (by rw [hc, Nat.add_mul]; omega), hc, show (i + 1) * k + j - k = i * k + j by rw [Nat.add_mul]; omega]
    exact flat_at (fun x hx => h x (List.mem_cons_of_mem _ hx)) hj (by simpa using hi)
theorem flat_length {k : Nat} : ∀ {Cs : List (List Value)} (_ : ∀ c ∈ Cs, c.length = k), Cs.flatten.length = Cs.length * k
  | [], _ => by simp
  | c :: Cs, h => by
    rw [List.flatten_cons, List.length_append, h c (by simp), flat_length (fun x hx => h x (List.mem_cons_of_mem _ hx)), List.length_cons, Nat.add_mul]; omega
theorem rdb_slice {α : Type} {P : Program} {W : World} {t e : TypeId} {k b : Nat} {r : List Value → α → Prop} (ht : P.underlying t = some (.slice e)) (hk : P.cellsOf e = k) (hb : P.bytesOf e = b) (hk0 : 0 < k) (hr : Rdb P W e r) : Rdb P W t (PSl (old W) k b r) := fun H enc sp hd fu cs d pl h hw => by
  rcases Deep.open_slice ht h with ⟨rfl, _⟩ | ⟨a, len, cap, m, n, D, Pl, rfl, _, hl, _, hm, hx, hel⟩
  · exact ⟨[], none, 0, [], rfl, Nat.le_refl _, by simp, rfl, fun i h => by simp at h, rs_nil⟩
  · have hlm : len ≤ m := by rw [hm]; split <;> omega
    simp only [Prod.mk.injEq] at hx
    obtain ⟨rfl, _⟩ := hx
    have hall : ∀ n ∈ DataW.weights P t (DataW.slice ((List.range len).map D) ((List.range (m - len)).map fun j => D (len + j))), n ≤ reachBytes := hw
    have hw1 : (len + (m - len)) * P.bytesOf e ≤ reachBytes := by
      have := hall ((len + (m - len)) * P.bytesOf e) (by simp [DataW.weights, ht])
      exact this
    have hex : ∀ i, i < len → ∃ p : List Value × α, p.1.length = k ∧ r p.1 p.2 ∧ ∀ j v, p.1[j]? = some v → W.cell? (a.add (i * k + j)) = some v := fun i hi => by
      obtain ⟨cs', h1, h2⟩ := hel i (by omega)
      rw [hk] at h1
      obtain ⟨_, hlen, h3⟩ := World.cells?_some h1
      obtain ⟨x, hx⟩ := hr H enc sp hd n cs' (D i) (Pl i) h2 (fun n hn => hall n (by
        simp only [DataW.weights, ht, List.mem_cons, List.mem_append]
        refine .inr (.inl (weightsAll_mem (d := D i) ?_ n hn))
        exact List.mem_map.2 ⟨i, List.mem_range.2 hi, rfl⟩))
      refine ⟨(cs', x), hlen, hx, fun j v hv => ?_⟩
      have hj : j < k := by have h9 : j < cs'.length := lt_at hv; omega
      have := h3 j hj
      rw [Deep.add_add] at this
      rw [this, hv]
    rcases Nat.eq_zero_or_pos len with h0 | h0
    · subst h0
      exact ⟨[], some a, cap, [], rfl, Nat.zero_le _, by simp, rfl, fun i h => by simp at h, rs_nil⟩
    · obtain ⟨p0, _⟩ := hex 0 h0
      haveI : Inhabited (List Value × α) := ⟨p0⟩
      obtain ⟨f, hf⟩ := Deep.choose_lt hex
      refine ⟨(List.range len).map fun i => (f i).2, some a, cap, (List.range len).map fun i => (f i).1, by simp, by simpa using hl, ?_, by simp, fun i h h' => ?_, rs_old fun i v hv => ?_⟩
      · simp only [List.length_map, List.length_range, ← hb]
        exact Nat.le_trans (Nat.mul_le_mul_right _ (by omega)) hw1
      · simp only [List.length_map, List.length_range] at h
        simp only [List.getElem_map, List.getElem_range]
        exact ⟨(hf i h).1, (hf i h).2.1⟩
      · have hCk : ∀ c ∈ (List.range len).map fun i => (f i).1, c.length = k := fun c hc => by
          obtain ⟨i, hi, rfl⟩ := List.mem_map.1 hc
          exact (hf i (List.mem_range.1 hi)).1
        have hi := lt_at hv
        rw [flat_length hCk, List.length_map, List.length_range] at hi
        have hq : i / k < len := Nat.div_lt_of_lt_mul (by rw [Nat.mul_comm]; exact hi)
        have hm2 : i % k < k := Nat.mod_lt _ hk0
        have e : i = i / k * k + i % k := (Nat.div_add_mod' i k).symm
        rw [e, flat_at hCk hm2 (by simpa using hq)] at hv
        simp only [List.getElem_map, List.getElem_range] at hv
        rw [e]
        exact (hf (i / k) hq).2.2 _ v hv
theorem flat1 {α : Type} {r : List Value → α → Prop} {f : α → Value} : ∀ {Cs : List (List Value)} {xs : List α} (_ : Cs.length = xs.length) (_ : ∀ i (h : i < xs.length) (h' : i < Cs.length), Cs[i] = [f xs[i]]), Cs.flatten = xs.map f
  | [], [], _, _ => rfl
  | c :: Cs, x :: xs, hl, h => by
    have h0 := h 0 (by simp) (by simp)
    simp only [List.getElem_cons_zero] at h0
    rw [List.flatten_cons, h0, flat1 (r := r) (f := f) (Cs := Cs) (xs := xs) (by simpa using hl) (fun i hi hi' => h (i + 1) (by simpa using hi) (by simpa using hi'))]; rfl
/-- Bytes. -/
def PBys (A : SP) (cs : List Value) (xs : List Nat) : Prop := ∃ a cap, cs = [.slice a xs.length cap] ∧ xs.length ≤ cap ∧ xs.length ≤ 140737488351232 ∧ Rs A a (bys xs) ∧ ∀ x ∈ xs, x < 256
def PInts (A : SP) (cs : List Value) (xs : List Int) : Prop := ∃ a cap, cs = [.slice a xs.length cap] ∧ xs.length ≤ cap ∧ xs.length ≤ 17592186043904 ∧ Rs A a (ints xs) ∧ ∀ x ∈ xs, -9223372036854775808 ≤ x ∧ x ≤ 9223372036854775807
theorem i64_wf {x : Int} (h : (Lit.int .i64 x).wf = true) : -9223372036854775808 ≤ x ∧ x ≤ 9223372036854775807 := Go.bounds_i64 h
theorem rdb_ints {P : Program} {W : World} {t e : TypeId} (ht : P.underlying t = some (.slice e)) (he : P.underlying e = some (.int .i64)) (hk : P.cellsOf e = 1) (hb : P.bytesOf e = 8) : Rdb P W t (PInts (old W)) :=
  (rdb_slice ht hk hb (by decide) (rdb_int he)).mono fun cs zs ⟨a, cap, Cs, e1, hc, hs, hl, hx, hr⟩ => by
    refine ⟨zs, a, cap, e1, hc, by unfold reachBytes at hs; omega, ?_, fun z hz => ?_⟩
    · rw [show ints zs = Cs.flatten from (flat1 (r := PInt .i64) (f := fun z : Int => .int .i64 z) hl (fun i h h' => (hx i h h').2.1)).symm]; exact hr
    · obtain ⟨i, hi, rfl⟩ := List.mem_iff_getElem.1 hz
      exact i64_wf (hx i hi (by omega)).2.2
end Go.Vl

set_option linter.unusedVariables false
set_option linter.unusedSimpArgs false
namespace Go.Vl
open Go Go.Proofs
abbrev ub {H : Type} (d : DataW H) : Nat := Go.Proofs.Ytndfopmdkcnkgaa.Rows.uptoBulk d
abbrev ubs {H : Type} (l : List (DataW H)) : Nat := Go.Proofs.Ytndfopmdkcnkgaa.Rows.uptoBulkAll l
/-- Whatever lies there as a value of type t, by the argument's own reading, r holds of, and of how much. -/
def Rdu {α : Type} (P : Program) (W : World) (t : TypeId) (r : List Value → α → Prop) (sz : α → Nat) : Prop :=
  ∀ (H : Type) (enc : TypeId × Value → H) (spare : Nat → Bool) (held : Bool) (fuel : Nat) (cs : List Value) (d : DataW H) (pl : List MemPlace),
    DataW.trod enc P W 0 spare held fuel t cs = some (d, pl) → ∃ x, r cs x ∧ sz x ≤ ub d
theorem Rdu.mono {α β : Type} {P : Program} {W : World} {t : TypeId} {r : List Value → α → Prop} {s : α → Nat} {q : List Value → β → Prop} {z : β → Nat} (h : Rdu P W t r s) (k : ∀ cs x, r cs x → ∃ y, q cs y ∧ z y ≤ s x) : Rdu P W t q z :=
  fun H enc sp hd fu cs d pl h1 => by
    obtain ⟨x, hx, hs⟩ := h H enc sp hd fu cs d pl h1
    obtain ⟨y, hy, hz⟩ := k cs x hx
    exact ⟨y, hy, by omega⟩
/-- A slice: its elements' cells, and what each is. -/
def PSu {α : Type} (A : SP) (k : Nat) (r : List Value → α → Prop) (cs : List Value) (xs : List α) : Prop :=
  ∃ (a : Option Addr) (cap : Nat) (Cs : List (List Value)), cs = [.slice a xs.length cap] ∧ xs.length ≤ cap ∧ Cs.length = xs.length ∧ (∀ i (h : i < xs.length) (h' : i < Cs.length), Cs[i].length = k ∧ r Cs[i] xs[i]) ∧ Rs A a Cs.flatten
def szL {α : Type} (sz : α → Nat) (xs : List α) : Nat := (xs.map sz).sum + 1
/-- Bytes. -/
def PByU (A : SP) (cs : List Value) (xs : List Nat) : Prop := ∃ a cap, cs = [.slice a xs.length cap] ∧ xs.length ≤ cap ∧ Rs A a (bys xs) ∧ ∀ x ∈ xs, x < 256
def PInU (A : SP) (cs : List Value) (xs : List Int) : Prop := ∃ a cap, cs = [.slice a xs.length cap] ∧ xs.length ≤ cap ∧ Rs A a (ints xs) ∧ ∀ x ∈ xs, -9223372036854775808 ≤ x ∧ x ≤ 9223372036854775807
end Go.Vl

set_option linter.unusedVariables false
set_option linter.unusedSimpArgs false
namespace Go.Vl
open Go Go.Proofs
/-- An operation's cells. -/
structure Op9 where
  k : Int
  q : Int
  n : Int
  a : Option Addr
  c : Nat
  b : List Nat
  v : Nat
  ka : Option Addr
  kc : Nat
  kp : List Int
def Op9.cells (t : Op9) : List Value := [.int .i64 t.k, .int .i64 t.q, .int .i64 t.n, .slice t.a t.b.length t.c, .int .u64 (t.v : Nat), .slice t.ka t.kp.length t.kc]
structure Op9W (A : SP) (t : Op9) : Prop where
  cap : t.b.length ≤ t.c
  rs : Rs A t.a (bys t.b)
  byt : ∀ x ∈ t.b, x < 256
  v : t.v < 18446744073709551616
  kcap : t.kp.length ≤ t.kc
  krs : Rs A t.ka (ints t.kp)
  kb : ∀ x ∈ t.kp, -9223372036854775808 ≤ x ∧ x ≤ 9223372036854775807
  q : -9223372036854775808 ≤ t.q ∧ t.q ≤ 9223372036854775807
  n : -9223372036854775808 ≤ t.n ∧ t.n ≤ 9223372036854775807
def Op9.sz (t : Op9) : Nat := t.b.length + t.kp.length + 1
def ocs (l : List Op9) : List Value := l.flatMap Op9.cells
def POps (A : SP) (cs : List Value) (ops : List Op9) : Prop := ∃ a cap, cs = [.slice a ops.length cap] ∧ ops.length ≤ cap ∧ Rs A a (ocs ops) ∧ ∀ t ∈ ops, Op9W A t
/-! ### An operation on the device alone -/
def rawS (t : Op9) (s : DevS) : DevS := if t.k = 7 then (sto ((wi t.q 256 : Nat) : Int) (t.b.take (256 - wi t.q 256)) s).2 else if t.k = 8 then (fl1 ((wi t.q 256 : Nat) : Int) s).2 else if t.k = 9 then (fe s).2 else s
theorem room_le {a b : Nat} {s : DevS} (h : Room a s) (hab : b ≤ a) : Room b s := fun l hl => Nat.le_trans (Nat.add_le_add_left hab _) (h l hl)
def rawL (l : List Op9) (s : DevS) : DevS := l.foldl (fun s t => rawS t s) s
/-- The same, but what would be stored into the range is passed over. -/
def rawB (at_ m : Nat) (t : Op9) (s : DevS) : DevS := if t.k = 7 ∧ wi t.q 256 < at_ + m ∧ at_ < wi t.q 256 + t.b.length then s else rawS t s
def rawLB (at_ m : Nat) (l : List Op9) (s : DevS) : DevS := l.foldl (fun s t => rawB at_ m t s) s
theorem cut_none {a : Option Addr} {c : Nat} : cutAddr a c 0 1 = a := by
  unfold cutAddr
  split
  · rfl
  · cases a <;> simp [Addr.add]
end Go.Vl

set_option linter.unusedVariables false
set_option linter.unusedSimpArgs false
namespace Go.Vl
open Go Go.Proofs
theorem done_room {r : Nat} {s : DevS} (hw : WfD s) (h : Room r s) : Room r (doneS s) := by
  rcases done_loss (X := fun _ _ => True) hw (fun _ _ _ _ _ => trivial) with ⟨_, h2, _⟩ | ⟨_, h1, h2, h3, _, h5⟩
  · unfold Room; rw [h2]; exact h
  · intro l hl
    have hp := hw.pos
    have h0 := h _ (List.getElem_mem hp)
    have h4 := List.length_pos_iff.2 (hw.line _ (List.getElem_mem hp)).ne
    have := h3 l hl
    omega
theorem storeF_room : ∀ (m : Nat) {p r : Nat} {b : List Nat} {s : DevS}, b.length = m → WfD s → (∀ x ∈ b, x < 256) → Room (r + m) s → Room r (storeF b.length p b s).2 ∧ WfD (storeF b.length p b s).2 := by
  intro m
  induction m using Nat.strongRecOn with
  | _ m ih =>
    intro p r b s hm hw hb hroom
    by_cases h0 : b = []
    · subst h0
      rw [storeF_nil]
      exact ⟨room_le hroom (by omega), hw⟩
    · have hpos : 0 < b.length := List.length_pos_iff.2 h0
      have hr1 : Room 1 s := room_le hroom (by omega)
      have hwL := layS_wf (at_ := p - p % 8) hw hr1 (stW_nm (p := p) (s := s) hb)
      have hroom2 : Room (r + (m - min m (8 - p % 8))) (layS (p - p % 8) (nm (stW p b s)) s) := fun l hl => by
        have := onLine_room (r := r + m - 1) (f := layL ((p - p % 8) % 64 / 8) (nm (stW p b s))) (i := (p - p % 8) / 64) (fun l hl => by have := hroom l hl; omega) (fun l => by simp [layL]) l hl
        omega
      have hk : (b.drop (8 - p % 8)).length = m - min m (8 - p % 8) := by rw [List.length_drop]; omega
      rw [storeF_step h0]
      split
      · exact ⟨room_le (done_room hwL hroom2) (by omega), doneS_wf hwL⟩
      · exact ih (m - min m (8 - p % 8)) (by omega) hk (doneS_wf hwL) (fun x hx => hb x (List.mem_of_mem_drop hx)) (done_room hwL hroom2)
theorem fence_wf {s : DevS} (hw : WfD s) : WfD (fenceS s) := ⟨by simp [fenceS]; exact hw.pos, by simp [fenceS]; exact hw.top, fun l hl => by
  simp only [fenceS, List.mem_map] at hl
  obtain ⟨l0, h0, rfl⟩ := hl
  exact fenceL_wf (hw.line l0 h0), hw.arms, hw.after, hw.keeps⟩
theorem flF_room {r : Nat} : ∀ (k q : Nat) (s : DevS), WfD s → Room r s → Room r (flF k q s).2 ∧ WfD (flF k q s).2
  | 0, q, s, hw, h => by
    rw [flF_zero]
    unfold fe
    split
    · exact ⟨h, hw⟩
    · refine ⟨done_room (fence_wf hw) fun l hl => ?_, doneS_wf (fence_wf hw)⟩
      simp only [fenceS, List.mem_map] at hl
      obtain ⟨l0, h0, rfl⟩ := hl
      have h3 : (fenceL l0).st.length ≤ l0.st.length := by unfold fenceL; split <;> simp
      have := h l0 h0
      omega
  | k + 1, q, s, hw, h => by
    have hk : Room r (fl1 ((q * 64 : Nat) : Int) s).2 ∧ WfD (fl1 ((q * 64 : Nat) : Int) s).2 := by
      unfold fl1
      split
      · exact ⟨h, hw⟩
      · refine ⟨done_room (flushS_wf hw) fun l hl => ?_, doneS_wf (flushS_wf hw)⟩
        unfold flushS onLine at hl
        split at hl
        · rcases List.mem_or_eq_of_mem_set hl with h1 | h1
          · exact h l h1
          · rw [h1]
            rename_i l0 e
            exact h l0 (List.mem_of_getElem? e)
        · exact h l hl
    show Room r (if _ then _ else _ : Int × DevS).2 ∧ WfD (if _ then _ else _ : Int × DevS).2
    split
    · exact hk
    · exact flF_room k (q + 1) _ hk.2 hk.1
/-- Steps, one behind the other. -/
def fmtF : List (Nat × List Nat) → DevS → Int × DevS
  | [], s => (0, s)
  | t :: l, s => if (bytesP (t.1 : Int) t.2 s).1 ≠ 0 then bytesP (t.1 : Int) t.2 s else fmtF l (bytesP (t.1 : Int) t.2 s).2
def fst4 (n : Nat) : List (Nat × List Nat) := [(0, (List.replicate 64 0)), (64, (List.replicate 64 0)), (128, (List.replicate 64 0)), (0, sbB [n, 128, 32768, 32896, (n - 32896) / 256, 0])]
def stC (l : List (Nat × List Nat)) : List Value := l.flatMap fun t => .int .i64 (t.1 : Int) :: bys t.2
/-- What Format answers, and the device behind it. -/
def fmA (n : Nat) (s : DevS) : List Int × Int := if (fmtF (fst4 n) s).1 ≠ 0 then ([0, 0, 0, 0, 0], (fmtF (fst4 n) s).1) else ([(n : Int), ((128 : Nat) : Int), ((32768 : Nat) : Int), ((32896 : Nat) : Int), (((n - 32896) / 256 : Nat) : Int)], 0)
end Go.Vl

set_option linter.unusedVariables false
set_option linter.unusedSimpArgs false
namespace Go.Vl
open Go Go.Proofs
def zz : List Nat := List.replicate 64 0
def LostI (n : Nat) (xs I : List Nat) : Prop := I.length = n ∧ I.drop 192 = xs.drop 192 ∧ (I.take 192 = xs.take 192 ∨ I.take 64 ≠ sbB [n, 128, 32768, 32896, (n - 32896) / 256, 0] ∨ (I.drop 64).take 128 = List.replicate 128 0)
def DoneI (n : Nat) (xs I : List Nat) : Prop := I.length = n ∧ I.drop 192 = xs.drop 192 ∧ I.take 64 = sbB [n, 128, 32768, 32896, (n - 32896) / 256, 0] ∧ (I.drop 64).take 128 = List.replicate 128 0
end Go.Vl

set_option linter.unusedVariables false
set_option linter.unusedSimpArgs false
namespace Go.Vl
open Go Go.Proofs
def PSteps (A : SP) (cs : List Value) (ss : List StepC) : Prop := ∃ a cap, cs = [.slice a ss.length cap] ∧ ss.length ≤ cap ∧ ss.length ≤ 1353245080300 ∧ Rs A a (scs ss) ∧ ∀ t ∈ ss, t.v < 18446744073709551616
theorem rdb_intsA (W : World) : Rdb Try.prog W 22 (PInts (old W)) := rdb_ints Try.underlying22 Try.underlying3 (by kernel_rfl) (by kernel_rfl)
end Go.Vl

set_option linter.unusedVariables false
set_option linter.unusedSimpArgs false
namespace Go.Vl
open Go Go.Proofs
structure ImC where
  sz : Int
  fl : Int
  ha : Option Addr
  hcp : Nat
  hd : List Nat
  rt : Bool
  tn : Int
def ImC.cells (t : ImC) : List Value := [.int .i64 t.sz, .int .u8 t.fl, .slice t.ha t.hd.length t.hcp, .bool t.rt, .int .i64 t.tn]
def PImg (A : SP) (cs : List Value) (t : ImC) : Prop := cs = t.cells ∧ Rs A t.ha (bys t.hd) ∧ (∀ x ∈ t.hd, x < 256) ∧ t.hd.length ≤ t.hcp ∧ t.hd.length ≤ 140737488351232 ∧ (0 ≤ t.fl ∧ t.fl < 256) ∧ (-9223372036854775808 ≤ t.tn ∧ t.tn ≤ 9223372036854775807) ∧ (-9223372036854775808 ≤ t.sz ∧ t.sz ≤ 9223372036854775807)
end Go.Vl

set_option linter.unusedVariables false
set_option linter.unusedSimpArgs false
namespace Go.Vl
open Go Go.Proofs
/-- Rows that are read. -/
structure RwF (A : SP) (a : Option Addr) (vs : List Value) (ls : List (List Nat)) : Prop where
  len : vs.length = ls.length
  rd : Rs A a vs
  row : ∀ i (h : i < ls.length), ∃ b c, vs[i]? = some (.slice b ls[i].length c) ∧ Rs A b (bys ls[i])
theorem RwF.left {A X : SP} {a : Option Addr} {vs : List Value} {ls : List (List Nat)} (h : RwF A a vs ls) : RwF (A * X) a vs ls := ⟨h.len, h.rd.left, fun i hi => let ⟨b, c, e, hr⟩ := h.row i hi; ⟨b, c, e, hr.left⟩⟩
end Go.Vl

set_option linter.unusedVariables false
set_option linter.unusedSimpArgs false
namespace Go.Vl
open Go Go.Proofs
/-- What Format answers of any device, and the device behind it. -/
def fmX (s : DevS) : (List Int × Int) × DevS := if 578 ≤ s.ls.length then (((fmA (s.ls.length * 64) s).1, (fmtF (fst4 (s.ls.length * 64)) s).1), (fmtF (fst4 (s.ls.length * 64)) s).2) else (([0, 0, 0, 0, 0], 80), s)
end Go.Vl

set_option linter.unusedVariables false
set_option linter.unusedSimpArgs false
namespace Go.Vl
open Go Go.Proofs
theorem sto_room {r : Nat} {p e : Int} {b : List Nat} {s s2 : DevS} (h : sto p b s = (e, s2)) (hw : WfD s) (hb : ∀ x ∈ b, x < 256) (hr : Room (r + b.length) s) : Room r s2 := by
  have h0 : Room r s := room_le hr (by omega)
  have h2 : (sto p b s).2 = s2 := by rw [h]
  rw [← h2]
  unfold sto
  split
  · exact h0
  · exact (storeF_room b.length rfl hw hb hr).1
theorem flushS_room {r p : Nat} {s : DevS} (h : Room r s) : Room r (flushS p s) := fun l hl => by
  unfold flushS onLine at hl
  split at hl
  · rcases List.mem_or_eq_of_mem_set hl with h1 | h1
    · exact h l h1
    · rw [h1]
      rename_i l0 e
      exact h l0 (List.mem_of_getElem? e)
  · exact h l hl
theorem fl1_room {r : Nat} {p e : Int} {s s2 : DevS} (h : fl1 p s = (e, s2)) (hw : WfD s) (hr : Room r s) : Room r s2 := by
  unfold fl1 at h
  split at h
  · rw [← (Prod.mk.inj h).2]; exact hr
  · rw [← (Prod.mk.inj h).2]; exact done_room (flushS_wf hw) (flushS_room hr)
theorem fe_room {r : Nat} {e : Int} {s s2 : DevS} (h : fe s = (e, s2)) (hw : WfD s) (hr : Room r s) : Room r s2 := by
  unfold fe at h
  split at h
  · rw [← (Prod.mk.inj h).2]; exact hr
  · rw [← (Prod.mk.inj h).2]
    refine done_room (fence_wf hw) fun l hl => ?_
    simp only [fenceS, List.mem_map] at hl
    obtain ⟨l0, h0, rfl⟩ := hl
    have h3 : (fenceL l0).st.length ≤ l0.st.length := by unfold fenceL; split <;> simp
    have := hr l0 h0
    omega
/-- The contents of a line, by any number. -/
def ctI (p : Int) (s : DevS) : List (List Nat) := if p < 0 then [] else ctS p.toNat s
/-- What Load tells. -/
def ldB (p m : Int) (s : DevS) : List Nat := if rdy s.ls.length s.off p m = 0 then ((imgS s).drop p.toNat).take m.toNat else []
end Go.Vl

set_option linter.unusedVariables false
set_option linter.unusedSimpArgs false
namespace Go.Vl
open Go Go.Proofs
theorem Op9W.left {A X : SP} {t : Op9} (h : Op9W A t) : Op9W (A * X) t := ⟨h.cap, h.rs.left, h.byt, h.v, h.kcap, h.krs.left, h.kb, h.q, h.n⟩
/-- What PersistLasts is handed. -/
structure RgC where
  ba : Option Addr
  bc : Nat
  bef : List Op9
  q : Int
  a : Option Addr
  c : Nat
  b : List Nat
  ha : Option Addr
  hc : Nat
  beh : List Op9
  ka : Option Addr
  kc : Nat
  kp : List Int
def RgC.cells (t : RgC) : List Value := [.slice t.ba t.bef.length t.bc, .int .i64 t.q, .slice t.a t.b.length t.c, .slice t.ha t.beh.length t.hc, .slice t.ka t.kp.length t.kc]
structure RgW (A : SP) (t : RgC) : Prop where
  hrb : Rs A t.ba (ocs t.bef)
  hwb : ∀ x ∈ t.bef, Op9W A x
  hrh : Rs A t.ha (ocs t.beh)
  hwh : ∀ x ∈ t.beh, Op9W A x
  hr : Rs A t.a (bys t.b)
  hb : ∀ x ∈ t.b, x < 256
  hcap : t.b.length ≤ t.c
  hrk : Rs A t.ka (ints t.kp)
end Go.Vl

set_option linter.unusedVariables false
set_option linter.unusedSimpArgs false
namespace Go.Vl
open Go Go.Proofs
def xm (i : Nat) : Int := IntKind.u8.wrap (IntKind.i64.wrap ((BitVec.ofInt IntKind.i64.bits 165 ^^^ BitVec.ofInt IntKind.i64.bits (i : Int)).toNat))
/-- The marks behind a list of bytes. -/
def xmN (i : Nat) : Nat := (xm i).toNat
def spm (n : Nat) : List Nat := (List.range 80).map fun j => xmN (n + j)
def spi (n : Nat) : List Int := (List.range 9).map fun j => (7700 + ((n + j : Nat) : Int))
theorem spi_len (n : Nat) : (spi n).length = 9 := by simp [spi]
theorem spi_at {xs : List Int} {i m : Nat} (hm : xs.length = m) (h : m ≤ i) (hi : i < (xs ++ spi m).length) : (xs ++ spi m)[i] = 7700 + (i : Int) := by
  rw [List.getElem_append_right (by omega)]
  simp only [spi, List.getElem_map, List.getElem_range]; omega
theorem spare_step {α : Type} {W : List α} {L i : Nat} {v z : α} (hL : W.length = L) (hi : i < W.length) (hv : W[i] = v) : (W.take i ++ List.replicate (L - i) z).set i v = W.take (i + 1) ++ List.replicate (L - (i + 1)) z := by
  rw [set_mid (by rw [List.length_take]; omega) (by omega), List.take_succ_eq_append_getElem hi, hv]
theorem ints_rep (k : Nat) : List.replicate k (.int .i64 0) = ints (List.replicate k 0) := by simp [ints, i64]
theorem ints_take (xs : List Int) (n : Nat) : (ints xs).take n = ints (xs.take n) := by simp [ints, List.map_take]
theorem rs_preI {A : SP} {a : Option Addr} {xs ys : List Int} (h : Rs A a (ints (xs ++ ys))) : Rs A a (ints xs) := by
  have := h.sub xs.length
  rwa [ints_take, List.take_left] at this
theorem int_lists {xs ys : List Int} {i : Nat} (h : xs.take i = ys.take i) (hi : i < xs.length) (hj : i < ys.length) (e : xs[i] = ys[i]) : xs.take (i + 1) = ys.take (i + 1) := by
  rw [List.take_succ_eq_append_getElem hi, List.take_succ_eq_append_getElem hj, h, e]
attribute [local irreducible] Sl pt ro
theorem SpareInts_c {A : SP} {a : Option Addr} {c m : Nat} {xs : List Int} (hr : Rs A a (ints xs) := by repeat (first | assumption | with_reducible exact rs_sl | with_reducible exact rs_pt0 | exact rs_none | apply Rs.left)) (hm : xs.length = m := by first | assumption | rfl) (hl : m ≤ 17592186043904 := by omega) :
    Fn Try.prog 9 #[.slice a m c] (A) (fun v B => ∃ a, v = .slice a m (m + 9) ∧ B = A * Sl 1 (.slice a (m + 9) (m + 9)) (m + 9) (ints (xs ++ spi m))) := by
  refine fn_enterW (args := [.slice a m c]) Try.func9 rfl Try.ntmps9 (by simp) ?_
  have hW : (xs ++ spi m).length = m + 9 := by rw [List.length_append, hm, spi_len]
  refine sr ?_; refine tla ?_; refine nq ?_; refine sr ?_; refine tlm ?_; refine tv (o_len Try.underlying22 rfl) ?_; refine tv (by first | exact o_addI rfl rfl (by omega) | exact o_add rfl rfl) ?_; refine tl_env (d := 7) (v := .int .i64 ((m + 9 : Nat) : Int)) (rfl) ?_; refine tl_x rfl (o_makeSlice (len := m + 9) (cap := m + 9) Try.underlying22 sz3 by3 z3 rfl rfl rfl (by omega) (by omega) (by omega)) ?_; rintro _ _ ⟨b8, rfl, rfl⟩
  rw [ints_rep]
  refine tl_pre (fun _ _ h => sl_new (k := 1) (n := m + 9) (cap := m + 9) (xs := ints (List.replicate (m + 9) 0)) h (Nat.le_refl _) (by rw [ints_length, List.length_replicate]; omega) (by rw [List.take_of_length_le (by rw [ints_length, List.length_replicate]; omega)])) ?_; refine tla ?_; refine nq ?_; refine tc_seq ?_; refine sr ?_; refine tla ?_; refine nq ?_; refine tc_block ?_; refine tc_loop (fun kk ρ BB => ∃ (i : Nat), (i ≤ m + 9) ∧ kk = m + 9 - i ∧ ρ 4 = .int .i64 (i : Nat) ∧ ρ 0 = .slice a m c ∧ ρ 3 = .slice (some ⟨b8, 0, none⟩) (m + 9) (m + 9) ∧ BB = A * Sl 1 (.slice (some ⟨b8, 0, none⟩) (m + 9) (m + 9)) (m + 9) (ints ((xs ++ spi m).take i ++ List.replicate (m + 9 - i) 0))) (m := m + 9 - (0)) ?_ ?_
  · exact ⟨0, by omega, rfl, rfl, rfl, rfl, rfl⟩
  · intro k ρ B hI
    obtain ⟨i, hp0, hkk1, hE4, hE0, hE3, rfl⟩ := hI
    refine tc_env (d := 4) hE4 ?_; refine tc_env (d := 0) hE0 ?_; refine tc_env (d := 3) hE3 ?_
    clear hE4 hE0 hE3
    refine tc_seq ?_; refine sr ?_; refine tlm ?_; refine tlm ?_; refine tv (o_len Try.underlying22 rfl) ?_; refine tv (o_lss rfl rfl) ?_; refine nq ?_; refine tc_cond rfl (fun h => ?_) (fun h => ?_)
    · have hi : i < (xs ++ spi m).length := by simp at h; omega
      refine tc_skip ?_; refine q_then_n ?_; refine tc_seq ?_; refine tc_block ?_; refine sr ?_; refine tlm ?_; refine tlm ?_; refine tv (o_len Try.underlying22 rfl) ?_; refine tv (o_lss rfl rfl) ?_; refine nq ?_; refine tc_cond rfl (fun h => ?_) (fun h => ?_)
      · have hlt : i < xs.length := by simp at h; omega
        have hv : (xs ++ spi m)[i] = xs[i] := List.getElem_append_left (by omega)
        refine tc_reg ?_; refine tlm ?_; refine tlm ?_; refine tlm ?_; refine tlm ?_; refine tv (o_ixP1 Try.underlying22 sz3 rfl rfl (by first | omega | (simp only [bys_length, ints_length, wds_length, bos_length, List.length_append, List.length_take, List.length_drop, List.length_singleton]; omega)) (by repeat (first | exact nn_some | with_reducible exact nn_sl (by decide) | exact nn_rs (by assumption) (fun _ => by first | omega | (simp only [bys_length, ints_length, wds_length, bos_length, List.length_append, List.length_take, List.length_drop, List.length_singleton]; omega)) | apply Nn.left))) ?_; refine tv (o_ldP p3 rfl (by repeat (first | assumption | with_reducible exact rs_sl | with_reducible exact rs_pt0 | exact rs_none | apply Rs.left)) (by first | assumption | exact bys_at (by omega) | exact ints_at (by omega) | exact wds_at (by omega) | exact bos_at (by omega) | rfl)) ?_; refine tv (o_ixP1 Try.underlying22 sz3 rfl rfl (by first | omega | (simp only [bys_length, ints_length, wds_length, bos_length, List.length_append, List.length_take, List.length_drop, List.length_singleton]; omega)) (by repeat (first | exact nn_some | with_reducible exact nn_sl (by decide) | exact nn_rs (by assumption) (fun _ => by first | omega | (simp only [bys_length, ints_length, wds_length, bos_length, List.length_append, List.length_take, List.length_drop, List.length_singleton]; omega)) | apply Nn.left))) ?_; refine tl_u rfl (o_stP sz3 rfl rfl rfl (by repeat (first | with_reducible exact ct_here | apply ct_left)) (by omega) (by first | exact bys_set _ _ _ | exact ints_set _ _ _ | exact wds_set' _ _ _ | exact bos_set _ _ _ | rfl)) ?_
        refine tl_nil ?_; refine q_block_n (q_then_n ?_); refine tc_reg ?_; refine tlm ?_; refine tv (by first | exact o_addI rfl rfl (by omega) | exact o_add rfl rfl) ?_; refine tla ?_; refine nq ?_; exact ⟨_, by omega, i + 1, by omega, rfl, rfl, rfl, rfl, by rw [spare_step hW hi hv]⟩
      · have hv := spi_at hm (show m ≤ i by simp at h; omega) hi
        refine tc_reg ?_; refine tlm ?_; refine tlm ?_; refine tlm ?_; refine tv (by first | exact o_addI rfl rfl (by omega) | exact o_add rfl rfl) ?_; refine tv (o_ixP1 Try.underlying22 sz3 rfl rfl (by first | omega | (simp only [bys_length, ints_length, wds_length, bos_length, List.length_append, List.length_take, List.length_drop, List.length_singleton]; omega)) (by repeat (first | exact nn_some | with_reducible exact nn_sl (by decide) | exact nn_rs (by assumption) (fun _ => by first | omega | (simp only [bys_length, ints_length, wds_length, bos_length, List.length_append, List.length_take, List.length_drop, List.length_singleton]; omega)) | apply Nn.left))) ?_; refine tl_u rfl (o_stP sz3 rfl rfl rfl (by repeat (first | with_reducible exact ct_here | apply ct_left)) (by omega) (by first | exact bys_set _ _ _ | exact ints_set _ _ _ | exact wds_set' _ _ _ | exact bos_set _ _ _ | rfl)) ?_; refine tl_nil ?_; refine q_block_n (q_then_n ?_); refine tc_reg ?_; refine tlm ?_; refine tv (by first | exact o_addI rfl rfl (by omega) | exact o_add rfl rfl) ?_; refine tla ?_; refine nq ?_; exact ⟨_, by omega, i + 1, by omega, rfl, rfl, rfl, rfl, by rw [spare_step hW hi hv]⟩
    · obtain rfl : i = m + 9 := by simp at h; omega
      rw [List.take_of_length_le (by omega), Nat.sub_self, List.replicate_zero, List.append_nil]
      refine tc_exit ?_; refine q_then_e (q_then_e (q_block_x (q_then_n ?_))); refine sr ?_; refine tlm ?_; refine tlm ?_; refine tv (o_len Try.underlying22 rfl) ?_; refine tv (o_slice (l := 0) (h := m) Try.underlying22 sz3 rfl bnd_none (bnd_nat rfl) (by omega) (by omega)) ?_; refine tl_env (d := 34) (v := .slice (some ⟨b8, 0, none⟩) m (m + 9)) (by show Value.slice (cutAddr _ _ 0 1) (m - 0) (m + 9 - 0) = _; rw [cut_none]; rfl) ?_; refine tla ?_; refine nq ?_; refine tc_ret ?_; exact ⟨.slice (some ⟨b8, 0, none⟩) m (m + 9), _, res1 rfl rfl, fun _ _ h => h, some ⟨b8, 0, none⟩, rfl, rfl⟩
theorem EqInts_c {A : SP} {a1 a2 : Option Addr} {c1 c2 n m : Nat} {xs ys : List Int} (h1 : Rs A a1 (ints xs) := by repeat (first | assumption | with_reducible exact rs_sl | with_reducible exact rs_pt0 | exact rs_none | apply Rs.left)) (h2 : Rs A a2 (ints ys) := by repeat (first | assumption | with_reducible exact rs_sl | with_reducible exact rs_pt0 | exact rs_none | apply Rs.left)) (hx : xs.length = n := by first | assumption | rfl) (hy : ys.length = m := by first | assumption | rfl) (hn : n ≤ 4611686018427387904 := by omega) (hm : m ≤ 4611686018427387904 := by omega) :
    Fn Try.prog 41 #[.slice a1 n c1, .slice a2 m c2] (A) (fun v B => v = .bool (decide (xs = ys)) ∧ A = B) := by
  refine fn_enterW (args := [.slice a1 n c1, .slice a2 m c2]) Try.func41 rfl Try.ntmps41 (by simp) ?_; refine sr ?_; refine tla ?_; refine nq ?_; refine tc_seq ?_; refine sr ?_; refine tlm ?_; refine tv (o_len Try.underlying22 rfl) ?_; refine tlm ?_; refine tv (o_len Try.underlying22 rfl) ?_; refine tv (o_nei rfl rfl) ?_; refine nq ?_; refine tc_cond rfl (fun h => ?_) (fun h => ?_)
  · try simp only [lv1, lv2, lv3, lv4, lv5, lv6, Bool.not_true, Bool.not_false] at h
    refine sr ?_; refine tla ?_; refine nq ?_; refine tc_ret ?_; refine q_then_r ?_; refine ⟨.bool false, _, res1 rfl rfl, ?_, (by rw [decide_eq_false]; intro e; subst e; omega), rfl⟩; exact Dr.sat (by repeat (first | with_reducible exact dr_refl | apply dr_keep | apply dr_drop))
  · try simp only [lv1, lv2, lv3, lv4, lv5, lv6, Bool.not_true, Bool.not_false] at h
    refine tc_skip ?_; refine q_then_n ?_; refine tc_seq ?_; refine sr ?_; refine tla ?_; refine nq ?_; refine tc_block ?_; refine tc_loop (fun kk ρ BB => ∃ (i : Nat), (i ≤ n) ∧ (xs.take i = ys.take i) ∧ kk = n - i ∧ ρ 5 = .int .i64 (i : Nat) ∧ ρ 0 = .slice a1 n c1 ∧ ρ 1 = .slice a2 m c2 ∧ BB = A) (m := n - (0)) ?_ ?_
    · exact ⟨0, by omega, rfl, rfl, rfl, rfl, rfl, rfl⟩
    · intro k ρ B hI
      obtain ⟨i, hp0, hp1, hkk1, hE5, hE0, hE1, hBA⟩ := hI
      obtain rfl := hBA.symm
      refine tc_env (d := 5) hE5 ?_; refine tc_env (d := 0) hE0 ?_; refine tc_env (d := 1) hE1 ?_
      clear hE5 hE0 hE1
      refine tc_seq ?_; refine sr ?_; refine tlm ?_; refine tlm ?_; refine tv (o_len Try.underlying22 rfl) ?_; refine tv (o_lss rfl rfl) ?_; refine nq ?_; refine tc_cond rfl (fun h => ?_) (fun h => ?_)
      · have hi : i < xs.length := by simp at h; omega
        have hj : i < ys.length := by omega
        refine tc_skip ?_; refine q_then_n ?_; refine tc_seq ?_; refine tc_block ?_; refine tc_seq ?_; refine tc_regq mo (by kernel_rfl) ?_; refine ql_v rfl (o_move (by conv => lhs; whnf)) ?_; refine ql_v rfl (o_move (by conv => lhs; whnf)) ?_; refine ql_v rfl (o_ixP1 Try.underlying22 sz3 rfl rfl (by omega) (nn_rs h1 (fun _ => by rw [ints_length]; omega))) ?_; refine ql_v rfl (o_ldP p3 rfl h1 (ints_at hi)) ?_; refine ql_v rfl (o_move (by conv => lhs; whnf)) ?_; refine ql_v rfl (o_move (by conv => lhs; whnf)) ?_; refine ql_v rfl (o_ixP1 Try.underlying22 sz3 rfl rfl (by omega) (nn_rs h2 (fun _ => by rw [ints_length]; omega))) ?_; refine ql_v rfl (o_ldP p3 rfl h2 (ints_at hj)) ?_; refine ql_v rfl (o_nei rfl rfl) ?_; refine ql_nil ?_; refine q_then_n ?_; refine tc_cond rfl (fun h => ?_) (fun h => ?_)
        · try simp only [lv1, lv2, lv3, lv4, lv5, lv6, Bool.not_true, Bool.not_false] at h
          refine sr ?_; refine tla ?_; refine nq ?_; refine tc_ret ?_; refine q_block_r (q_then_r (q_then_r (q_block_r (q_then_r ?_)))); refine ⟨.bool false, _, res1 rfl rfl, ?_, (by rw [decide_eq_false]; intro e; subst e; simp at h), rfl⟩; exact Dr.sat (by repeat (first | with_reducible exact dr_refl | apply dr_keep | apply dr_drop))
        · have heq : xs[i] = ys[i] := by simpa using h
          refine tc_skip ?_; refine q_block_n (q_then_n ?_); refine tc_reg ?_; refine tlm ?_; refine tv (by first | exact o_addI rfl rfl (by omega) | exact o_add rfl rfl) ?_; refine tla ?_; refine nq ?_; exact ⟨_, by omega, i + 1, by omega, int_lists hp1 hi hj heq, rfl, rfl, rfl, rfl, rfl⟩
      · try simp only [lv1, lv2, lv3, lv4, lv5, lv6, Bool.not_true, Bool.not_false] at h
        refine tc_exit ?_; refine q_then_e (q_then_e (q_block_x (q_then_n ?_))); refine sr ?_; refine tla ?_; refine nq ?_; refine tc_ret ?_; refine ⟨.bool true, _, res1 rfl rfl, ?_, (by rw [decide_eq_true]; have e : i = n := (by simp at h; omega); rw [List.take_of_length_le (by omega), List.take_of_length_le (by omega)] at hp1; exact hp1), rfl⟩; exact Dr.sat (by repeat (first | with_reducible exact dr_refl | apply dr_keep | apply dr_drop))
theorem KeptInts_c {A : SP} {a a2 : Option Addr} {c2 m : Nat} {xs : List Int} (hr : Rs A a (ints (xs ++ spi m)) := by repeat (first | assumption | with_reducible exact rs_sl | with_reducible exact rs_pt0 | exact rs_none | apply Rs.left)) (hr2 : Rs A a2 (ints xs) := by repeat (first | assumption | with_reducible exact rs_sl | with_reducible exact rs_pt0 | exact rs_none | apply Rs.left)) (hm : xs.length = m := by first | assumption | rfl) (hl : m ≤ 17592186043904 := by omega) :
    Fn Try.prog 12 #[.slice a m (m + 9), .slice a2 m c2] (A) (fun v B => v = .bool true ∧ A = B) := by
  refine fn_enterW (args := [.slice a m (m + 9), .slice a2 m c2]) Try.func12 rfl Try.ntmps12 (by simp) ?_
  have hW : (xs ++ spi m).length = m + 9 := by rw [List.length_append, hm, spi_len]
  refine sr ?_; refine tla ?_; refine nq ?_; refine tc_seq ?_; refine sr ?_; refine tlm ?_; refine tlm ?_; refine tl_c rfl (o_call bd41 rfl (EqInts_c (xs := xs) (ys := xs) (h1 := rs_preI hr))) ?_; rintro _ _ ⟨rfl, rfl⟩; refine tl_env (d := 9) (v := .bool true) (congrArg Value.bool (decide_eq_true rfl)) ?_; refine tv (o_not rfl) ?_; refine nq ?_; refine tc_cond rfl (fun h => ?_) (fun h => ?_)
  · exfalso; simp at h
  · try simp only [lv1, lv2, lv3, lv4, lv5, lv6, Bool.not_true, Bool.not_false] at h
    refine tc_skip ?_; refine q_then_n ?_; refine sr ?_; refine tlm ?_; refine tlm ?_; refine tv (o_len Try.underlying22 rfl) ?_; refine tv (by first | exact o_addI rfl rfl (by omega) | exact o_add rfl rfl) ?_; refine tl_env (d := 14) (v := .int .i64 ((m + 9 : Nat) : Int)) (rfl) ?_; refine tv (o_slice (l := 0) (h := m + 9) Try.underlying22 sz3 rfl bnd_none (bnd_nat rfl) (by omega) (by omega)) ?_; refine tl_env (d := 15) (v := .slice a (m + 9) (m + 9)) (by show Value.slice (cutAddr _ _ 0 1) (m + 9 - 0) (m + 9 - 0) = _; rw [cut_none]; rfl) ?_; refine tla ?_; refine nq ?_; refine tc_seq ?_; refine sr ?_; refine tlm ?_; refine tv (o_len Try.underlying22 rfl) ?_; refine tla ?_; refine nq ?_; refine tc_block ?_; refine tc_loop (fun kk ρ BB => ∃ (i : Nat), (m ≤ i) ∧ (i ≤ m + 9) ∧ kk = m + 9 - i ∧ ρ 6 = .int .i64 (i : Nat) ∧ ρ 5 = .slice a (m + 9) (m + 9) ∧ BB = A) (m := m + 9 - (m)) ?_ ?_
    · exact ⟨m, by omega, by omega, rfl, rfl, rfl, rfl⟩
    · intro k ρ B hI
      obtain ⟨i, hp0, hp1, hkk1, hE6, hE5, hBA⟩ := hI
      obtain rfl := hBA.symm
      refine tc_env (d := 6) hE6 ?_; refine tc_env (d := 5) hE5 ?_
      clear hE6 hE5
      refine tc_seq ?_; refine sr ?_; refine tlm ?_; refine tlm ?_; refine tv (o_len Try.underlying22 rfl) ?_; refine tv (o_lss rfl rfl) ?_; refine nq ?_; refine tc_cond rfl (fun h => ?_) (fun h => ?_)
      · have hi : i < (xs ++ spi m).length := by simp at h; omega
        have hv := spi_at hm hp0 hi
        refine tc_skip ?_; refine q_then_n ?_; refine tc_seq ?_; refine tc_block ?_; refine sr ?_; refine tlm ?_; refine tlm ?_; refine tv (o_ixP1 Try.underlying22 sz3 rfl rfl (by omega) (nn_rs hr (fun _ => by rw [ints_length]; omega))) ?_; refine tv (o_ldP p3 rfl hr (ints_at hi)) ?_; refine tl_env (d := 27) (v := .int .i64 (7700 + (i : Int))) (congrArg (Value.int .i64) hv) ?_; refine tlm ?_; refine tv (by first | exact o_addI rfl rfl (by omega) | exact o_add rfl rfl) ?_; refine tv (o_nei rfl rfl) ?_; refine nq ?_; refine tc_cond rfl (fun h => ?_) (fun h => ?_)
        · exfalso; simp at h
        · try simp only [lv1, lv2, lv3, lv4, lv5, lv6, Bool.not_true, Bool.not_false] at h
          refine tc_skip ?_; refine q_block_n (q_then_n ?_); refine tc_reg ?_; refine tlm ?_; refine tv (by first | exact o_addI rfl rfl (by omega) | exact o_add rfl rfl) ?_; refine tla ?_; refine nq ?_; exact ⟨_, by omega, i + 1, by omega, by omega, rfl, rfl, rfl, rfl⟩
      · try simp only [lv1, lv2, lv3, lv4, lv5, lv6, Bool.not_true, Bool.not_false] at h
        refine tc_exit ?_; refine q_then_e (q_then_e (q_block_x (q_then_n ?_))); refine sr ?_; refine tla ?_; refine nq ?_; refine tc_ret ?_; refine ⟨_, _, res1 rfl rfl, ?_, rfl, rfl⟩; exact Dr.sat (by repeat (first | with_reducible exact dr_refl | apply dr_keep | apply dr_drop))
end Go.Vl

set_option linter.unusedVariables false
set_option linter.unusedSimpArgs false
namespace Go.Vl
open Go Go.Proofs
theorem rangeP_room {r : Nat} {p m e : Int} {s s2 : DevS} (h : rangeP p m s = (e, s2)) (hw : WfD s) (hr : Room r s) : Room r s2 := by
  have h2 : (rangeP p m s).2 = s2 := by rw [h]
  rw [← h2]
  unfold rangeP
  split
  · exact hr
  · split
    · exact hr
    · split
      · exact hr
      · exact (flF_room _ _ _ hw hr).1
/-- How wide. -/
def wd (n : Int) : Nat := 2 ^ wi n 4
end Go.Vl

set_option linter.unusedVariables false
set_option linter.unusedSimpArgs false
namespace Go.Vl
open Go Go.Proofs
theorem done_on {s : DevS} (h : doneE s = 0) : (doneS s).off = s.off := by
  unfold doneE at h
  unfold doneS
  cases e : s.arms with
  | nil => rfl
  | cons a ar =>
    rw [e] at h
    simp only at h ⊢
    split
    · rfl
    · rename_i c; rw [if_neg c] at h; exact absurd h (by decide)
theorem storeF_on : ∀ (m : Nat) {p : Nat} {b : List Nat} {s s2 : DevS}, b.length = m → storeF b.length p b s = (0, s2) → s2.off = s.off := by
  intro m
  induction m using Nat.strongRecOn with
  | _ m ih =>
    intro p b s s2 hm h
    by_cases h0 : b = []
    · subst h0; rw [storeF_nil] at h; simp only [Prod.mk.injEq, true_and] at h; rw [h]
    · have hpos : 0 < b.length := List.length_pos_iff.2 h0
      rw [storeF_step h0] at h
      by_cases hd : doneE (layS (p - p % 8) (nm (stW p b s)) s) = 0
      · rw [if_neg (by rw [hd]; decide)] at h
        have := ih (b.drop (8 - p % 8)).length (by rw [List.length_drop]; omega) rfl h
        rw [this, done_on hd, layS_off]
      · rw [if_pos hd] at h
        simp only [Prod.mk.injEq] at h
        exact absurd h.1 hd
theorem sto_on {p : Int} {b : List Nat} {s s2 : DevS} (h : sto p b s = (0, s2)) : s2.off = s.off := by
  unfold sto at h
  split at h
  · rename_i hr; simp only [Prod.mk.injEq] at h; exact absurd h.1 hr
  · exact storeF_on _ rfl h
def needN (l : List (Int × Int)) : Nat := (l.map fun x => 24 + up8 x.2.toNat).sum
theorem needN_cons (x : Int × Int) (l : List (Int × Int)) : needN (x :: l) = 24 + up8 x.2.toNat + needN l := by unfold needN; rw [List.map_cons, List.sum_cons]
theorem needF_ok : ∀ {l : List (Int × Int)} {s e r : Int}, (∀ x ∈ l, 1 ≤ x.2) → needF (lensX l) s = (r, e) → e = 0 → r = s + (needN l : Nat)
  | [], s, e, r, _, h, _ => by
    simp only [lensX, List.map_nil, needF, Prod.mk.injEq] at h
    rw [← h.1]; show s = s + ((0 : Nat) : Int); omega
  | x :: l, s, e, r, hx, h, he => by
    have h1 := hx x (by simp)
    obtain ⟨n, hn⟩ := Int.eq_ofNat_of_zero_le (show 0 ≤ x.2 by omega)
    have hc : lensX (x :: l) = (n : Int) :: lensX l := by unfold lensX; rw [List.map_cons, hn]
    rw [hc, needF_cons (by omega)] at h
    split at h
    · simp only [Prod.mk.injEq] at h; omega
    · rename_i hno
      have h2 := needF_ok (fun x hx' => hx x (List.mem_cons_of_mem _ hx')) h he
      rw [h2, needN_cons, hn, Int.toNat_natCast]
      have : (rndS n).1 = ((up8 n : Nat) : Int) := by unfold rndS at hno ⊢; split at hno <;> rename_i hh; exact absurd (.inl (by decide)) hno; rw [if_neg hh]
      omega
attribute [local irreducible] crk crL crc Sl pt ro Dev imgS recS
theorem Open_ok {A R : SP} {C : SP → SP} {d : Nat} {s : DevS} (hc : Ct A (Dev d s) R C := by repeat (first | with_reducible exact ct_here | apply ct_left)) {p q : Int} (hp : -9223372036854775808 ≤ p ∧ p ≤ 9223372036854775807 := by omega) (hq : -9223372036854775808 ≤ q ∧ q ≤ 9223372036854775807 := by omega) (hok : (64 ≤ p ∧ p % 64 = 0 ∧ 128 ≤ q ∧ q % 64 = 0 ∧ p ≤ (s.ls.length : Int) * 64 ∧ q ≤ (s.ls.length : Int) * 64 - p) := by omega) :
    Fn Try.prog 16 #[.pointer (some ⟨d, 0, none⟩), .int .i64 p, .int .i64 q] (A) (fun r B => ∃ b, r = .tuple #[.pointer (some ⟨b, 0, none⟩), .int .i64 0] ∧ B = A * pt b (cl [.pointer (some ⟨d, 0, none⟩), .int .i64 p, .int .i64 q] 52)) := by
  refine fn_enterW (args := [.pointer (some ⟨d, 0, none⟩), .int .i64 p, .int .i64 q]) Try.func16 rfl Try.ntmps16 (by simp) ?_; refine tc_have (fun _ _ h => ct_wf2 hc h) fun hw => ?_
  have htop := hw.top
  have hpos := hw.pos
  obtain ⟨rfl, hC⟩ := hc
  refine sr ?_; refine tla ?_; refine tla ?_; refine nq ?_; refine sr ?_; refine tlm ?_; refine tl_c rfl (o_call bd45 rfl (Size_c (s := s))) ?_; rintro _ _ ⟨rfl, rfl⟩; refine tla ?_; refine nq ?_; refine tc_seq ?_; refine tc_block ?_; refine sr ?_; refine tlm ?_; refine tv (o_eqi rfl rfl) ?_; refine tla ?_; refine nq ?_; refine tc_cond rfl (fun h => ?_) (fun h => ?_)
  · exfalso; first | omega | (simp at h; omega)
  · try simp only [lv1, lv2, lv3, lv4, lv5, lv6, Bool.not_true, Bool.not_false] at h
    refine tc_seq ?_; refine tc_cut (fun ρ BB => ∃ (bb : Bool), (bb = decide (¬ (64 ≤ p ∧ p % 64 = 0 ∧ 128 ≤ q ∧ q % 64 = 0 ∧ p ≤ (s.ls.length : Int) * 64 ∧ q ≤ (s.ls.length : Int) * 64 - p))) ∧ ρ 14 = .bool bb ∧ ρ 0 = .pointer (some ⟨d, 0, none⟩) ∧ ρ 1 = .int .i64 p ∧ ρ 2 = .int .i64 q ∧ BB = R * Dev d s) ?_ ?_
    · skip
      refine tc_reg ?_; refine tlm ?_; refine tv (o_lss rfl rfl) ?_; refine tlm ?_; refine tl_bool (d := 17) rfl (fun h => ?_) (fun h => ?_)
      · have g17 : (p < 64) := by first | exact of_decide_eq_true h | (have h2 := h; simp at h2; omega) | simpa using h
        refine tk ?_; refine tk ?_; refine tk ?_; refine tv (o_pick_t rfl (by conv => lhs; whnf)) ?_; refine tlm ?_; refine tk ?_; refine tk ?_; refine tv (o_pick_t rfl (by conv => lhs; whnf)) ?_; refine tlm ?_; refine tk ?_; refine tk ?_; refine tk ?_; refine tv (o_pick_t rfl (by conv => lhs; whnf)) ?_; refine tlm ?_; refine tk ?_; refine tk ?_; refine tk ?_; refine tv (o_pick_t rfl (by conv => lhs; whnf)) ?_; refine tlm ?_; refine tk ?_; refine tk ?_; refine tk ?_; refine tk ?_; refine tk ?_; refine tv (o_pick_t rfl (by conv => lhs; whnf)) ?_; refine tla ?_; refine tl_nil ?_; exact ⟨_, by first | exact (decide_eq_true (by omega)).symm | exact (decide_eq_false (by omega)).symm | (rw [decide_eq_decide]; omega), rfl, rfl, rfl, rfl, rfl⟩
      · have g17 : ¬ (p < 64) := by first | exact of_decide_eq_false h | (have h2 := h; simp at h2; omega) | simpa using h
        refine tlm ?_; refine tv (by first | exact o_remI rfl rfl (by omega) | exact o_rem rfl rfl (by omega)) ?_; refine tv (o_nei rfl rfl) ?_; refine tv (o_pick_f rfl (by conv => lhs; whnf)) ?_; refine tlm ?_; refine tl_bool (d := 22) rfl (fun h => ?_) (fun h => ?_)
        · have g22 : (p < 64 ∨ p % 64 ≠ 0) := by first | exact of_decide_eq_true h | (have h2 := h; simp at h2; omega) | simpa using h
          refine tk ?_; refine tk ?_; refine tv (o_pick_t rfl (by conv => lhs; whnf)) ?_; refine tlm ?_; refine tk ?_; refine tk ?_; refine tk ?_; refine tv (o_pick_t rfl (by conv => lhs; whnf)) ?_; refine tlm ?_; refine tk ?_; refine tk ?_; refine tk ?_; refine tv (o_pick_t rfl (by conv => lhs; whnf)) ?_; refine tlm ?_; refine tk ?_; refine tk ?_; refine tk ?_; refine tk ?_; refine tk ?_; refine tv (o_pick_t rfl (by conv => lhs; whnf)) ?_; refine tla ?_; refine tl_nil ?_; exact ⟨_, by first | exact (decide_eq_true (by omega)).symm | exact (decide_eq_false (by omega)).symm | (rw [decide_eq_decide]; omega), rfl, rfl, rfl, rfl, rfl⟩
        · have g22 : ¬ (p < 64 ∨ p % 64 ≠ 0) := by first | exact of_decide_eq_false h | (have h2 := h; simp at h2; omega) | simpa using h
          refine tlm ?_; refine tv (o_lss rfl rfl) ?_; refine tv (o_pick_f rfl (by conv => lhs; whnf)) ?_; refine tlm ?_; refine tl_bool (d := 26) rfl (fun h => ?_) (fun h => ?_)
          · have g26 : (p < 64 ∨ p % 64 ≠ 0 ∨ q < 128) := by first | exact of_decide_eq_true h | (have h2 := h; simp at h2; omega) | simpa using h
            refine tk ?_; refine tk ?_; refine tk ?_; refine tv (o_pick_t rfl (by conv => lhs; whnf)) ?_; refine tlm ?_; refine tk ?_; refine tk ?_; refine tk ?_; refine tv (o_pick_t rfl (by conv => lhs; whnf)) ?_; refine tlm ?_; refine tk ?_; refine tk ?_; refine tk ?_; refine tk ?_; refine tk ?_; refine tv (o_pick_t rfl (by conv => lhs; whnf)) ?_; refine tla ?_; refine tl_nil ?_; exact ⟨_, by first | exact (decide_eq_true (by omega)).symm | exact (decide_eq_false (by omega)).symm | (rw [decide_eq_decide]; omega), rfl, rfl, rfl, rfl, rfl⟩
          · have g26 : ¬ (p < 64 ∨ p % 64 ≠ 0 ∨ q < 128) := by first | exact of_decide_eq_false h | (have h2 := h; simp at h2; omega) | simpa using h
            refine tlm ?_; refine tv (by first | exact o_remI rfl rfl (by omega) | exact o_rem rfl rfl (by omega)) ?_; refine tv (o_nei rfl rfl) ?_; refine tv (o_pick_f rfl (by conv => lhs; whnf)) ?_; refine tlm ?_; refine tl_bool (d := 31) rfl (fun h => ?_) (fun h => ?_)
            · have g31 : (p < 64 ∨ p % 64 ≠ 0 ∨ q < 128 ∨ q % 64 ≠ 0) := by first | exact of_decide_eq_true h | (have h2 := h; simp at h2; omega) | simpa using h
              refine tk ?_; refine tk ?_; refine tk ?_; refine tv (o_pick_t rfl (by conv => lhs; whnf)) ?_; refine tlm ?_; refine tk ?_; refine tk ?_; refine tk ?_; refine tk ?_; refine tk ?_; refine tv (o_pick_t rfl (by conv => lhs; whnf)) ?_; refine tla ?_; refine tl_nil ?_; exact ⟨_, by first | exact (decide_eq_true (by omega)).symm | exact (decide_eq_false (by omega)).symm | (rw [decide_eq_decide]; omega), rfl, rfl, rfl, rfl, rfl⟩
            · have g31 : ¬ (p < 64 ∨ p % 64 ≠ 0 ∨ q < 128 ∨ q % 64 ≠ 0) := by first | exact of_decide_eq_false h | (have h2 := h; simp at h2; omega) | simpa using h
              refine tlm ?_; refine tlm ?_; refine tv (o_gtr rfl rfl) ?_; refine tv (o_pick_f rfl (by conv => lhs; whnf)) ?_; refine tlm ?_; refine tl_bool (d := 36) rfl (fun h => ?_) (fun h => ?_)
              · have g36 : (p < 64 ∨ p % 64 ≠ 0 ∨ q < 128 ∨ q % 64 ≠ 0 ∨ (s.ls.length : Int) * 64 < p) := by first | exact of_decide_eq_true h | (have h2 := h; simp at h2; omega) | simpa using h
                refine tk ?_; refine tk ?_; refine tk ?_; refine tk ?_; refine tk ?_; refine tv (o_pick_t rfl (by conv => lhs; whnf)) ?_; refine tla ?_; refine tl_nil ?_; exact ⟨_, by first | exact (decide_eq_true (by omega)).symm | exact (decide_eq_false (by omega)).symm | (rw [decide_eq_decide]; omega), rfl, rfl, rfl, rfl, rfl⟩
              · have g36 : ¬ (p < 64 ∨ p % 64 ≠ 0 ∨ q < 128 ∨ q % 64 ≠ 0 ∨ (s.ls.length : Int) * 64 < p) := by first | exact of_decide_eq_false h | (have h2 := h; simp at h2; omega) | simpa using h
                refine tlm ?_; refine tlm ?_; refine tlm ?_; refine tv (o_subI rfl rfl (by omega)) ?_; refine tv (o_gtr rfl rfl) ?_; refine tv (o_pick_f rfl (by conv => lhs; whnf)) ?_; refine tla ?_; refine tl_nil ?_; exact ⟨_, by first | exact (decide_eq_true (by omega)).symm | exact (decide_eq_false (by omega)).symm | (rw [decide_eq_decide]; omega), rfl, rfl, rfl, rfl, rfl⟩
    · intro ρ B hI
      obtain ⟨bb, hbb0, hE14, hE0, hE1, hE2, rfl⟩ := hI
      refine q_then_n ?_; refine tc_env (d := 14) hE14 ?_; refine tc_env (d := 0) hE0 ?_; refine tc_env (d := 1) hE1 ?_; refine tc_env (d := 2) hE2 ?_
      clear hE14 hE0 hE1 hE2
      refine tc_cond rfl (fun h => ?_) (fun h => ?_)
      · exfalso; rw [h] at hbb0; have := of_decide_eq_true hbb0.symm; omega
      · try simp only [lv1, lv2, lv3, lv4, lv5, lv6, Bool.not_true, Bool.not_false] at h
        refine tc_skip ?_; refine q_block_n (q_then_n ?_); refine sr ?_; refine tlm ?_; refine tlm ?_; refine tlm ?_; refine tv (o_bS (l := [_, _, _]) (pv_cons (by conv => lhs; whnf) (pv_cons (by conv => lhs; whnf) (pv_cons (by conv => lhs; whnf) pv_nil))) Try.underlying52 z52 (pl52 Try.underlying52) rfl) ?_; refine tl_x rfl (o_box rfl rfl) ?_; rintro _ _ ⟨b47, rfl, rfl⟩; refine tla ?_; refine tla ?_; refine nq ?_; refine tc_ret ?_; exact ⟨_, _, res2 rfl rfl rfl, fun _ _ h => h, b47, rfl, rfl⟩
theorem Open_no {A R : SP} {C : SP → SP} {d : Nat} {s : DevS} (hc : Ct A (Dev d s) R C := by repeat (first | with_reducible exact ct_here | apply ct_left)) {p q : Int} (hp : -9223372036854775808 ≤ p ∧ p ≤ 9223372036854775807 := by omega) (hq : -9223372036854775808 ≤ q ∧ q ≤ 9223372036854775807 := by omega) (hno : ¬ (64 ≤ p ∧ p % 64 = 0 ∧ 128 ≤ q ∧ q % 64 = 0 ∧ p ≤ (s.ls.length : Int) * 64 ∧ q ≤ (s.ls.length : Int) * 64 - p) := by omega) :
    Fn Try.prog 16 #[.pointer (some ⟨d, 0, none⟩), .int .i64 p, .int .i64 q] (A) (fun r B => r = .tuple #[.pointer none, .int .i64 2] ∧ A = B) := by
  refine fn_enterW (args := [.pointer (some ⟨d, 0, none⟩), .int .i64 p, .int .i64 q]) Try.func16 rfl Try.ntmps16 (by simp) ?_; refine tc_have (fun _ _ h => ct_wf2 hc h) fun hw => ?_
  have htop := hw.top
  have hpos := hw.pos
  obtain ⟨rfl, hC⟩ := hc
  refine sr ?_; refine tla ?_; refine tla ?_; refine nq ?_; refine sr ?_; refine tlm ?_; refine tl_c rfl (o_call bd45 rfl (Size_c (s := s))) ?_; rintro _ _ ⟨rfl, rfl⟩; refine tla ?_; refine nq ?_; refine tc_seq ?_; refine tc_block ?_; refine sr ?_; refine tlm ?_; refine tv (o_eqi rfl rfl) ?_; refine tla ?_; refine nq ?_; refine tc_cond rfl (fun h => ?_) (fun h => ?_)
  · exfalso; first | omega | (simp at h; omega)
  · try simp only [lv1, lv2, lv3, lv4, lv5, lv6, Bool.not_true, Bool.not_false] at h
    refine tc_seq ?_; refine tc_cut (fun ρ BB => ∃ (bb : Bool), (bb = decide (¬ (64 ≤ p ∧ p % 64 = 0 ∧ 128 ≤ q ∧ q % 64 = 0 ∧ p ≤ (s.ls.length : Int) * 64 ∧ q ≤ (s.ls.length : Int) * 64 - p))) ∧ ρ 14 = .bool bb ∧ ρ 0 = .pointer (some ⟨d, 0, none⟩) ∧ ρ 1 = .int .i64 p ∧ ρ 2 = .int .i64 q ∧ BB = R * Dev d s) ?_ ?_
    · skip
      refine tc_reg ?_; refine tlm ?_; refine tv (o_lss rfl rfl) ?_; refine tlm ?_; refine tl_bool (d := 17) rfl (fun h => ?_) (fun h => ?_)
      · have g17 : (p < 64) := by first | exact of_decide_eq_true h | (have h2 := h; simp at h2; omega) | simpa using h
        refine tk ?_; refine tk ?_; refine tk ?_; refine tv (o_pick_t rfl (by conv => lhs; whnf)) ?_; refine tlm ?_; refine tk ?_; refine tk ?_; refine tv (o_pick_t rfl (by conv => lhs; whnf)) ?_; refine tlm ?_; refine tk ?_; refine tk ?_; refine tk ?_; refine tv (o_pick_t rfl (by conv => lhs; whnf)) ?_; refine tlm ?_; refine tk ?_; refine tk ?_; refine tk ?_; refine tv (o_pick_t rfl (by conv => lhs; whnf)) ?_; refine tlm ?_; refine tk ?_; refine tk ?_; refine tk ?_; refine tk ?_; refine tk ?_; refine tv (o_pick_t rfl (by conv => lhs; whnf)) ?_; refine tla ?_; refine tl_nil ?_; exact ⟨_, by first | exact (decide_eq_true (by omega)).symm | exact (decide_eq_false (by omega)).symm | (rw [decide_eq_decide]; omega), rfl, rfl, rfl, rfl, rfl⟩
      · have g17 : ¬ (p < 64) := by first | exact of_decide_eq_false h | (have h2 := h; simp at h2; omega) | simpa using h
        refine tlm ?_; refine tv (by first | exact o_remI rfl rfl (by omega) | exact o_rem rfl rfl (by omega)) ?_; refine tv (o_nei rfl rfl) ?_; refine tv (o_pick_f rfl (by conv => lhs; whnf)) ?_; refine tlm ?_; refine tl_bool (d := 22) rfl (fun h => ?_) (fun h => ?_)
        · have g22 : (p < 64 ∨ p % 64 ≠ 0) := by first | exact of_decide_eq_true h | (have h2 := h; simp at h2; omega) | simpa using h
          refine tk ?_; refine tk ?_; refine tv (o_pick_t rfl (by conv => lhs; whnf)) ?_; refine tlm ?_; refine tk ?_; refine tk ?_; refine tk ?_; refine tv (o_pick_t rfl (by conv => lhs; whnf)) ?_; refine tlm ?_; refine tk ?_; refine tk ?_; refine tk ?_; refine tv (o_pick_t rfl (by conv => lhs; whnf)) ?_; refine tlm ?_; refine tk ?_; refine tk ?_; refine tk ?_; refine tk ?_; refine tk ?_; refine tv (o_pick_t rfl (by conv => lhs; whnf)) ?_; refine tla ?_; refine tl_nil ?_; exact ⟨_, by first | exact (decide_eq_true (by omega)).symm | exact (decide_eq_false (by omega)).symm | (rw [decide_eq_decide]; omega), rfl, rfl, rfl, rfl, rfl⟩
        · have g22 : ¬ (p < 64 ∨ p % 64 ≠ 0) := by first | exact of_decide_eq_false h | (have h2 := h; simp at h2; omega) | simpa using h
          refine tlm ?_; refine tv (o_lss rfl rfl) ?_; refine tv (o_pick_f rfl (by conv => lhs; whnf)) ?_; refine tlm ?_; refine tl_bool (d := 26) rfl (fun h => ?_) (fun h => ?_)
          · have g26 : (p < 64 ∨ p % 64 ≠ 0 ∨ q < 128) := by first | exact of_decide_eq_true h | (have h2 := h; simp at h2; omega) | simpa using h
            refine tk ?_; refine tk ?_; refine tk ?_; refine tv (o_pick_t rfl (by conv => lhs; whnf)) ?_; refine tlm ?_; refine tk ?_; refine tk ?_; refine tk ?_; refine tv (o_pick_t rfl (by conv => lhs; whnf)) ?_; refine tlm ?_; refine tk ?_; refine tk ?_; refine tk ?_; refine tk ?_; refine tk ?_; refine tv (o_pick_t rfl (by conv => lhs; whnf)) ?_; refine tla ?_; refine tl_nil ?_; exact ⟨_, by first | exact (decide_eq_true (by omega)).symm | exact (decide_eq_false (by omega)).symm | (rw [decide_eq_decide]; omega), rfl, rfl, rfl, rfl, rfl⟩
          · have g26 : ¬ (p < 64 ∨ p % 64 ≠ 0 ∨ q < 128) := by first | exact of_decide_eq_false h | (have h2 := h; simp at h2; omega) | simpa using h
            refine tlm ?_; refine tv (by first | exact o_remI rfl rfl (by omega) | exact o_rem rfl rfl (by omega)) ?_; refine tv (o_nei rfl rfl) ?_; refine tv (o_pick_f rfl (by conv => lhs; whnf)) ?_; refine tlm ?_; refine tl_bool (d := 31) rfl (fun h => ?_) (fun h => ?_)
            · have g31 : (p < 64 ∨ p % 64 ≠ 0 ∨ q < 128 ∨ q % 64 ≠ 0) := by first | exact of_decide_eq_true h | (have h2 := h; simp at h2; omega) | simpa using h
              refine tk ?_; refine tk ?_; refine tk ?_; refine tv (o_pick_t rfl (by conv => lhs; whnf)) ?_; refine tlm ?_; refine tk ?_; refine tk ?_; refine tk ?_; refine tk ?_; refine tk ?_; refine tv (o_pick_t rfl (by conv => lhs; whnf)) ?_; refine tla ?_; refine tl_nil ?_; exact ⟨_, by first | exact (decide_eq_true (by omega)).symm | exact (decide_eq_false (by omega)).symm | (rw [decide_eq_decide]; omega), rfl, rfl, rfl, rfl, rfl⟩
            · have g31 : ¬ (p < 64 ∨ p % 64 ≠ 0 ∨ q < 128 ∨ q % 64 ≠ 0) := by first | exact of_decide_eq_false h | (have h2 := h; simp at h2; omega) | simpa using h
              refine tlm ?_; refine tlm ?_; refine tv (o_gtr rfl rfl) ?_; refine tv (o_pick_f rfl (by conv => lhs; whnf)) ?_; refine tlm ?_; refine tl_bool (d := 36) rfl (fun h => ?_) (fun h => ?_)
              · have g36 : (p < 64 ∨ p % 64 ≠ 0 ∨ q < 128 ∨ q % 64 ≠ 0 ∨ (s.ls.length : Int) * 64 < p) := by first | exact of_decide_eq_true h | (have h2 := h; simp at h2; omega) | simpa using h
                refine tk ?_; refine tk ?_; refine tk ?_; refine tk ?_; refine tk ?_; refine tv (o_pick_t rfl (by conv => lhs; whnf)) ?_; refine tla ?_; refine tl_nil ?_; exact ⟨_, by first | exact (decide_eq_true (by omega)).symm | exact (decide_eq_false (by omega)).symm | (rw [decide_eq_decide]; omega), rfl, rfl, rfl, rfl, rfl⟩
              · have g36 : ¬ (p < 64 ∨ p % 64 ≠ 0 ∨ q < 128 ∨ q % 64 ≠ 0 ∨ (s.ls.length : Int) * 64 < p) := by first | exact of_decide_eq_false h | (have h2 := h; simp at h2; omega) | simpa using h
                refine tlm ?_; refine tlm ?_; refine tlm ?_; refine tv (o_subI rfl rfl (by omega)) ?_; refine tv (o_gtr rfl rfl) ?_; refine tv (o_pick_f rfl (by conv => lhs; whnf)) ?_; refine tla ?_; refine tl_nil ?_; exact ⟨_, by first | exact (decide_eq_true (by omega)).symm | exact (decide_eq_false (by omega)).symm | (rw [decide_eq_decide]; omega), rfl, rfl, rfl, rfl, rfl⟩
    · intro ρ B hI
      obtain ⟨bb, hbb0, hE14, hE0, hE1, hE2, rfl⟩ := hI
      refine q_then_n ?_; refine tc_env (d := 14) hE14 ?_; refine tc_env (d := 0) hE0 ?_; refine tc_env (d := 1) hE1 ?_; refine tc_env (d := 2) hE2 ?_
      clear hE14 hE0 hE1 hE2
      refine tc_cond rfl (fun h => ?_) (fun h => ?_)
      · try simp only [lv1, lv2, lv3, lv4, lv5, lv6, Bool.not_true, Bool.not_false] at h
        refine sr ?_; refine tla ?_; refine tla ?_; refine nq ?_; refine tc_ret ?_; refine q_block_r (q_then_r ?_); exact ⟨_, _, res2 rfl rfl rfl, fun _ _ h => h, rfl, rfl⟩
      · exfalso; rw [h] at hbb0; have := of_decide_eq_false hbb0.symm; omega
theorem OpenZ_c {A : SP} {v : Value} {p q : Int} (h0 : NoD A v := by assumption) :
    Fn Try.prog 16 #[v, .int .i64 p, .int .i64 q] (A) (fun r B => r = .tuple #[.pointer none, .int .i64 1] ∧ A = B) := by
  refine fn_enterW (args := [v, .int .i64 p, .int .i64 q]) Try.func16 rfl Try.ntmps16 (by simp) ?_; refine sr ?_; refine tla ?_; refine tla ?_; refine nq ?_; refine sr ?_; refine tlm ?_; refine tl_c rfl (o_call bd45 rfl (SizeZ_c)) ?_; rintro _ _ ⟨rfl, rfl⟩; refine tla ?_; refine nq ?_; refine tc_seq ?_; refine tc_block ?_; refine sr ?_; refine tlm ?_; refine tv (o_eqi rfl rfl) ?_; refine tla ?_; refine nq ?_; refine tc_cond rfl (fun h => ?_) (fun h => ?_)
  · try simp only [lv1, lv2, lv3, lv4, lv5, lv6, Bool.not_true, Bool.not_false] at h
    refine sr ?_; refine tla ?_; refine tla ?_; refine nq ?_; refine tc_ret ?_; refine q_block_r (q_then_r ?_); exact ⟨_, _, res2 rfl rfl rfl, fun _ _ h => h, rfl, rfl⟩
  · (exfalso; first | (revert h; simp; done) | (simp at h; done) | (revert h; simp; omega) | (simp at h; omega) | omega)
theorem ready11_c {A R : SP} {C : SP → SP} {d : Nat} {s : DevS} (hc : Ct A (Dev d s) R C := by repeat (first | with_reducible exact ct_here | apply ct_left)) {bl at_ sz : Nat} (hl : Has R bl (cl (lcs11 d at_ sz) 52) := by (repeat (first | assumption | with_reducible exact has_here | with_reducible exact has_pt | apply has_left))) :
    Fn Try.prog 52 #[.pointer (some ⟨bl, 0, none⟩)] (A) (fun r B => r = .int .i64 (stE s) ∧ A = B) := by
  refine fn_enterW (args := [.pointer (some ⟨bl, 0, none⟩)]) Try.func52 rfl Try.ntmps52 (by simp) ?_
  obtain ⟨rfl, hC⟩ := hc
  refine sr ?_; refine tla ?_; refine nq ?_; refine tc_seq ?_; refine tc_block ?_; refine sr ?_; refine tlm ?_; refine tv (o_eqp Try.underlying37 rfl rfl) ?_; refine tlm ?_; refine tl_bool (d := 6) rfl (fun h => ?_) (fun h => ?_)
  · exfalso; simp at h
  · try simp only [lv1, lv2, lv3, lv4, lv5, lv6, Bool.not_true, Bool.not_false] at h
    refine tlm ?_; refine tv (o_nilCheck rfl) ?_; refine tv (o_fieldAddr (o := 0) Try.underlying52 rfl rfl sz31 rfl) ?_; refine tv (o_load p31 rfl (by repeat (first | assumption | apply has_left)) rfl) ?_; refine tv (o_eqp Try.underlying31 rfl rfl) ?_; refine tv (o_pick_f rfl (by conv => lhs; whnf)) ?_; refine tla ?_; refine nq ?_; refine tc_cond rfl (fun h => ?_) (fun h => ?_)
    · exfalso; simp at h
    · try simp only [lv1, lv2, lv3, lv4, lv5, lv6, Bool.not_true, Bool.not_false] at h
      refine sr ?_; refine tlm ?_; refine tv (o_nilCheck rfl) ?_; refine tv (o_fieldAddr (o := 0) Try.underlying52 rfl rfl sz31 rfl) ?_; refine tv (o_load p31 rfl (by repeat (first | assumption | apply has_left)) rfl) ?_; refine tl_c rfl (o_call bd32 rfl (Off_c (s := s))) ?_; rintro _ _ ⟨rfl, rfl⟩; refine tla ?_; refine nq ?_; refine tc_cond rfl (fun h => ?_) (fun h => ?_)
      · have ho : s.off = true := by first | exact h | simpa using h
        refine sr ?_; refine tla ?_; refine nq ?_; refine tc_ret ?_; refine q_block_r (q_then_r ?_); exact ⟨.int .i64 5, _, res1 rfl rfl, fun _ _ h => h, by unfold stE; rw [if_pos ho], rfl⟩
      · have ho : s.off = false := by first | exact h | simpa using h
        refine tc_skip ?_; refine q_block_n (q_then_n ?_); refine sr ?_; refine tla ?_; refine nq ?_; refine tc_ret ?_; exact ⟨.int .i64 0, _, res1 rfl rfl, fun _ _ h => h, by unfold stE; rw [if_neg (by rw [ho]; decide)], rfl⟩
end Go.Vl

set_option linter.unusedVariables false
set_option linter.unusedSimpArgs false
namespace Go.Vl
open Go Go.Proofs
def xcl (l : List (Int × Int)) : List Value := l.flatMap xcs
theorem xcl_len (l : List (Int × Int)) : (xcl l).length = l.length * 2 := fm_length (f := xcs) fun _ _ => rfl
theorem xcl_at {l : List (Int × Int)} {j : Nat} (h : j < l.length) : ((xcl l).drop (j * 2)).take 2 = xcs l[j] := fm_at (f := xcs) (fun _ _ => rfl) h
theorem lensX_succ {l : List (Int × Int)} {i : Nat} (h : i < l.length) : lensX (l.take (i + 1)) = lensX (l.take i) ++ [l[i].2] := by
  rw [List.take_succ_eq_append_getElem h]; unfold lensX; rw [List.map_append]; rfl
theorem lensX_len (l : List (Int × Int)) : (lensX l).length = l.length := by unfold lensX; rw [List.length_map]
theorem may_nat {n at_ sz : Nat} {x : Int × Int} (h : mayX n at_ sz x = true) : ∃ p m : Nat, x = ((p : Int), (m : Int)) ∧ 64 ≤ p ∧ 1 ≤ m ∧ p + m ≤ n ∧ (p + m ≤ at_ ∨ at_ + sz ≤ p) := by
  have h1 := of_decide_eq_true h
  obtain ⟨p, hp⟩ := Int.eq_ofNat_of_zero_le (show 0 ≤ x.1 by omega)
  obtain ⟨m, hm⟩ := Int.eq_ofNat_of_zero_le (show 0 ≤ x.2 by omega)
  exact ⟨p, m, by cases x; simp only at hp hm; rw [hp, hm], by omega, by omega, by omega, by omega⟩
theorem word_in {p : Nat} {s : DevS} (ho : s.off = false) (hp : p % 8 = 0) (hi : p + 8 ≤ s.ls.length * 64) : wordP (p : Nat) s = (nm (((imgS s).drop p).take 8), 0) := by
  unfold wordP loadP
  rw [if_neg (by rw [ho]; decide), if_neg (by omega), ho, if_neg (by rw [rdy_ok (by omega) (by omega) (by omega)]; decide), Int.toNat_natCast]
theorem nm8_lt {l : List Nat} (h : ∀ x ∈ l, x < 256) : nm (l.take 8) < 18446744073709551616 := by
  have h1 := nm_lt (l.take 8) fun x hx => h x (List.mem_of_mem_take hx)
  exact Nat.lt_of_lt_of_le h1 (by calc 256 ^ (l.take 8).length ≤ 256 ^ 8 := Nat.pow_le_pow_right (by decide) (List.length_take_le _ _)
    _ = 18446744073709551616 := by decide)
theorem putF_e {q p m : Nat} {l : List (Int × Int)} {s s2 : DevS} {e : Int} (h : sto (q : Nat) (recS p (((imgS s).drop p).take m)) s = (e, s2)) (he : e ≠ 0) : putF q (((p : Int), (m : Int)) :: l) s = (e, s2) := by
  show (if (sto (q : Nat) (recS p (((imgS s).drop p).take m)) s).1 ≠ 0 then sto (q : Nat) (recS p (((imgS s).drop p).take m)) s else _) = _
  rw [h, if_pos he]
theorem putF_o {q p m : Nat} {l : List (Int × Int)} {s s2 : DevS} (h : sto (q : Nat) (recS p (((imgS s).drop p).take m)) s = (0, s2)) : putF q (((p : Int), (m : Int)) :: l) s = putF (q + (24 + up8 m)) l s2 := by
  show (if (sto (q : Nat) (recS p (((imgS s).drop p).take m)) s).1 ≠ 0 then _ else putF (q + (24 + up8 m)) l (sto (q : Nat) (recS p (((imgS s).drop p).take m)) s).2) = _
  rw [h, if_neg (by simp)]
theorem needN_ge : ∀ (l : List (Int × Int)), l.length ≤ needN l
  | [] => Nat.zero_le _
  | x :: l => by have := needN_ge l; rw [needN_cons, List.length_cons]; omega
theorem all_drop {α : Type} {p : α → Bool} {l : List α} (h : l.all p = true) {i : Nat} (hi : i < l.length) : p l[i] = true := List.all_eq_true.1 h _ (List.getElem_mem hi)
theorem all_take {α : Type} {p : α → Bool} {l : List α} {i : Nat} (hi : i < l.length) (h : (l.take i).all p = true) (hp : p l[i] = true) : (l.take (i + 1)).all p = true := by
  rw [List.take_succ_eq_append_getElem hi, List.all_append, h]; simp [hp]
theorem all_not {α : Type} {p : α → Bool} {l : List α} {i : Nat} (hi : i < l.length) (hp : p l[i] = false) : l.all p = false := by
  rw [List.all_eq_false]; exact ⟨_, List.getElem_mem hi, by rw [hp]; decide⟩
attribute [local irreducible] crk crL crc Sl pt ro Dev imgS recS
set_option maxRecDepth 20000 in
set_option maxHeartbeats 2000000 in
theorem Write_c {A R : SP} {C : SP → SP} {d : Nat} {s : DevS} (hc : Ct A (Dev d s) R C := by repeat (first | with_reducible exact ct_here | apply ct_left)) {bl at_ sz : Nat} (hl : Has R bl (cl (lcs11 d at_ sz) 52) := by (repeat (first | assumption | with_reducible exact has_here | with_reducible exact has_pt | apply has_left))) (hlw : LogW (s.ls.length * 64) at_ sz := by assumption) {a : Option Addr} {c m : Nat} {xs : List (Int × Int)} (hr : Rs R a (xcl xs) := by repeat (first | assumption | with_reducible exact rs_sl | with_reducible exact rs_pt0 | exact rs_none | apply Rs.left)) (hm : xs.length = m := by first | assumption | rfl) (hX : ∀ x ∈ xs, XW x := by assumption) (hml : m ≤ 17592186044416 := by omega) (hroom : Room (sz + 1) s := by assumption) :
    Fn Try.prog 24 #[.pointer (some ⟨bl, 0, none⟩), .slice a m c] (A) (fun r B => ∃ e s2, writeS at_ sz xs s = (e, s2) ∧ r = .int .i64 e ∧ B = C (Dev d s2)) := by
  refine fn_enterW (args := [.pointer (some ⟨bl, 0, none⟩), .slice a m c]) Try.func24 rfl Try.ntmps24 (by simp) ?_; refine tc_have (fun _ _ h => ct_wf2 hc h) fun hw => ?_
  have htop := hw.top
  have hpos := hw.pos
  obtain ⟨rfl, hC⟩ := hc
  have hAC : ∀ g w, sat g w (R * Dev d s) → sat g w (C (Dev d s)) := fun g w h => by rw [hC]; exact h
  have hlw9 := hlw
  obtain ⟨w1, w2, w3, w4, w5⟩ := hlw9
  refine sr ?_; refine tla ?_; refine nq ?_; refine tc_seq ?_; refine sr ?_; refine tlm ?_; refine tl_c rfl (o_call bd52 rfl (ready11_c (s := s) (hl := hl))) ?_; rintro _ _ ⟨rfl, rfl⟩; refine tla ?_; refine nq ?_; refine sr ?_; refine tlm ?_; refine tv (o_nei rfl rfl) ?_; refine nq ?_; refine tc_cond rfl (fun h => ?_) (fun h => ?_)
  · try simp only [lv1, lv2, lv3, lv4, lv5, lv6, Bool.not_true, Bool.not_false] at h
    refine sr ?_; refine tlm ?_; refine tla ?_; refine nq ?_; refine tc_ret ?_; refine q_then_r ?_
    have ho := stE_off h
    exact ⟨.int .i64 (stE s), C (Dev d s), res1 rfl rfl, fun _ _ h => by rw [hC]; exact (Dr.sat (A' := R * Dev d s) (by repeat (first | with_reducible exact dr_refl | apply dr_keep | apply dr_drop))) _ _ h, stE s, s, by unfold writeS stE; rw [if_pos ho, if_pos ho], rfl, rfl⟩
  · have ho : s.off = false := stE_on (by simpa using h)
    have hw2 := word_in (p := at_) ho (by omega) (by omega)
    obtain ⟨v, hv⟩ : ∃ v, (wordP (at_ : Nat) s).1 = v := ⟨_, rfl⟩
    have hvl : v < 18446744073709551616 := by rw [← hv, hw2]; exact nm8_lt fun x hx => img_lt x (List.mem_of_mem_drop hx)
    refine tc_skip ?_; refine q_then_n ?_; refine tc_seq ?_; refine tc_seq ?_; refine tc_regq mo (by kernel_rfl) ?_; refine ql_v rfl (o_move (by conv => lhs; whnf)) ?_; refine ql_v rfl (o_nilCheck rfl) ?_; refine ql_v rfl (o_fieldAddr (o := 0) Try.underlying52 rfl rfl sz31 rfl) ?_; refine ql_v rfl (o_load p31 rfl (by repeat (first | assumption | apply has_left)) rfl) ?_; refine ql_v rfl (o_move (by conv => lhs; whnf)) ?_; refine ql_v rfl (o_nilCheck rfl) ?_; refine ql_v rfl (o_fieldAddr (o := 1) Try.underlying52 rfl rfl sz3 rfl) ?_; refine ql_v rfl (o_load p3 rfl (by repeat (first | assumption | apply has_left)) rfl) ?_; refine ql_c rfl (fun w => exec_call bd53 rfl) (Word_c (s := s) (p := (at_ : Nat))) ?_; refine ql_v rfl (o_move (by conv => lhs; whnf)) ?_; refine ql_v rfl (o_extract rfl rfl) ?_; refine ql_env (d := 36) (v := .int .u64 (v : Nat)) (by show Value.int .u64 ((wordP (at_ : Nat) s).1 : Nat) = _; rw [hv]) ?_; refine ql_v rfl (o_extract rfl rfl) ?_; refine ql_env (d := 37) (v := .int .i64 0) (by show Value.int .i64 (wordP (at_ : Nat) s).2 = _; rw [hw2]) ?_; refine ql_v rfl (o_assign (by conv => lhs; whnf)) ?_; refine ql_v rfl (o_assign (by conv => lhs; whnf)) ?_; refine ql_nil ?_; refine q_then_n ?_; refine sr ?_; refine tlm ?_; refine tv (o_nei rfl rfl) ?_; refine tlm ?_; refine tl_bool (d := 40) rfl (fun h => ?_) (fun h => ?_)
    · exfalso; simp at h
    · try simp only [lv1, lv2, lv3, lv4, lv5, lv6, Bool.not_true, Bool.not_false] at h
      refine tlm ?_; refine tv (o_nei rfl rfl) ?_; refine tv (o_pick_f rfl (by conv => lhs; whnf)) ?_; refine nq ?_; refine tc_cond rfl (fun h => ?_) (fun h => ?_)
      · have hv0 : v ≠ 0 := by first | (have h9 := of_decide_eq_true h; omega) | (simp at h; omega)
        refine sr ?_; refine tla ?_; refine nq ?_; refine tc_ret ?_; refine q_then_r ?_; exact ⟨.int .i64 (3), C (Dev d s), res1 rfl rfl, fun _ _ h => by rw [hC]; exact (Dr.sat (A' := R * Dev d s) (by repeat (first | with_reducible exact dr_refl | apply dr_keep | apply dr_drop))) _ _ h, 3, s, by unfold writeS; rw [if_neg (by rw [ho]; decide), if_pos (by rw [hv]; exact hv0)], rfl, rfl⟩
      · have hv0 : ¬ v ≠ 0 := by first | (have h9 := of_decide_eq_false h; omega) | (simp at h; omega)
        refine tc_skip ?_; refine q_then_n ?_; refine sr ?_; refine tla ?_; refine nq ?_; refine tc_seq ?_; refine sr ?_; refine tlm ?_; refine tv (o_len Try.underlying53 rfl) ?_; refine tlm ?_; refine nq ?_; refine tc_block ?_; refine tc_pre (A' := R * Dev d s * Sl 1 (.slice none 0 0) 0 (ints (lensX (xs.take 0)))) (fun _ _ h => sl_nil h) ?_; refine tc_loop (fun kk ρ BB => ∃ (i : Nat) (a8 : Option Addr) (c8 : Nat), (i ≤ m) ∧ ((xs.take i).all (mayX (s.ls.length * 64) at_ sz) = true) ∧ (i ≤ c8) ∧ kk = m - i ∧ ρ 8 = .slice a8 i c8 ∧ ρ 46 = .int .i64 (i : Nat) ∧ ρ 0 = .pointer (some ⟨bl, 0, none⟩) ∧ ρ 1 = .slice a m c ∧ ρ 44 = .slice a m c ∧ ρ 45 = .int .i64 (m : Nat) ∧ Dr BB (R * Dev d s * Sl 1 (.slice a8 i c8) i (ints (lensX (xs.take i))))) (m := m - (0)) ?_ ?_
        · exact ⟨0, none, 0, by omega, rfl, by omega, rfl, rfl, rfl, rfl, rfl, rfl, rfl, (by repeat (first | with_reducible exact dr_refl | apply dr_keep | apply dr_drop))⟩
        · intro k ρ B hI
          obtain ⟨i, a8, c8, hp0, hp1, hp2, hkk1, hE8, hE46, hE0, hE1, hE44, hE45, hBA⟩ := hI
          refine tc_pre hBA.sat ?_
          clear hBA
          refine tc_env (d := 8) hE8 ?_; refine tc_env (d := 46) hE46 ?_; refine tc_env (d := 0) hE0 ?_; refine tc_env (d := 1) hE1 ?_; refine tc_env (d := 44) hE44 ?_; refine tc_env (d := 45) hE45 ?_
          clear hE8 hE46 hE0 hE1 hE44 hE45
          refine sr ?_; refine tv (o_lss rfl rfl) ?_; refine nq ?_; refine tc_seq ?_; refine tc_cond rfl (fun h => ?_) (fun h => ?_)
          · have hi : i < xs.length := by first | omega | (simp at h; omega)
            obtain ⟨x, hx1⟩ : ∃ x, xs[i] = x := ⟨_, rfl⟩
            have hxw : XW x := hX x (hx1 ▸ List.getElem_mem hi)
            refine tc_skip ?_; refine q_then_n ?_; refine tc_seq ?_; refine tc_block ?_; refine sr ?_; refine tv (o_ixP (a := a) Try.underlying53 sz74 rfl rfl (by omega) (nn_rs (by repeat (first | with_reducible exact rs_sl | assumption | apply Rs.left)) (fun _ => by rw [xcl_len]; omega))) ?_; refine tv (o_ldPN (a := a) (xs := xcl xs) (vs := xcs x) a74 sz74 rfl (by repeat (first | with_reducible exact rs_sl | assumption | apply Rs.left)) (by rw [xcl_at (by omega), hx1]) rfl (by decide)) ?_; refine tl_x rfl (o_alloc z74 rfl) ?_; rintro _ _ ⟨b10, rfl, rfl⟩; refine tl_u rfl (o_stUN (l' := xcs x) rfl (by repeat (first | with_reducible exact upd_here | with_reducible exact upd_pt | apply upd_left)) sz74 rfl rfl rfl (by show 2 ≤ 2; decide) rfl) ?_; refine nq ?_; refine tc_seq ?_; refine sr ?_; refine tlm ?_; refine tv (o_loadN (vs := xcs x) a74 sz74 rfl (by repeat (first | with_reducible exact has_here | with_reducible exact has_pt | apply has_left)) (by show 2 ≤ 2; decide) rfl) ?_; refine tl_c rfl (o_call bd54 rfl (may11_c (s := s) (x := x) (hl := has_left (has_left (has_left hl))))) ?_; rintro _ _ ⟨rfl, rfl⟩; refine tv (o_not rfl) ?_; refine nq ?_; refine tc_cond rfl (fun h => ?_) (fun h => ?_)
            · have hmy : mayX (s.ls.length * 64) at_ sz x = false := by simpa using h
              refine sr ?_; refine tla ?_; refine nq ?_; refine tc_ret ?_; refine q_then_r (q_block_r (q_then_r (q_then_r (q_block_r (q_then_r ?_))))); exact ⟨.int .i64 (6), C (Dev d s), res1 rfl rfl, fun _ _ h => by rw [hC]; exact (Dr.sat (A' := R * Dev d s) (by repeat (first | with_reducible exact dr_refl | apply dr_keep | apply dr_drop))) _ _ h, 6, s, by unfold writeS; rw [if_neg (by rw [ho]; decide), if_neg (by rw [hv]; exact hv0), if_pos (all_not hi (by rw [hx1]; exact hmy))], rfl, rfl⟩
            · have hmy : mayX (s.ls.length * 64) at_ sz x = true := by simpa using h
              refine tc_skip ?_; refine q_then_n ?_; refine tc_reg ?_; refine tlm ?_; refine tv (o_fieldAddr (o := 1) Try.underlying74 rfl rfl sz3 rfl) ?_; refine tv (by first | exact o_load p3 rfl (by repeat (first | with_reducible exact has_here | with_reducible exact has_pt | apply has_left)) rfl | exact o_loadC p3 rfl (by assumption)) ?_; refine tl_x rfl (o_buildSlice1 Try.underlying22 sz3 z3 (by conv => lhs; whnf) rfl) ?_; rintro _ _ ⟨b57, rfl, rfl⟩; refine tl_x rfl (o_apB Try.underlying22 Try.underlying22 sz3 by3 z3 rfl (by decide) (by decide) rfl rfl rfl (by repeat (first | with_reducible exact ct_here | apply ct_left)) rfl (by first | exact bys_all _ | exact ints_all _ | exact wds_all _ | exact bos_all _ | rfl) (by first | omega | (simp only [bys_length, ints_length, wds_length, bos_length, List.length_append, List.length_take, List.length_drop, List.length_singleton]; omega)) (by first | exact bys_sn _ _ | exact ints_sn _ _ | exact wds_sn _ _ | exact bos_sn _ _ | exact (bys_append _ _).symm | rfl)) ?_; rintro _ _ ⟨a58, c58, rfl, hc58, rfl⟩; refine tla ?_; refine tl_nil ?_; refine q_block_n (q_then_n ?_); refine tc_reg ?_; refine tv (by first | exact o_addI rfl rfl (by omega) | exact o_add rfl rfl) ?_; refine tlm ?_; refine nq ?_
              exact ⟨_, by omega, i + 1, _, _, by omega, all_take hi hp1 (by rw [hx1]; exact hmy), hc58, rfl, rfl, rfl, rfl, rfl, rfl, rfl, by rw [lensX_succ hi, hx1]; repeat (first | with_reducible exact dr_refl | apply dr_keep | apply dr_drop)⟩
          · obtain rfl : i = m := by first | omega | (simp at h; omega)
            have htk : xs.take i = xs := List.take_of_length_le (by omega)
            rw [htk] at hp1
            refine tc_pre (A' := R * Dev d s * Sl 1 (.slice a8 i c8) i (ints (lensX xs))) (fun _ _ h => by rw [htk] at h; exact h) ?_
            obtain ⟨nd, en, hnd⟩ : ∃ nd en, needS (lensX xs) = (nd, en) := ⟨_, _, rfl⟩
            have hxl : ∀ x ∈ lensX xs, -9223372036854775808 ≤ x ∧ x ≤ 9223372036854775807 := fun x hx => by obtain ⟨y, hy, rfl⟩ := List.mem_map.1 hx; exact (hX y hy).l
            have hx1 : ∀ x ∈ xs, 1 ≤ x.2 := fun x hx => by obtain ⟨p, n, rfl, _, hn, _⟩ := may_nat (List.all_eq_true.1 hp1 x hx); show (1 : Int) ≤ (n : Int); omega
            have hnd2 : en = 0 → nd = (needN xs : Nat) := fun h9 => by have := needF_ok hx1 hnd h9; omega
            refine tc_exit ?_; refine q_then_e (q_then_e (q_block_x (q_then_n ?_))); refine sr ?_; refine tlm ?_; refine tl_c rfl (o_call bd10 rfl (Need_c (xs := lensX xs) (hr := rs_sl) (hm := (lensX_len xs).trans hm) (hx := hxl))) ?_; rintro _ _ ⟨rfl, rfl⟩; refine tlm ?_; refine tv (o_extract rfl rfl) ?_; refine tl_env (d := 63) (v := .int .i64 nd) (by show Value.int .i64 (needS (lensX xs)).1 = _; rw [hnd]) ?_; refine tv (o_extract rfl rfl) ?_; refine tl_env (d := 64) (v := .int .i64 en) (by show Value.int .i64 (needS (lensX xs)).2 = _; rw [hnd]) ?_; refine tla ?_; refine tla ?_; refine nq ?_; refine tc_seq ?_; refine tc_seq ?_; refine tc_cut (fun ρ BB => ∃ (bb : Bool), (bb = decide (en ≠ 0 ∨ ((sz - 64 : Nat) : Int) < nd)) ∧ ρ 75 = .bool bb ∧ ρ 0 = .pointer (some ⟨bl, 0, none⟩) ∧ ρ 1 = .slice a i c ∧ ρ 11 = .int .i64 nd ∧ Dr BB (R * Dev d s)) ?_ ?_
            · skip
              refine tc_reg ?_; refine tlm ?_; refine tv (o_nei rfl rfl) ?_; refine tlm ?_; refine tl_bool (d := 67) rfl (fun h => ?_) (fun h => ?_)
              · have g67 : (en ≠ 0) := by first | exact of_decide_eq_true h | (have h2 := h; simp at h2; omega) | simpa using h
                refine tk ?_; refine tk ?_; refine tk ?_; refine tk ?_; refine tk ?_; refine tk ?_; refine tk ?_; refine tv (o_pick_t rfl (by conv => lhs; whnf)) ?_; refine tl_nil ?_; exact ⟨_, by first | exact (decide_eq_true (by omega)).symm | exact (decide_eq_false (by omega)).symm | (rw [decide_eq_decide]; omega), rfl, rfl, rfl, rfl, (by repeat (first | with_reducible exact dr_refl | apply dr_keep | apply dr_drop))⟩
              · have g67 : ¬ (en ≠ 0) := by first | exact of_decide_eq_false h | (have h2 := h; simp at h2; omega) | simpa using h
                refine tlm ?_; refine tlm ?_; refine tv (o_nilCheck rfl) ?_; refine tv (o_fieldAddr (o := 2) Try.underlying52 rfl rfl sz3 rfl) ?_; refine tv (o_load p3 rfl (by repeat (first | assumption | apply has_left)) rfl) ?_; refine tv (o_subI rfl rfl (by omega)) ?_; refine tl_env (d := 73) (v := .int .i64 ((sz - 64 : Nat) : Int)) (by show Value.int .i64 ((sz : Int) - 64) = _; congr 1; omega) ?_; refine tv (o_gtr rfl rfl) ?_; refine tv (o_pick_f rfl (by conv => lhs; whnf)) ?_; refine tl_nil ?_; exact ⟨_, by first | exact (decide_eq_true (by omega)).symm | exact (decide_eq_false (by omega)).symm | (rw [decide_eq_decide]; omega), rfl, rfl, rfl, rfl, (by repeat (first | with_reducible exact dr_refl | apply dr_keep | apply dr_drop))⟩
            · intro ρ B hI
              obtain ⟨bb, hbb0, hE75, hE0, hE1, hE11, hBA⟩ := hI
              refine q_then_n ?_; refine tc_pre hBA.sat ?_
              clear hBA
              refine tc_env (d := 75) hE75 ?_; refine tc_env (d := 0) hE0 ?_; refine tc_env (d := 1) hE1 ?_; refine tc_env (d := 11) hE11 ?_
              clear hE75 hE0 hE1 hE11
              refine tc_cond rfl (fun h => ?_) (fun h => ?_)
              · have hful := of_decide_eq_true (show decide (en ≠ 0 ∨ ((sz - 64 : Nat) : Int) < nd) = true by rw [← hbb0]; exact h)
                refine sr ?_; refine tla ?_; refine nq ?_; refine tc_ret ?_; refine q_then_r ?_; exact ⟨.int .i64 (111), C (Dev d s), res1 rfl rfl, fun _ _ h => by rw [hC]; exact (Dr.sat (A' := R * Dev d s) (by repeat (first | with_reducible exact dr_refl | apply dr_keep | apply dr_drop))) _ _ h, 111, s, by unfold writeS; rw [if_neg (by rw [ho]; decide), if_neg (by rw [hv]; exact hv0), if_neg (by rw [hp1]; decide), hnd, if_pos hful], rfl, rfl⟩
              · have hful := of_decide_eq_false (show decide (en ≠ 0 ∨ ((sz - 64 : Nat) : Int) < nd) = false by rw [← hbb0]; exact h)
                obtain rfl : en = 0 := by omega
                obtain rfl := hnd2 rfl
                have hN : needN xs ≤ sz - 64 := by omega
                refine tc_skip ?_; refine q_then_n ?_; refine tc_seq ?_; refine sr ?_; refine tlm ?_; refine tv (o_eqi rfl rfl) ?_; refine nq ?_; refine tc_cond rfl (fun h => ?_) (fun h => ?_)
                · have hx0 : xs = [] := by have h9 := needN_ge xs; have h8 : needN xs = 0 := (by first | (have := of_decide_eq_true h; omega) | (simp at h; omega)); exact List.eq_nil_of_length_eq_zero (by omega)
                  refine sr ?_; refine tla ?_; refine nq ?_; refine tc_ret ?_; refine q_then_r ?_; exact ⟨.int .i64 (0), C (Dev d s), res1 rfl rfl, fun _ _ h => by rw [hC]; exact (Dr.sat (A' := R * Dev d s) (by repeat (first | with_reducible exact dr_refl | apply dr_keep | apply dr_drop))) _ _ h, 0, s, by unfold writeS; rw [if_neg (by rw [ho]; decide), if_neg (by rw [hv]; exact hv0), if_neg (by rw [hp1]; decide), hnd, if_neg hful, if_pos hx0], rfl, rfl⟩
                · have hx0 : xs ≠ [] := fun e => by subst e; first | exact of_decide_eq_false h rfl | exact h rfl | (simp [needN] at h)
                  have hxl0 : 0 < xs.length := List.length_pos_iff.2 hx0
                  have hN1 := needN_ge xs
                  refine tc_skip ?_; refine q_then_n ?_; refine sr ?_; refine tlm ?_; refine tv (o_nilCheck rfl) ?_; refine tv (o_fieldAddr (o := 1) Try.underlying52 rfl rfl sz3 rfl) ?_; refine tv (o_load p3 rfl (by repeat (first | assumption | apply has_left)) rfl) ?_; refine tv (by first | exact o_addI rfl rfl (by omega) | exact o_add rfl rfl) ?_; refine tl_env (d := 82) (v := .int .i64 ((at_ + 64 : Nat) : Int)) (by first | rfl | (show Value.int .i64 _ = _; congr 1; omega)) ?_; refine tla ?_; refine nq ?_; refine tc_seq ?_; refine sr ?_; refine tlm ?_; refine tv (o_len Try.underlying53 rfl) ?_; refine tlm ?_; refine nq ?_; refine tc_block ?_; refine tc_loop (fun kk ρ BB => ∃ (j : Nat) (q : Nat) (s1 : DevS), (j ≤ i) ∧ (putF (at_ + 64) xs s = putF q (xs.drop j) s1) ∧ (s1.off = false) ∧ (s1.ls.length = s.ls.length) ∧ (q + needN (xs.drop j) = at_ + 64 + needN xs) ∧ (Room (needN (xs.drop j) + 1) s1) ∧ kk = i - j ∧ ρ 13 = .int .i64 (q : Nat) ∧ ρ 85 = .int .i64 (j : Nat) ∧ ρ 0 = .pointer (some ⟨bl, 0, none⟩) ∧ ρ 1 = .slice a i c ∧ ρ 11 = .int .i64 (needN xs : Nat) ∧ ρ 83 = .slice a i c ∧ ρ 84 = .int .i64 (i : Nat) ∧ Dr BB (R * Dev d s1)) (m := i - (0)) ?_ ?_
                  · exact ⟨0, at_ + 64, s, by omega, rfl, ho, rfl, by rw [List.drop_zero], fun l hl => by have := hroom l hl; rw [List.drop_zero]; omega, rfl, rfl, rfl, rfl, rfl, rfl, rfl, rfl, (by repeat (first | with_reducible exact dr_refl | apply dr_keep | apply dr_drop))⟩
                  · intro k ρ B hI
                    obtain ⟨j, q, s1, hq0, hq1, hq2, hq3, hq4, hq5, hkk2, hE13, hE85, hE0, hE1, hE11, hE83, hE84, hBA⟩ := hI
                    refine tc_pre hBA.sat ?_
                    clear hBA
                    refine tc_env (d := 13) hE13 ?_; refine tc_env (d := 85) hE85 ?_; refine tc_env (d := 0) hE0 ?_; refine tc_env (d := 1) hE1 ?_; refine tc_env (d := 11) hE11 ?_; refine tc_env (d := 83) hE83 ?_; refine tc_env (d := 84) hE84 ?_
                    clear hE13 hE85 hE0 hE1 hE11 hE83 hE84
                    refine sr ?_; refine tv (o_lss rfl rfl) ?_; refine nq ?_; refine tc_seq ?_; refine tc_cond rfl (fun h => ?_) (fun h => ?_)
                    · have hj : j < xs.length := by first | omega | (simp at h; omega)
                      obtain ⟨x, hx1⟩ : ∃ x, xs[j] = x := ⟨_, rfl⟩
                      have hmx := all_drop hp1 hj
                      have hdr := List.drop_eq_getElem_cons hj
                      rw [hx1] at hmx hdr
                      obtain ⟨p, n, rfl, y1, y2, y3, y4⟩ := may_nat hmx
                      rw [hdr, needN_cons] at hq4 hq5
                      simp only [Int.toNat_natCast] at hq4 hq5
                      refine tc_have (fun _ _ h => ct_wf2 (by repeat (first | with_reducible exact ct_here | apply ct_left)) h) fun hw1 => ?_
                      have hil := imgS_len hw1
                      have hol : (((imgS s1).drop p).take n).length = n := by rw [List.length_take, List.length_drop, hil, hq3]; omega
                      have hrl : (recS p (((imgS s1).drop p).take n)).length = 24 + up8 n := by rw [recS_len, hol]
                      have hrb : ∀ x ∈ recS p (((imgS s1).drop p).take n), x < 256 := recS_b img_sub
                      have hu8 := up8_le n
                      refine tc_skip ?_; refine q_then_n ?_; refine tc_seq ?_; refine tc_block ?_; refine sr ?_; refine tv (o_ixP (a := a) Try.underlying53 sz74 rfl rfl (by omega) (nn_rs (by repeat (first | with_reducible exact rs_sl | assumption | apply Rs.left)) (fun _ => by rw [xcl_len]; omega))) ?_; refine tv (o_ldPN (a := a) (xs := xcl xs) (vs := xcs ((p : Int), (n : Int))) a74 sz74 rfl (by repeat (first | with_reducible exact rs_sl | assumption | apply Rs.left)) (by rw [xcl_at (by omega), hx1]) rfl (by decide)) ?_; refine tl_x rfl (o_alloc z74 rfl) ?_; rintro _ _ ⟨b15, rfl, rfl⟩; refine tl_u rfl (o_stUN (l' := xcs ((p : Int), (n : Int))) rfl (by repeat (first | with_reducible exact upd_here | with_reducible exact upd_pt | apply upd_left)) sz74 rfl rfl rfl (by show 2 ≤ 2; decide) rfl) ?_; refine nq ?_; refine tc_seq ?_; refine tc_regh (S := R * pt b15 (cl (xcs ((p : Int), (n : Int))) 74)) mo (by repeat (first | with_reducible exact dr_refl | apply dr_keep | apply dr_drop)) ?_
                      show TH _ _ _ _ _ 14 #[ff,ff,ff,ff,ff,ff,ff,ff,ff,ff,ff,ff,ff,ff] _ _
                      refine th_take (i := 0) (listed' := #[tt,ff,ff,ff,ff,ff,ff,ff,ff,ff,ff,ff,ff,ff]) rfl (by kernel_rfl) (by kernel_rfl) (by kernel_rfl) rfl rfl (o_move (by conv => lhs; whnf)) ?_; refine th_take (i := 1) (listed' := #[tt,tt,ff,ff,ff,ff,ff,ff,ff,ff,ff,ff,ff,ff]) rfl (by kernel_rfl) (by kernel_rfl) (by kernel_rfl) rfl rfl (o_nilCheck rfl) ?_; refine th_take (i := 2) (listed' := #[tt,tt,tt,ff,ff,ff,ff,ff,ff,ff,ff,ff,ff,ff]) rfl (by kernel_rfl) (by kernel_rfl) (by kernel_rfl) rfl rfl (o_fieldAddr (o := 0) Try.underlying52 rfl rfl sz31 rfl) ?_; refine th_take (i := 3) (listed' := #[tt,tt,tt,tt,ff,ff,ff,ff,ff,ff,ff,ff,ff,ff]) rfl (by kernel_rfl) (by kernel_rfl) (by kernel_rfl) rfl rfl (o_load p31 rfl (by repeat (first | assumption | apply has_left)) rfl) ?_; refine th_take (i := 4) (listed' := #[tt,tt,tt,tt,tt,ff,ff,ff,ff,ff,ff,ff,ff,ff]) rfl (by kernel_rfl) (by kernel_rfl) (by kernel_rfl) rfl rfl (o_fieldAddr (o := 0) Try.underlying74 rfl rfl sz3 rfl) ?_; refine th_take (i := 5) (listed' := #[tt,tt,tt,tt,tt,tt,ff,ff,ff,ff,ff,ff,ff,ff]) rfl (by kernel_rfl) (by kernel_rfl) (by kernel_rfl) rfl rfl (by first | exact o_load p3 rfl (by repeat (first | with_reducible exact has_here | with_reducible exact has_pt | apply has_left)) rfl | exact o_loadC p3 rfl (by assumption)) ?_; refine th_take (i := 6) (listed' := #[tt,tt,tt,tt,tt,tt,tt,ff,ff,ff,ff,ff,ff,ff]) rfl (by kernel_rfl) (by kernel_rfl) (by kernel_rfl) rfl rfl (o_fieldAddr (o := 1) Try.underlying74 rfl rfl sz3 rfl) ?_
                      refine th_take (i := 7) (listed' := #[tt,tt,tt,tt,tt,tt,tt,tt,ff,ff,ff,ff,ff,ff]) rfl (by kernel_rfl) (by kernel_rfl) (by kernel_rfl) rfl rfl (by first | exact o_load p3 rfl (by repeat (first | with_reducible exact has_here | with_reducible exact has_pt | apply has_left)) rfl | exact o_loadC p3 rfl (by assumption)) ?_; refine th_one (i := 8) (by kernel_rfl) ?_; refine oh_c (i := 8) (listed' := #[tt,tt,tt,tt,tt,tt,tt,tt,tt,ff,ff,ff,ff,ff]) rfl rfl rfl (o_call bd48 rfl (Load_c (s := s1) (p := p) (m := n))) ?_; rintro _ _ ⟨a98, c98, rfl, hc98, rfl⟩; refine ⟨by repeat (first | with_reducible exact dr_refl | apply dr_keep | apply dr_drop), ?_⟩; refine th_take (i := 9) (listed' := #[tt,tt,tt,tt,tt,tt,tt,tt,tt,tt,ff,ff,ff,ff]) rfl (by kernel_rfl) (by kernel_rfl) (by kernel_rfl) rfl rfl (o_move (by conv => lhs; whnf)) ?_; refine th_take (i := 10) (listed' := #[tt,tt,tt,tt,tt,tt,tt,tt,tt,tt,tt,ff,ff,ff]) rfl (by kernel_rfl) (by kernel_rfl) (by kernel_rfl) rfl rfl (o_extract rfl rfl) ?_; refine th_take (i := 11) (listed' := #[tt,tt,tt,tt,tt,tt,tt,tt,tt,tt,tt,tt,ff,ff]) rfl (by kernel_rfl) (by kernel_rfl) (by kernel_rfl) rfl rfl (o_extract rfl rfl) ?_; refine th_take (i := 12) (listed' := #[tt,tt,tt,tt,tt,tt,tt,tt,tt,tt,tt,tt,tt,ff]) rfl (by kernel_rfl) (by kernel_rfl) (by kernel_rfl) rfl rfl (o_assign (by conv => lhs; whnf)) ?_
                      refine th_take (i := 13) (listed' := #[tt,tt,tt,tt,tt,tt,tt,tt,tt,tt,tt,tt,tt,tt]) rfl (by kernel_rfl) (by kernel_rfl) (by kernel_rfl) rfl rfl (o_assign (by conv => lhs; whnf)) ?_; refine th_done (by kernel_rfl) ?_; refine q_then_n ?_; refine tc_seq ?_; refine sr ?_; refine tlm ?_; refine tv (o_nei rfl rfl) ?_; refine nq ?_; refine tc_cond rfl (fun h => ?_) (fun h => ?_)
                      · exfalso; simp at h
                      · try simp only [lv1, lv2, lv3, lv4, lv5, lv6, Bool.not_true, Bool.not_false] at h
                        refine tc_skip ?_; refine q_then_n ?_; refine sr ?_; refine tv (o_fieldAddr (o := 0) Try.underlying74 rfl rfl sz3 rfl) ?_; refine tv (by first | exact o_load p3 rfl (by repeat (first | with_reducible exact has_here | with_reducible exact has_pt | apply has_left)) rfl | exact o_loadC p3 rfl (by assumption)) ?_; refine tlm ?_; refine tl_c rfl (o_call bd55 rfl (record_c (p := p) (xs := ((imgS s1).drop p).take n) (hr := rs_sl) (hm := hol) (hb := img_sub))) ?_; rintro _ _ ⟨a107, c107, rfl, hc107, rfl⟩; refine tla ?_; refine nq ?_; refine tc_seq ?_; refine sr ?_; refine tlm ?_; refine tv (o_nilCheck rfl) ?_; refine tv (o_fieldAddr (o := 0) Try.underlying52 rfl rfl sz31 rfl) ?_; refine tv (o_load p31 rfl (by repeat (first | assumption | apply has_left)) rfl) ?_; refine tlm ?_; refine tlm ?_; refine tl_c rfl (o_call bd47 rfl (Store_c (s := s1) (p := (q : Nat)) (xs := recS p (((imgS s1).drop p).take n)) (hm := hrl) (hb := hrb) (hroom := fun _ l hl => by have := hq5 l hl; omega))) ?_
                        rintro _ _ ⟨e114, s114, hs114, rfl, rfl⟩; refine tla ?_; refine nq ?_; refine sr ?_; refine tlm ?_; refine tv (o_nei rfl rfl) ?_; refine nq ?_; refine tc_cond rfl (fun h => ?_) (fun h => ?_)
                        · have he0 : e114 ≠ 0 := by simpa using h
                          have hput : putF (at_ + 64) xs s = (e114, s114) := by rw [hq1, hdr]; exact putF_e hs114 he0
                          refine sr ?_; refine tlm ?_; refine tla ?_; refine nq ?_; refine tc_ret ?_; refine q_then_r (q_block_r (q_then_r (q_then_r (q_block_r (q_then_r ?_))))); exact ⟨.int .i64 (e114), C (Dev d s114), res1 rfl rfl, fun _ _ h => by rw [hC]; exact (Dr.sat (A' := R * Dev d s114) (by repeat (first | with_reducible exact dr_refl | apply dr_keep | apply dr_drop))) _ _ h, e114, s114, by unfold writeS; rw [if_neg (by rw [ho]; decide), if_neg (by rw [hv]; exact hv0), if_neg (by rw [hp1]; decide), hnd, if_neg hful, if_neg hx0, hput, if_pos he0], rfl, rfl⟩
                        · obtain rfl : e114 = 0 := by simpa using h
                          refine tc_skip ?_; refine q_then_n ?_; refine tc_reg ?_; refine tlm ?_; refine tlm ?_; refine tv (o_len Try.underlying60 rfl) ?_; refine tv (by first | exact o_addI rfl rfl (by omega) | exact o_add rfl rfl) ?_; refine tl_env (d := 121) (v := .int .i64 ((q + (24 + up8 n) : Nat) : Int)) (by first | rfl | (show Value.int .i64 _ = _; congr 1; omega)) ?_; refine tla ?_; refine tl_nil ?_; refine q_block_n (q_then_n ?_); refine tc_reg ?_; refine tv (by first | exact o_addI rfl rfl (by omega) | exact o_add rfl rfl) ?_; refine tlm ?_; refine nq ?_; exact ⟨_, by omega, j + 1, _, _, by omega, by rw [hq1, hdr]; exact putF_o hs114, by rw [sto_on hs114]; exact hq2, by have h9 := sto_len (q : Nat) (recS p (((imgS s1).drop p).take n)) s1; rw [hs114] at h9; exact h9.trans hq3, by omega, sto_room hs114 hw1 hrb (fun l hl => by have := hq5 l hl; rw [hrl]; omega), rfl, rfl, rfl, rfl, rfl, rfl, rfl, rfl, (by repeat (first | with_reducible exact dr_refl | apply dr_keep | apply dr_drop))⟩
                    · obtain rfl : j = i := by first | omega | (simp at h; omega)
                      have hput : putF (at_ + 64) xs s = (0, s1) := by rw [hq1, List.drop_eq_nil_of_le (by omega)]; rfl
                      refine tc_have (fun _ _ h => ct_wf2 (by repeat (first | with_reducible exact ct_here | apply ct_left)) h) fun hw1 => ?_
                      have hr1 : Room 1 s1 := fun l hl => by have := hq5 l hl; omega
                      refine tc_exit ?_; refine q_then_e (q_then_e (q_block_x (q_then_n ?_))); refine tc_seq ?_; refine tc_seq ?_; refine tc_regh (S := R) mo (by repeat (first | with_reducible exact dr_refl | apply dr_keep | apply dr_drop)) ?_
                      show TH _ _ _ _ _ 12 #[ff,ff,ff,ff,ff,ff,ff,ff,ff,ff,ff,ff] _ _
                      refine th_take (i := 0) (listed' := #[tt,ff,ff,ff,ff,ff,ff,ff,ff,ff,ff,ff]) rfl (by kernel_rfl) (by kernel_rfl) (by kernel_rfl) rfl rfl (o_move (by conv => lhs; whnf)) ?_; refine th_take (i := 1) (listed' := #[tt,tt,ff,ff,ff,ff,ff,ff,ff,ff,ff,ff]) rfl (by kernel_rfl) (by kernel_rfl) (by kernel_rfl) rfl rfl (o_nilCheck rfl) ?_; refine th_take (i := 2) (listed' := #[tt,tt,tt,ff,ff,ff,ff,ff,ff,ff,ff,ff]) rfl (by kernel_rfl) (by kernel_rfl) (by kernel_rfl) rfl rfl (o_fieldAddr (o := 0) Try.underlying52 rfl rfl sz31 rfl) ?_; refine th_take (i := 3) (listed' := #[tt,tt,tt,tt,ff,ff,ff,ff,ff,ff,ff,ff]) rfl (by kernel_rfl) (by kernel_rfl) (by kernel_rfl) rfl rfl (o_load p31 rfl (by repeat (first | assumption | apply has_left)) rfl) ?_; refine th_take (i := 4) (listed' := #[tt,tt,tt,tt,tt,ff,ff,ff,ff,ff,ff,ff]) rfl (by kernel_rfl) (by kernel_rfl) (by kernel_rfl) rfl rfl (o_move (by conv => lhs; whnf)) ?_; refine th_take (i := 5) (listed' := #[tt,tt,tt,tt,tt,tt,ff,ff,ff,ff,ff,ff]) rfl (by kernel_rfl) (by kernel_rfl) (by kernel_rfl) rfl rfl (o_nilCheck rfl) ?_; refine th_take (i := 6) (listed' := #[tt,tt,tt,tt,tt,tt,tt,ff,ff,ff,ff,ff]) rfl (by kernel_rfl) (by kernel_rfl) (by kernel_rfl) rfl rfl (o_fieldAddr (o := 1) Try.underlying52 rfl rfl sz3 rfl) ?_; refine th_take (i := 7) (listed' := #[tt,tt,tt,tt,tt,tt,tt,tt,ff,ff,ff,ff]) rfl (by kernel_rfl) (by kernel_rfl) (by kernel_rfl) rfl rfl (o_load p3 rfl (by repeat (first | assumption | apply has_left)) rfl) ?_
                      refine th_take (i := 8) (listed' := #[tt,tt,tt,tt,tt,tt,tt,tt,tt,ff,ff,ff]) rfl (by kernel_rfl) (by kernel_rfl) (by kernel_rfl) rfl rfl (by first | exact o_addI rfl rfl (by omega) | exact o_add rfl rfl) ?_; refine th_env (d := 131) (v := .int .i64 ((at_ + 64 : Nat) : Int)) (by first | rfl | (show Value.int .i64 _ = _; congr 1; omega)) ?_; refine th_take (i := 9) (listed' := #[tt,tt,tt,tt,tt,tt,tt,tt,tt,tt,ff,ff]) rfl (by kernel_rfl) (by kernel_rfl) (by kernel_rfl) rfl rfl (o_move (by conv => lhs; whnf)) ?_; refine th_one (i := 10) (by kernel_rfl) ?_; refine oh_c (i := 10) (listed' := #[tt,tt,tt,tt,tt,tt,tt,tt,tt,tt,tt,ff]) rfl rfl rfl (o_call bd56 rfl (Range_c (s := s1) (p := ((at_ + 64 : Nat) : Int)) (m := (needN xs : Nat)))) ?_; rintro _ _ ⟨e133, s133, hs133, rfl, rfl⟩; refine ⟨by repeat (first | with_reducible exact dr_refl | apply dr_keep | apply dr_drop), ?_⟩; refine th_take (i := 11) (listed' := #[tt,tt,tt,tt,tt,tt,tt,tt,tt,tt,tt,tt]) rfl (by kernel_rfl) (by kernel_rfl) (by kernel_rfl) rfl rfl (o_assign (by conv => lhs; whnf)) ?_; refine th_done (by kernel_rfl) ?_; refine q_then_n ?_; refine sr ?_; refine tlm ?_; refine tv (o_nei rfl rfl) ?_; refine tl_nil ?_
                      refine q_then_n ?_; refine tc_cond rfl (fun h => ?_) (fun h => ?_)
                      · have he1 : e133 ≠ 0 := by simpa using h
                        refine sr ?_; refine tlm ?_; refine tla ?_; refine nq ?_; refine tc_ret ?_; refine q_then_r ?_; exact ⟨.int .i64 (e133), C (Dev d s133), res1 rfl rfl, fun _ _ h => by rw [hC]; exact (Dr.sat (A' := R * Dev d s133) (by repeat (first | with_reducible exact dr_refl | apply dr_keep | apply dr_drop))) _ _ h, e133, s133, by unfold writeS; rw [if_neg (by rw [ho]; decide), if_neg (by rw [hv]; exact hv0), if_neg (by rw [hp1]; decide), hnd, if_neg hful, if_neg hx0, hput, if_neg (by simp)]; simp only []; rw [hs133, if_pos he1], rfl, rfl⟩
                      · obtain rfl : e133 = 0 := by simpa using h
                        have hr2 := rangeP_room hs133 hw1 hr1
                        refine tc_skip ?_; refine q_then_n ?_; refine tc_seq ?_; refine tc_regh (S := R) mo (by repeat (first | with_reducible exact dr_refl | apply dr_keep | apply dr_drop)) ?_
                        show TH _ _ _ _ _ 13 #[ff,ff,ff,ff,ff,ff,ff,ff,ff,ff,ff,ff,ff] _ _
                        refine th_take (i := 0) (listed' := #[tt,ff,ff,ff,ff,ff,ff,ff,ff,ff,ff,ff,ff]) rfl (by kernel_rfl) (by kernel_rfl) (by kernel_rfl) rfl rfl (o_move (by conv => lhs; whnf)) ?_; refine th_take (i := 1) (listed' := #[tt,tt,ff,ff,ff,ff,ff,ff,ff,ff,ff,ff,ff]) rfl (by kernel_rfl) (by kernel_rfl) (by kernel_rfl) rfl rfl (o_nilCheck rfl) ?_; refine th_take (i := 2) (listed' := #[tt,tt,tt,ff,ff,ff,ff,ff,ff,ff,ff,ff,ff]) rfl (by kernel_rfl) (by kernel_rfl) (by kernel_rfl) rfl rfl (o_fieldAddr (o := 0) Try.underlying52 rfl rfl sz31 rfl) ?_; refine th_take (i := 3) (listed' := #[tt,tt,tt,tt,ff,ff,ff,ff,ff,ff,ff,ff,ff]) rfl (by kernel_rfl) (by kernel_rfl) (by kernel_rfl) rfl rfl (o_load p31 rfl (by repeat (first | assumption | apply has_left)) rfl) ?_; refine th_take (i := 4) (listed' := #[tt,tt,tt,tt,tt,ff,ff,ff,ff,ff,ff,ff,ff]) rfl (by kernel_rfl) (by kernel_rfl) (by kernel_rfl) rfl rfl (o_move (by conv => lhs; whnf)) ?_; refine th_take (i := 5) (listed' := #[tt,tt,tt,tt,tt,tt,ff,ff,ff,ff,ff,ff,ff]) rfl (by kernel_rfl) (by kernel_rfl) (by kernel_rfl) rfl rfl (o_nilCheck rfl) ?_; refine th_take (i := 6) (listed' := #[tt,tt,tt,tt,tt,tt,tt,ff,ff,ff,ff,ff,ff]) rfl (by kernel_rfl) (by kernel_rfl) (by kernel_rfl) rfl rfl (o_fieldAddr (o := 1) Try.underlying52 rfl rfl sz3 rfl) ?_; refine th_take (i := 7) (listed' := #[tt,tt,tt,tt,tt,tt,tt,tt,ff,ff,ff,ff,ff]) rfl (by kernel_rfl) (by kernel_rfl) (by kernel_rfl) rfl rfl (o_load p3 rfl (by repeat (first | assumption | apply has_left)) rfl) ?_
                        refine th_take (i := 8) (listed' := #[tt,tt,tt,tt,tt,tt,tt,tt,tt,ff,ff,ff,ff]) rfl (by kernel_rfl) (by kernel_rfl) (by kernel_rfl) rfl rfl (o_move (by conv => lhs; whnf)) ?_; refine th_take (i := 9) (listed' := #[tt,tt,tt,tt,tt,tt,tt,tt,tt,tt,ff,ff,ff]) rfl (by kernel_rfl) (by kernel_rfl) (by kernel_rfl) rfl rfl (o_len Try.underlying53 rfl) ?_; refine th_take (i := 10) (listed' := #[tt,tt,tt,tt,tt,tt,tt,tt,tt,tt,tt,ff,ff]) rfl (by kernel_rfl) (by kernel_rfl) (by kernel_rfl) rfl rfl (by first | exact o_conv64 Try.underlying3 Try.underlying89 rfl | exact o_conv Try.underlying3 Try.underlying89 rfl) ?_; refine th_env (d := 147) (v := .int .u64 ((xs.length : Nat) : Int)) (by rw [hm]; exact congrArg (fun z : Nat => Value.int .u64 (z : Int)) (Nat.mod_eq_of_lt (by omega))) ?_; refine th_one (i := 11) (by kernel_rfl) ?_; refine oh_c (i := 11) (listed' := #[tt,tt,tt,tt,tt,tt,tt,tt,tt,tt,tt,tt,ff]) rfl rfl rfl (o_call bd57 rfl (Publish_c (s := s133) (p := (at_ : Nat)) (v := xs.length))) ?_; rintro _ _ ⟨e148, s148, hs148, rfl, rfl⟩; refine ⟨by repeat (first | with_reducible exact dr_refl | apply dr_keep | apply dr_drop), ?_⟩; refine th_take (i := 12) (listed' := #[tt,tt,tt,tt,tt,tt,tt,tt,tt,tt,tt,tt,tt]) rfl (by kernel_rfl) (by kernel_rfl) (by kernel_rfl) rfl rfl (o_assign (by conv => lhs; whnf)) ?_
                        refine th_done (by kernel_rfl) ?_; refine q_then_n ?_; refine tc_ret ?_; exact ⟨.int .i64 (e148), C (Dev d s148), res1 rfl rfl, fun _ _ h => by rw [hC]; exact (Dr.sat (A' := R * Dev d s148) (by repeat (first | with_reducible exact dr_refl | apply dr_keep | apply dr_drop))) _ _ h, e148, s148, by unfold writeS; rw [if_neg (by rw [ho]; decide), if_neg (by rw [hv]; exact hv0), if_neg (by rw [hp1]; decide), hnd, if_neg hful, if_neg hx0, hput, if_neg (by simp)]; simp only []; rw [hs133, if_neg (by simp)]; exact hs148, rfl, rfl⟩
end Go.Vl

set_option linter.unusedVariables false
set_option linter.unusedSimpArgs false
namespace Go.Vl
open Go Go.Proofs
/-! ### Losses of power that may come yet -/
def phi (s : DevS) : Nat := s.arms.length + (if s.off = true then 1 else 0)
theorem done_phi (s : DevS) : phi (doneS s) ≤ phi s := by
  unfold phi doneS
  cases e : s.arms with
  | nil => simp [e]
  | cons a ar =>
    simp only
    split
    · simp [e]
    · simp only [goesS, if_true, List.length_cons]; omega
theorem phi_of {s s' : DevS} (h1 : s'.arms = s.arms) (h2 : s'.off = s.off) : phi s' = phi s := by unfold phi; rw [h1, h2]
theorem phi_onLine (f : LineS → LineS) (i : Nat) (s : DevS) : phi (onLine f i s) = phi s := phi_of (onLine_fields f i s).2.1 (onLine_fields f i s).2.2.2.1
theorem lay_phi (q v : Nat) (s : DevS) : phi (layS q v s) = phi s := by unfold layS; exact phi_onLine _ _ _
theorem storeF_phi : ∀ (m : Nat) {p : Nat} {b : List Nat} {s : DevS}, b.length = m → phi (storeF b.length p b s).2 ≤ phi s := by
  intro m
  induction m using Nat.strongRecOn with
  | _ m ih =>
    intro p b s hm
    by_cases h0 : b = []
    · subst h0; rw [storeF_nil]; exact Nat.le_refl _
    · have hpos : 0 < b.length := List.length_pos_iff.2 h0
      rw [storeF_step h0]
      have h1 := done_phi (layS (p - p % 8) (nm (stW p b s)) s)
      rw [lay_phi] at h1
      split
      · exact h1
      · exact Nat.le_trans (ih (b.drop (8 - p % 8)).length (by rw [List.length_drop]; omega) rfl) h1
theorem sto_phi (p : Int) (b : List Nat) (s : DevS) : phi (sto p b s).2 ≤ phi s := by
  unfold sto; split
  · exact Nat.le_refl _
  · exact storeF_phi _ rfl
theorem fl1_phi (p : Int) (s : DevS) : phi (fl1 p s).2 ≤ phi s := by
  unfold fl1; split
  · exact Nat.le_refl _
  · have h1 := done_phi (flushS p.toNat s)
    have : phi (flushS p.toNat s) = phi s := by unfold flushS; exact phi_onLine _ _ _
    show phi (doneS (flushS p.toNat s)) ≤ phi s
    omega
theorem fe_phi (s : DevS) : phi (fe s).2 ≤ phi s := by
  unfold fe; split
  · exact Nat.le_refl _
  · have h1 := done_phi (fenceS s)
    have : phi (fenceS s) = phi s := phi_of rfl rfl
    simp only; omega
theorem flF_phi : ∀ (k q : Nat) (s : DevS), phi (flF k q s).2 ≤ phi s
  | 0, _, s => fe_phi s
  | k + 1, q, s => by
    show phi (if (fl1 ((q * 64 : Nat) : Int) s).1 ≠ 0 then fl1 ((q * 64 : Nat) : Int) s else flF k (q + 1) (fl1 ((q * 64 : Nat) : Int) s).2).2 ≤ _
    have h1 := fl1_phi ((q * 64 : Nat) : Int) s
    split
    · exact h1
    · exact Nat.le_trans (flF_phi k _ _) h1
theorem flL_phi : ∀ (k q : Nat) (s : DevS), phi (flL k q s).2 ≤ phi s
  | 0, _, s => Nat.le_refl _
  | k + 1, q, s => by
    show phi (if (fl1 ((q * 64 : Nat) : Int) s).1 ≠ 0 then fl1 ((q * 64 : Nat) : Int) s else flL k (q + 1) (fl1 ((q * 64 : Nat) : Int) s).2).2 ≤ _
    have h1 := fl1_phi ((q * 64 : Nat) : Int) s
    split
    · exact h1
    · exact Nat.le_trans (flL_phi k _ _) h1
theorem lastS_phi (p m : Nat) (s : DevS) : phi (lastS p m s).2 ≤ phi s := flF_phi _ _ _
theorem st8_phi (p : Int) (v : Nat) (s : DevS) : phi (st8 p v s).2 ≤ phi s := by
  unfold st8; split
  · exact Nat.le_refl _
  · split
    · exact Nat.le_refl _
    · have h1 := done_phi (layS p.toNat v s); rw [lay_phi] at h1; exact h1
theorem pubP_phi (p : Int) (v : Nat) (s : DevS) : phi (pubP p v s).2 ≤ phi s := by
  unfold pubP
  have h1 := st8_phi p v s
  split
  · exact h1
  · exact Nat.le_trans (lastS_phi _ _ _) h1
theorem rangeP_phi (p m : Int) (s : DevS) : phi (rangeP p m s).2 ≤ phi s := by
  unfold rangeP
  split; exact Nat.le_refl _
  split; exact Nat.le_refl _
  split; exact Nat.le_refl _
  exact lastS_phi _ _ _
theorem putF_phi : ∀ (l : List (Int × Int)) (q : Nat) (s : DevS), phi (putF q l s).2 ≤ phi s
  | [], _, _ => Nat.le_refl _
  | x :: l, q, s => by
    show phi (if (sto (q : Nat) (recS x.1.toNat (((imgS s).drop x.1.toNat).take x.2.toNat)) s).1 ≠ 0 then sto (q : Nat) (recS x.1.toNat (((imgS s).drop x.1.toNat).take x.2.toNat)) s
      else putF (q + (24 + up8 x.2.toNat)) l (sto (q : Nat) (recS x.1.toNat (((imgS s).drop x.1.toNat).take x.2.toNat)) s).2).2 ≤ _
    have h1 := sto_phi (q : Nat) (recS x.1.toNat (((imgS s).drop x.1.toNat).take x.2.toNat)) s
    split
    · exact h1
    · exact Nat.le_trans (putF_phi l _ _) h1
theorem writeS_phi (at_ sz : Nat) (l : List (Int × Int)) (s : DevS) : phi (writeS at_ sz l s).2 ≤ phi s := by
  unfold writeS
  have h1 := putF_phi l (at_ + 64) s
  have h2 := rangeP_phi ((at_ + 64 : Nat) : Int) (needS (lensX l)).1 (putF (at_ + 64) l s).2
  repeat' (split; · first | exact Nat.le_refl _ | exact h1 | exact Nat.le_trans h2 h1)
  exact Nat.le_trans (pubP_phi _ _ _) (Nat.le_trans h2 h1)
theorem live_phi {s : DevS} : Live s ↔ phi s = 0 := by
  unfold phi
  constructor
  · intro h; rw [h.off, h.arms]; rfl
  · intro h
    refine ⟨?_, List.eq_nil_of_length_eq_zero (by omega)⟩
    cases ho : s.off with
    | false => rfl
    | true => rw [ho] at h; simp at h
/-! ### Images, line by line -/
theorem chunk_at {q j : Nat} {I : List Nat} (h : j < 64) : (chunk q I)[j]? = I[q * 64 + j]? := by
  unfold chunk; rw [List.getElem?_take, if_pos h, List.getElem?_drop]
theorem img_ext {n : Nat} {I J : List Nat} (hI : I.length = n * 64) (hJ : J.length = n * 64) (h : ∀ q, q < n → chunk q I = chunk q J) : I = J := by
  apply List.ext_getElem?
  intro i
  rcases Nat.lt_or_ge i (n * 64) with hi | hi
  · have := h (i / 64) (by omega)
    have h2 := congrArg (fun l => l[i % 64]?) this
    simp only [chunk_at (show i % 64 < 64 by omega), show i / 64 * 64 + i % 64 = i by omega] at h2
    exact h2
  · rw [List.getElem?_eq_none (by omega), List.getElem?_eq_none (by omega)]
/-- Every content of every line is that of an image. -/
def Same (I : List Nat) (s : DevS) : Prop := Poss (fun q c => c = chunk q I) s
/-! ### A number is published -/
theorem pub_loss {X : Nat → List Nat → Prop} {p v : Nat} {s : DevS} (hw : WfD s) (hO : s.off = false) (hc : Poss X s) (hcl : ∀ (q : Nat) (l : LineS), q ≠ p / 64 → s.ls[q]? = some l → l.st.length = 1) (hp8 : p % 8 = 0) (hp : p + 8 ≤ s.ls.length * 64) (hv : v < 18446744073709551616) (hroom : Room 1 s)
    (hX1 : X (p / 64) (chunk (p / 64) (spl (imgS s) p (le 8 v)))) :
    ∃ e s2, pubP (p : Nat) v s = (e, s2) ∧ ((e = 0 ∧ s2.off = false ∧ WfD s2 ∧ Cln s2 ∧ s2.ls.length = s.ls.length ∧ imgS s2 = spl (imgS s) p (le 8 v)) ∨ (e = 5 ∧ Lost X s.ls.length s2)) := by
  have hi : p / 64 < s.ls.length := by omega
  have hwL := layS_wf (at_ := p) hw hroom hv
  have himg := img_lay hw hp8 hi hv hroom
  have hlen : (layS p v s).ls.length = s.ls.length := layS_len _ _ _
  have hP := poss_lay hc hi hwL (by rw [himg]; exact hX1)
  have hst : st8 (p : Nat) v s = (doneE (layS p v s), doneS (layS p v s)) := by
    unfold st8; rw [hO, rdy_ok (by omega) (by omega) (by omega), if_neg (by decide), if_neg (by omega), Int.toNat_natCast]
  unfold pubP
  rw [hst]
  rcases done_loss hwL hP with ⟨h1, h2, h3⟩ | ⟨h1, h2⟩
  · simp only []
    rw [h1, if_neg (by decide), Int.toNat_natCast]
    obtain ⟨e, s2, g1, g2⟩ := lastS_loss (X := X) (p := p) (m := 8) (s := doneS (layS p v s)) (doneS_wf hwL) (by rw [h3, layS_off]; exact hO) (fun q l hl σ hσ => by rw [h2] at hl; exact hP q l hl σ hσ) (by decide) (by rw [h2, hlen]; exact hp) (fun q l hq hl => by
      rw [h2, layS_ls hi, List.getElem?_set_ne (by omega)] at hl
      exact hcl q l (by omega) hl)
    refine ⟨e, s2, g1, ?_⟩
    rw [h2, hlen] at g2
    rcases g2 with ⟨a1, a2, a3, a4, a5, a6⟩ | g2
    · exact .inl ⟨a1, a2, a3, a4, a5, by rw [a6]; unfold imgS; rw [h2]; exact himg⟩
    · exact .inr g2
  · simp only []
    rw [h1, if_pos (by decide)]
    exact ⟨5, _, rfl, .inr ⟨rfl, by rw [hlen] at h2; exact h2⟩⟩
/-! ### Records are stored -/
def recsB (I : List Nat) (l : List (Int × Int)) : List Nat := l.flatMap fun x => recS x.1.toNat ((I.drop x.1.toNat).take x.2.toNat)
theorem recsB_cons (I : List Nat) (x : Int × Int) (l : List (Int × Int)) : recsB I (x :: l) = recS x.1.toNat ((I.drop x.1.toNat).take x.2.toNat) ++ recsB I l := rfl
/-- Outside a range the images are alike. -/
def Out (a b : Nat) (I J : List Nat) : Prop := ∀ i, ¬ (a ≤ i ∧ i < b) → I[i]? = J[i]?
theorem Out.refl (a b : Nat) (I : List Nat) : Out a b I I := fun _ _ => rfl
theorem Out.trans {a b : Nat} {I J K : List Nat} (h1 : Out a b I J) (h2 : Out a b J K) : Out a b I K := fun i hi => (h1 i hi).trans (h2 i hi)
theorem out_spl {a b p : Nat} {I c : List Nat} (hp : p + c.length ≤ I.length) (h1 : a ≤ p) (h2 : p + c.length ≤ b) : Out a b (spl I p c) I := fun i hi => by rw [spl_at hp, if_neg (by omega)]
theorem out_sub {a b p m : Nat} {I J : List Nat} (h : Out a b I J) (hd : p + m ≤ a ∨ b ≤ p) : (I.drop p).take m = (J.drop p).take m := by
  apply List.ext_getElem?
  intro i
  rw [List.getElem?_take, List.getElem?_take]
  split
  · rw [List.getElem?_drop, List.getElem?_drop]; exact h _ (by omega)
  · rfl
theorem recsB_len {n at_ sz : Nat} {I : List Nat} (hI : I.length = n) : ∀ {l : List (Int × Int)}, l.all (mayX n at_ sz) = true → (recsB I l).length = needN l
  | [], _ => rfl
  | x :: l, hl => by
    rw [List.all_cons, Bool.and_eq_true] at hl
    obtain ⟨p, m, rfl, y1, y2, y3, y4⟩ := may_nat hl.1
    rw [recsB_cons, List.length_append, recsB_len hI hl.2, needN_cons, recS_len]
    simp only [Int.toNat_natCast]
    rw [show ((I.drop p).take m).length = m by rw [List.length_take, List.length_drop]; omega]
theorem put_loss {X : Nat → List Nat → Prop} {at_ sz : Nat} {I0 : List Nat} : ∀ {l : List (Int × Int)} {q r : Nat} {s : DevS}, WfD s → s.off = false → Poss X s → LogW (s.ls.length * 64) at_ sz → l.all (mayX (s.ls.length * 64) at_ sz) = true → at_ + 64 ≤ q → q + needN l ≤ at_ + sz → Room (r + needN l) s → Out (at_ + 64) (at_ + sz) (imgS s) I0 → I0.length = s.ls.length * 64 →
    (∀ I : List Nat, I.length = s.ls.length * 64 → Out (at_ + 64) (at_ + sz) I I0 → ∀ j, j < s.ls.length → X j (chunk j I)) →
    ∃ e s2, putF q l s = (e, s2) ∧ ((e = 0 ∧ s2.off = false ∧ WfD s2 ∧ Poss X s2 ∧ s2.ls.length = s.ls.length ∧ (∀ j : Nat, (j + 1) * 64 ≤ q ∨ q + needN l ≤ j * 64 → s2.ls[j]? = s.ls[j]?) ∧ Room r s2 ∧ imgS s2 = spl (imgS s) q (recsB I0 l)) ∨ (e = 5 ∧ Lost X s.ls.length s2))
  | [], q, r, s, hw, hO, hP, _, _, _, _, hr, _, _, _ => ⟨0, s, rfl, .inl ⟨rfl, hO, hw, hP, rfl, fun _ _ => rfl, fun l hl => by have := hr l hl; omega, (spl_nil _ _).symm⟩⟩
  | x :: l, q, r, s, hw, hO, hP, hlw, hl, hq1, hq2, hr, hout, hI0, hX => by
    rw [List.all_cons, Bool.and_eq_true] at hl
    obtain ⟨p, m, rfl, y1, y2, y3, y4⟩ := may_nat hl.1
    rw [needN_cons] at hq2 hr
    simp only [Int.toNat_natCast] at hq2 hr
    have htop := hlw.top
    have hil := imgS_len hw
    have hol : (((imgS s).drop p).take m).length = m := by rw [List.length_take, List.length_drop, hil]; omega
    have hrl : (recS p (((imgS s).drop p).take m)).length = 24 + up8 m := by rw [recS_len, hol]
    have hrb : ∀ b ∈ recS p (((imgS s).drop p).take m), b < 256 := recS_b img_sub
    obtain ⟨b, hb⟩ : ∃ b, recS p (((imgS s).drop p).take m) = b := ⟨_, rfl⟩
    rw [hb] at hrl hrb
    have hbo : recS p ((I0.drop p).take m) = b := by rw [← hb, out_sub hout (by omega)]
    have hXs : ∀ k j, 0 < k → k ≤ b.length → ((q + k) % 8 = 0 ∨ k = b.length) → j < s.ls.length → X j (chunk j (spl (imgS s) q (b.take k))) := fun k j k0 k1 _ hj => by
      have hkl : (b.take k).length = k := by rw [List.length_take]; omega
      exact hX _ (by rw [spl_length (by omega), hil]) ((out_spl (by omega) hq1 (by omega)).trans hout) j hj
    obtain ⟨e, s1, g1, g2⟩ := storeF_loss (X := X) b.length (p := q) (r := r + needN l) (s := s) rfl hw hO hrb (fun l hl => by have := hr l hl; omega) (by omega) hP hXs
    have hst : sto (q : Nat) (recS p (((imgS s).drop p).take m)) s = (e, s1) := by
      rw [hb]; unfold sto; rw [hO, rdy_ok (by omega) (by omega) (by omega), if_neg (by decide), Int.toNat_natCast]; exact g1
    rcases g2 with ⟨a1, ⟨a2, a3, a4, a5, a6⟩, a7, a8⟩ | ⟨a1, a2⟩
    · subst a1
      rw [putF_o hst]
      have hout1 : Out (at_ + 64) (at_ + sz) (imgS s1) I0 := by rw [a8]; exact (out_spl (by omega) hq1 (by omega)).trans hout
      obtain ⟨e, s2, k1, k2⟩ := put_loss (X := X) (I0 := I0) (l := l) (q := q + (24 + up8 m)) (r := r) (s := s1) a3 a2 a4 (by rw [a5]; exact hlw) (by rw [a5]; exact hl.2) (by omega) (by omega) a7 hout1 (by rw [a5]; exact hI0) (by rw [a5]; exact hX)
      refine ⟨e, s2, k1, ?_⟩
      rw [a5] at k2
      rcases k2 with ⟨b1, b2, b3, b4, b5, b6, b7, b8⟩ | k2
      · refine .inl ⟨b1, b2, b3, b4, b5, fun j hj => ?_, b7, ?_⟩
        · rw [needN_cons] at hj
          simp only [Int.toNat_natCast] at hj
          rw [b6 j (by omega), a6 j (by omega)]
        · have hrn := recsB_len (I := I0) (n := s.ls.length * 64) (at_ := at_) (sz := sz) (l := l) hI0 hl.2
          rw [b8, a8, recsB_cons]
          simp only [Int.toNat_natCast]
          rw [hbo, show 24 + up8 m = b.length from hrl.symm, spl_spl (by omega)]
      · exact .inr k2
    · subst a1
      exact ⟨5, s1, putF_e hst (by decide), .inr ⟨rfl, a2⟩⟩
end Go.Vl

set_option linter.unusedVariables false
set_option linter.unusedSimpArgs false
namespace Go.Vl
open Go Go.Proofs
attribute [local irreducible] crk crL crc Sl pt ro Dev imgS recS
theorem CloneBN_f {A : SP} {n c : Nat} :
    Fn Try.prog 79 #[.slice none n c] (A) (fun r B => r = .slice none 0 0 ∧ A = B) := by
  refine fn_enterW (args := [.slice none n c]) Try.func79 rfl Try.ntmps79 (by simp) ?_; refine sr ?_; refine tla ?_; refine nq ?_; refine tc_seq ?_; refine sr ?_; refine tlm ?_; refine tv (o_eqs Try.underlying60 rfl rfl) ?_; refine nq ?_; refine tc_cond rfl (fun h => ?_) (fun h => ?_)
  · try simp only [lv1, lv2, lv3, lv4, lv5, lv6, Bool.not_true, Bool.not_false] at h
    refine sr ?_; refine tla ?_; refine nq ?_; refine tc_ret ?_; refine q_then_r ?_; exact ⟨_, _, res1 rfl rfl, fun _ _ h => h, rfl, rfl⟩
  · (exfalso; first | (revert h; simp; done) | (simp at h; done) | (revert h; simp; omega) | (simp at h; omega) | omega)
theorem CloneBS_f {A : SP} {n c : Nat} {p : Addr} {xs : List Value} (hr : Rs A (some p) xs) (hl : xs.length = n * 1) (ho : xs.all oneC = true) (hs : n ≤ 5864062014800) :
    Fn Try.prog 79 #[.slice (some p) n c] (A) (fun r B => ∃ a2 c2, r = .slice a2 n c2 ∧ n ≤ c2 ∧ B = A * Sl 1 (.slice a2 n c2) n xs) := by
  refine fn_enterW (args := [.slice (some p) n c]) Try.func79 rfl Try.ntmps79 (by simp) ?_; refine sr ?_; refine tla ?_; refine nq ?_; refine tc_seq ?_; refine sr ?_; refine tlm ?_; refine tv (o_eqs Try.underlying60 rfl rfl) ?_; refine nq ?_; refine tc_cond rfl (fun h => ?_) (fun h => ?_)
  · exfalso; simp at h
  · try simp only [lv1, lv2, lv3, lv4, lv5, lv6, Bool.not_true, Bool.not_false] at h
    refine tc_skip ?_; refine q_then_n ?_; refine tc_seq ?_
    skip
    refine tc_reg ?_; refine tl_x rfl (o_buildSlice0 Try.underlying60 sz5 rfl) ?_; rintro _ _ ⟨b5, rfl, rfl⟩; refine tl_pre (A' := A * Sl 1 (.slice (some ⟨b5, 0, none⟩) 0 0) 0 []) (fun _ _ h => sl_new h (Nat.le_refl _) (by simp) (by simp)) ?_; refine tlm ?_; refine tl_x rfl (o_apR Try.underlying60 Try.underlying60 sz5 by5 z5 rfl (by decide) (by decide) rfl rfl (by repeat (first | with_reducible exact ct_here | apply ct_left)) (hr.left) hl ho (by omega) (List.nil_append _)) ?_; rintro _ _ ⟨a7, c7, rfl, hc7, rfl⟩; refine tla ?_; refine nq ?_; refine tc_ret ?_; exact ⟨.slice a7 (0 + n) c7, A * Sl 1 (.slice a7 (0 + n) c7) (0 + n) xs, res1 rfl rfl, fun _ _ h => h, a7, c7, by rw [Nat.zero_add], by rw [Nat.zero_add] at hc7; exact hc7, by rw [Nat.zero_add]⟩
theorem CloneB_c {A : SP} {a : Option Addr} {n c : Nat} {l : List Nat} (hr : Rs A a (bys l) := by repeat (first | assumption | with_reducible exact rs_sl | with_reducible exact rs_pt0 | exact rs_none | apply Rs.left)) (hm : l.length = n := by first | assumption | rfl) (hs : n ≤ 5864062014800 := by omega) :
    Fn Try.prog 79 #[.slice a n c] A (fun r B => ∃ a2 c2, r = .slice a2 n c2 ∧ n ≤ c2 ∧ B = A * Sl 1 (.slice a2 n c2) n (bys l)) := by
  have hl : (bys l).length = n * 1 := by rw [bys_length, hm, Nat.mul_one]
  cases a with
  | none =>
    intro g w hs2
    have hx : bys l = [] := by
      rcases hr.rd hs2 with h | ⟨b, o, e, _⟩
      · exact h
      · cases e
    have hn : n = 0 := by rw [hx] at hl; simp at hl; omega
    subst hn
    rw [hx]
    refine (CloneBN_f (n := 0) (c := c) g w hs2).mono ?_; rintro e w' ⟨v, B, rfl, ⟨rfl, rfl⟩, hB⟩; exact ⟨_, _, rfl, ⟨none, 0, rfl, Nat.le_refl _, rfl⟩, sl_nil hB⟩
  | some p => exact CloneBS_f hr hl (bys_all l) hs
theorem EqualB_c {A : SP} {a1 a2 : Option Addr} {c1 c2 n m : Nat} {xs ys : List Nat} (h1 : Rs A a1 (bys xs) := by repeat (first | assumption | with_reducible exact rs_sl | with_reducible exact rs_pt0 | exact rs_none | apply Rs.left)) (h2 : Rs A a2 (bys ys) := by repeat (first | assumption | with_reducible exact rs_sl | with_reducible exact rs_pt0 | exact rs_none | apply Rs.left)) (hx : xs.length = n := by first | assumption | rfl) (hy : ys.length = m := by first | assumption | rfl) (hn : n ≤ 4611686018427387904 := by omega) :
    Fn Try.prog 80 #[.slice a1 n c1, .slice a2 m c2] (A) (fun r B => r = .bool (decide (xs = ys)) ∧ A = B) := by
  refine fn_enterW (args := [.slice a1 n c1, .slice a2 m c2]) Try.func80 rfl Try.ntmps80 (by simp) ?_; refine sr ?_; refine tla ?_; refine nq ?_; refine tc_seq ?_; refine sr ?_; refine tlm ?_; refine tv (o_len Try.underlying60 rfl) ?_; refine tlm ?_; refine tv (o_len Try.underlying60 rfl) ?_; refine tv (o_nei rfl rfl) ?_; refine nq ?_; refine tc_cond rfl (fun h => ?_) (fun h => ?_)
  · try simp only [lv1, lv2, lv3, lv4, lv5, lv6, Bool.not_true, Bool.not_false] at h
    refine sr ?_; refine tla ?_; refine nq ?_; refine tc_ret ?_; refine q_then_r ?_
    have e : decide (xs = ys) = false := decide_eq_false fun e => by subst e; first | omega | (simp at h; omega)
    rw [e]
    exact ⟨.bool false, A, res1 rfl rfl, Dr.sat (by repeat (first | with_reducible exact dr_refl | apply dr_keep | apply dr_drop)), rfl, rfl⟩
  · obtain rfl : n = m := by first | omega | (simp at h; omega)
    refine tc_skip ?_; refine q_then_n ?_; refine tc_seq ?_; refine sr ?_; refine tlm ?_; refine tv (o_len Try.underlying60 rfl) ?_; refine tlm ?_; refine nq ?_; refine tc_block ?_; refine tc_loop (fun kk ρ BB => ∃ (i : Nat), (i ≤ n) ∧ (xs.take i = ys.take i) ∧ kk = n - i ∧ ρ 13 = .int .i64 (i : Nat) ∧ ρ 0 = .slice a1 n c1 ∧ ρ 1 = .slice a2 n c2 ∧ ρ 12 = .int .i64 (n : Nat) ∧ BB = A) (m := n - (0)) ?_ ?_
    · exact ⟨0, by omega, rfl, rfl, rfl, rfl, rfl, rfl, rfl⟩
    · intro k ρ B hI
      obtain ⟨i, hp0, hp1, hkk1, hE13, hE0, hE1, hE12, hBA⟩ := hI
      obtain rfl := hBA.symm
      refine tc_env (d := 13) hE13 ?_; refine tc_env (d := 0) hE0 ?_; refine tc_env (d := 1) hE1 ?_; refine tc_env (d := 12) hE12 ?_
      clear hE13 hE0 hE1 hE12
      refine sr ?_; refine tv (o_lss rfl rfl) ?_; refine nq ?_; refine tc_seq ?_; refine tc_cond rfl (fun h => ?_) (fun h => ?_)
      · have hi : i < xs.length := by first | omega | (simp at h; omega)
        have hi2 : i < ys.length := by omega
        refine tc_skip ?_; refine q_then_n ?_; refine tc_seq ?_; refine tc_block ?_; refine sr ?_; refine tlm ?_; refine tla ?_; refine nq ?_; refine tc_seq ?_; refine tc_regq mo (by kernel_rfl) ?_; refine ql_v rfl (o_move (by conv => lhs; whnf)) ?_; refine ql_v rfl (o_move (by conv => lhs; whnf)) ?_; refine ql_v rfl (o_ixP1 Try.underlying60 sz5 rfl rfl (by omega) (nn_rs h1 (by rw [bys_length]; omega))) ?_; refine ql_v rfl (o_ldP p5 rfl h1 (bys_at hi)) ?_; refine ql_v rfl (o_move (by conv => lhs; whnf)) ?_; refine ql_v rfl (o_move (by conv => lhs; whnf)) ?_; refine ql_v rfl (o_ixP1 Try.underlying60 sz5 rfl rfl (by omega) (nn_rs h2 (by rw [bys_length]; omega))) ?_; refine ql_v rfl (o_ldP p5 rfl h2 (bys_at hi2)) ?_; refine ql_v rfl (o_nei rfl rfl) ?_; refine ql_nil ?_; refine q_then_n ?_; refine tc_cond rfl (fun h => ?_) (fun h => ?_)
        · have hne : xs[i] ≠ ys[i] := fun e => by rw [e] at h; simp at h
          refine sr ?_; refine tla ?_; refine nq ?_; refine tc_ret ?_; refine q_block_r (q_then_r (q_then_r (q_block_r (q_then_r ?_))))
          have e : decide (xs = ys) = false := decide_eq_false fun e => by subst e; exact hne rfl
          rw [e]
          exact ⟨.bool false, A, res1 rfl rfl, Dr.sat (by repeat (first | with_reducible exact dr_refl | apply dr_keep | apply dr_drop)), rfl, rfl⟩
        · have heq : ((xs[i] : Nat) : Int) = ((ys[i] : Nat) : Int) := by first | omega | (simpa using h)
          refine tc_skip ?_; refine q_block_n (q_then_n ?_); refine tc_reg ?_; refine tv (by first | exact o_addI rfl rfl (by omega) | exact o_add rfl rfl) ?_; refine tlm ?_; refine nq ?_; exact ⟨_, by omega, i + 1, by omega, take_succ_eq hp1 (by omega) (by omega) (by omega), rfl, rfl, rfl, rfl, rfl, rfl⟩
      · try simp only [lv1, lv2, lv3, lv4, lv5, lv6, Bool.not_true, Bool.not_false] at h
        refine tc_exit ?_; refine q_then_e (q_then_e (q_block_x (q_then_n ?_))); refine sr ?_; refine tla ?_; refine nq ?_; refine tc_ret ?_
        have e : decide (xs = ys) = true := decide_eq_true (take_all hp1 (by omega) (by omega))
        rw [e]
        exact ⟨.bool true, A, res1 rfl rfl, Dr.sat (by repeat (first | with_reducible exact dr_refl | apply dr_keep | apply dr_drop)), rfl, rfl⟩
theorem field_c {A : SP} {a : Option Addr} {c m p w : Nat} {xs : List Nat} (q : Nat) (hq : q = p + w * 8 := by omega) (hr : Rs A a (bys xs) := by repeat (first | assumption | with_reducible exact rs_sl | with_reducible exact rs_pt0 | exact rs_none | apply Rs.left)) (hm : xs.length = m := by first | assumption | rfl) (hb : ∀ x ∈ xs, x < 256 := by assumption) (h8 : q + 8 ≤ m := by omega) (hl : m ≤ 1099511627776 := by omega) :
    Fn Try.prog 78 #[.slice a m c, .int .i64 (p : Nat), .int .i64 (w : Nat)] (A) (fun r B => r = .int .u64 ((nm ((xs.drop q).take 8) : Nat) : Int) ∧ A = B) := by
  refine fn_enterW (args := [.slice a m c, .int .i64 (p : Nat), .int .i64 (w : Nat)]) Try.func78 rfl Try.ntmps78 (by simp) ?_
  subst hq
  refine sr ?_; refine tla ?_; refine nq ?_; refine sr ?_; refine tlm ?_; refine tlm ?_; refine tlm ?_; refine tv (by first | exact o_mulI rfl rfl (by omega) | exact o_mul rfl rfl) ?_; refine tl_env (d := 13) (v := .int .i64 ((w * 8 : Nat) : Int)) (by first | rfl | (show Value.int .i64 (IntKind.i64.wrap ((w * 8 : Nat) : Int)) = _; rw [wr_i64 (by omega)])) ?_; refine tv (by first | exact o_addI rfl rfl (by omega) | exact o_add rfl rfl) ?_; refine tl_env (d := 14) (v := .int .i64 ((p + w * 8 : Nat) : Int)) (by first | rfl | (show Value.int .i64 _ = _; congr 1; omega)) ?_; refine tl_c rfl (o_call bd70 rfl (Take64_c (p := p + w * 8) (xs := xs))) ?_; rintro _ _ ⟨rfl, rfl⟩; refine tlm ?_; refine tv (o_extract rfl rfl) ?_; refine tv (o_extract rfl rfl) ?_; refine tla ?_; refine tla ?_; refine nq ?_; refine sr ?_; refine tlm ?_; refine tla ?_; refine nq ?_; refine tc_ret ?_; exact ⟨_, A, res1 rfl rfl, Dr.sat (by repeat (first | with_reducible exact dr_refl | apply dr_keep | apply dr_drop)), rfl, rfl⟩
def rdW (o : Option ((Nat × List Nat) × Nat)) : Nat := match o with | none => 0 | some x => x.1.1
def rdO (o : Option ((Nat × List Nat) × Nat)) : List Nat := match o with | none => [] | some x => x.1.2
def rkT (o : Option ((Nat × List Nat) × Nat)) : Nat := match o with | none => 0 | some x => x.2
theorem read_short {n at_ sz p : Nat} {room : List Nat} (h : room.length < p + 24) : readS n at_ sz room p = none := by unfold readS; rw [if_pos h]
theorem read_may {n at_ sz p : Nat} {room : List Nat} (h : mayX n at_ sz ((nm ((room.drop p).take 8) : Nat), (nm ((room.drop (p + 8)).take 8) : Nat)) = false) : readS n at_ sz room p = none := by
  unfold readS
  by_cases h0 : room.length < p + 24
  · rw [if_pos h0]
  · rw [if_neg h0, if_pos h]
theorem read_need {n at_ sz p : Nat} {room : List Nat} (h : room.length < p + (24 + up8 (nm ((room.drop (p + 8)).take 8)))) : readS n at_ sz room p = none := by
  unfold readS
  by_cases h0 : room.length < p + 24
  · rw [if_pos h0]
  · rw [if_neg h0]
    by_cases h1 : mayX n at_ sz ((nm ((room.drop p).take 8) : Nat), (nm ((room.drop (p + 8)).take 8) : Nat)) = false
    · rw [if_pos h1]
    · rw [if_neg h1, if_pos h]
theorem read_bad {n at_ sz p w m : Nat} {room : List Nat} (hw : nm ((room.drop p).take 8) = w) (hm : nm ((room.drop (p + 8)).take 8) = m) (h : recS w ((room.drop (p + 24)).take m) ≠ (room.drop p).take (24 + up8 m)) : readS n at_ sz room p = none := by
  subst hw hm; unfold readS
  by_cases h0 : room.length < p + 24
  · rw [if_pos h0]
  · rw [if_neg h0]
    by_cases h1 : mayX n at_ sz ((nm ((room.drop p).take 8) : Nat), (nm ((room.drop (p + 8)).take 8) : Nat)) = false
    · rw [if_pos h1]
    · rw [if_neg h1]
      by_cases h2 : room.length < p + (24 + up8 (nm ((room.drop (p + 8)).take 8)))
      · rw [if_pos h2]
      · rw [if_neg h2, if_pos h]
theorem read_good {n at_ sz p w m : Nat} {room : List Nat} (hw : nm ((room.drop p).take 8) = w) (hm : nm ((room.drop (p + 8)).take 8) = m) (h1 : ¬ room.length < p + 24) (h2 : mayX n at_ sz ((w : Int), (m : Int)) = true) (h3 : ¬ room.length < p + (24 + up8 m)) (h : recS w ((room.drop (p + 24)).take m) = (room.drop p).take (24 + up8 m)) : readS n at_ sz room p = some ((w, (room.drop (p + 24)).take m), 24 + up8 m) := by
  subst hw hm; unfold readS; rw [if_neg h1, if_neg (by rw [h2]; decide), if_neg h3, if_neg (by rw [h]; simp)]
theorem may_big {n at_ sz w m : Nat} (hn : n ≤ 4194304) (h : 4194304 < w ∨ 4194304 < m) : mayX n at_ sz ((w : Int), (m : Int)) = false := decide_eq_false (by show ¬ ((1 : Int) ≤ (m : Int) ∧ (64 : Int) ≤ (w : Int) ∧ (w : Int) + (m : Int) ≤ (n : Int) ∧ _); omega)
theorem may_zero1 {n at_ sz w m : Nat} (h : m < 1) : mayX n at_ sz ((w : Int), (m : Int)) = false := decide_eq_false (by show ¬ ((1 : Int) ≤ (m : Int) ∧ (64 : Int) ≤ (w : Int) ∧ (w : Int) + (m : Int) ≤ (n : Int) ∧ _); omega)
theorem need_one {m : Nat} (h : 1 ≤ m) (h2 : m ≤ 4194304) : needS [(m : Int)] = (((24 + up8 m : Nat) : Int), 0) := by
  have := up8_le m
  unfold needS
  rw [needF_cons h]
  have e : rndS m = (((up8 m : Nat) : Int), 0) := by unfold rndS; have : pad8 m < 8 := (by unfold pad8; omega); rw [if_neg (by omega)]
  rw [e, if_neg (by simp only [ne_eq, not_true, false_or]; omega)]
  show ((0 : Int) + 24 + ((up8 m : Nat) : Int), (0 : Int)) = _
  congr 1
theorem need_zero : needS [((0 : Nat) : Int)] = (0, 2) := needF_bad (by decide)
set_option maxRecDepth 20000 in
set_option maxHeartbeats 2000000 in
theorem read_c {A R : SP} {C : SP → SP} {d : Nat} {s : DevS} (hc : Ct A (Dev d s) R C := by repeat (first | with_reducible exact ct_here | apply ct_left)) {bl at_ sz : Nat} (hl : Has R bl (cl (lcs11 d at_ sz) 52) := by (repeat (first | assumption | with_reducible exact has_here | with_reducible exact has_pt | apply has_left))) (hlw : LogW (s.ls.length * 64) at_ sz := by assumption) {a : Option Addr} {c rm p : Nat} {room : List Nat} (hr : Rs R a (bys room) := by repeat (first | assumption | with_reducible exact rs_sl | with_reducible exact rs_pt0 | exact rs_none | apply Rs.left)) (hm : room.length = rm := by first | assumption | rfl) (hmc : rm ≤ c := by omega) (hb : ∀ x ∈ room, x < 256 := by assumption) (hrm : rm ≤ 4194304 := by omega) (hp : p ≤ rm := by omega) :
    Fn Try.prog 58 #[.pointer (some ⟨bl, 0, none⟩), .slice a rm c, .int .i64 (p : Nat)] (A) (fun r B => ∃ a2 c2, r = .tuple #[.agg #[.int .i64 ((rdW (readS (s.ls.length * 64) at_ sz room p) : Nat) : Int), .slice a2 (rdO (readS (s.ls.length * 64) at_ sz room p)).length c2], .int .i64 ((rkT (readS (s.ls.length * 64) at_ sz room p) : Nat) : Int), .bool (readS (s.ls.length * 64) at_ sz room p).isSome] ∧ (rdO (readS (s.ls.length * 64) at_ sz room p)).length ≤ c2 ∧ B = C (Dev d s) * Sl 1 (.slice a2 (rdO (readS (s.ls.length * 64) at_ sz room p)).length c2) (rdO (readS (s.ls.length * 64) at_ sz room p)).length (bys (rdO (readS (s.ls.length * 64) at_ sz room p)))) := by
  refine fn_enterW (args := [.pointer (some ⟨bl, 0, none⟩), .slice a rm c, .int .i64 (p : Nat)]) Try.func58 rfl Try.ntmps58 (by simp) ?_; refine tc_have (fun _ _ h => ct_wf2 hc h) fun hw => ?_
  have htop := hw.top
  have hpos := hw.pos
  obtain ⟨rfl, hC⟩ := hc
  rw [hC]
  have hlw9 := hlw
  obtain ⟨w1, w2, w3, w4, w5⟩ := hlw9
  obtain ⟨w, hwq⟩ : ∃ w, (nm ((room.drop p).take 8)) = w := ⟨_, rfl⟩
  obtain ⟨m, hmq⟩ : ∃ m, (nm ((room.drop (p + 8)).take 8)) = m := ⟨_, rfl⟩
  have hw8 : w < 18446744073709551616 := hwq ▸ nm8_lt fun x hx => hb x (List.mem_of_mem_drop hx)
  have hm8 : m < 18446744073709551616 := hmq ▸ nm8_lt fun x hx => hb x (List.mem_of_mem_drop hx)
  refine sr ?_; refine tl_x rfl (o_alloc z70 rfl) ?_; rintro _ _ ⟨b6, rfl, rfl⟩; refine tla ?_; refine tla ?_; refine nq ?_; refine tc_seq ?_; refine sr ?_; refine tlm ?_; refine tv (o_len Try.underlying60 rfl) ?_; refine tlm ?_; refine tv (o_subI rfl rfl (by omega)) ?_; refine tv (o_lss rfl rfl) ?_; refine nq ?_; refine tc_cond rfl (fun h => ?_) (fun h => ?_)
  · have hsh : room.length < p + 24 := by first | omega | (simp at h; omega)
    refine sr ?_; refine tv (o_bS (l := [_, _]) pv_nil Try.underlying70 z70 (pl70 Try.underlying70) rfl) ?_; refine tl_u rfl (o_stUN rfl (by repeat (first | with_reducible exact upd_here | with_reducible exact upd_pt | apply upd_left)) sz70 rfl rfl rfl (by first | decide | simp | omega) rfl) ?_; refine tla ?_; refine tla ?_; refine nq ?_; refine tc_ret ?_; refine q_then_r ?_
    have e0 : (readS (s.ls.length * 64) at_ sz room p) = none := by exact read_short hsh
    rw [e0]
    exact ⟨.tuple #[.agg #[.int .i64 0, .slice none 0 0], .int .i64 0, .bool false], R * Dev d s * Sl 1 (.slice none 0 0) 0 [], resA3 rfl (rv_cell a70 sz70 rfl (by repeat (first | with_reducible exact has_here | with_reducible exact has_pt | apply has_left)) (by show 2 ≤ 2; decide) rfl) (rv_tmp rfl) (rv_tmp rfl), fun _ _ h => sl_nil (Dr.sat (by repeat (first | with_reducible exact dr_refl | apply dr_keep | apply dr_drop)) _ _ h), none, 0, rfl, Nat.le_refl _, rfl⟩
  · have hsh : ¬ room.length < p + 24 := by first | omega | (simp at h; omega)
    refine tc_skip ?_; refine q_then_n ?_; refine sr ?_; refine tlm ?_; refine tlm ?_; refine tl_c rfl (o_call bd78 rfl (field_c (q := p) (w := 0) (xs := room))) ?_; rintro _ _ ⟨rfl, rfl⟩; refine tl_env (d := 23) (v := .int .u64 (w : Nat)) (by show Value.int .u64 (((nm ((room.drop p).take 8)) : Nat) : Int) = _; rw [hwq]) ?_; refine tlm ?_; refine tlm ?_; refine tl_c rfl (o_call bd78 rfl (field_c (q := p + 8) (w := 1) (xs := room))) ?_; rintro _ _ ⟨rfl, rfl⟩; refine tl_env (d := 26) (v := .int .u64 (m : Nat)) (by show Value.int .u64 (((nm ((room.drop (p + 8)).take 8)) : Nat) : Int) = _; rw [hmq]) ?_; refine tla ?_; refine tla ?_; refine nq ?_; refine tc_seq ?_; refine tc_seq ?_; refine tc_cut (fun ρ BB => ∃ (bb : Bool), (bb = decide (4194304 < w ∨ 4194304 < m)) ∧ ρ 32 = .bool bb ∧ ρ 0 = .pointer (some ⟨bl, 0, none⟩) ∧ ρ 1 = .slice a rm c ∧ ρ 2 = .int .i64 (p : Nat) ∧ ρ 6 = .pointer (some ⟨b6, 0, none⟩) ∧ ρ 9 = .int .u64 (w : Nat) ∧ ρ 10 = .int .u64 (m : Nat) ∧ BB = R * Dev d s * pt b6 (cl [.int .i64 0, .slice none 0 0] 70)) ?_ ?_
    · skip
      refine tc_reg ?_; refine tlm ?_; refine tv (o_gtr rfl rfl) ?_; refine tlm ?_; refine tl_bool (d := 29) rfl (fun h => ?_) (fun h => ?_)
      · have g29 : (4194304 < w) := by first | exact of_decide_eq_true h | (have h2 := h; simp at h2; omega) | simpa using h
        refine tk ?_; refine tk ?_; refine tv (o_pick_t rfl (by conv => lhs; whnf)) ?_; refine tl_nil ?_; exact ⟨_, by first | exact (decide_eq_true (by omega)).symm | exact (decide_eq_false (by omega)).symm | (rw [decide_eq_decide]; omega), rfl, rfl, rfl, rfl, rfl, rfl, rfl, rfl⟩
      · have g29 : ¬ (4194304 < w) := by first | exact of_decide_eq_false h | (have h2 := h; simp at h2; omega) | simpa using h
        refine tlm ?_; refine tv (o_gtr rfl rfl) ?_; refine tv (o_pick_f rfl (by conv => lhs; whnf)) ?_; refine tl_nil ?_; exact ⟨_, by first | exact (decide_eq_true (by omega)).symm | exact (decide_eq_false (by omega)).symm | (rw [decide_eq_decide]; omega), rfl, rfl, rfl, rfl, rfl, rfl, rfl, rfl⟩
    · intro ρ B hI
      obtain ⟨bb, hbb0, hE32, hE0, hE1, hE2, hE6, hE9, hE10, rfl⟩ := hI
      refine q_then_n ?_; refine tc_env (d := 32) hE32 ?_; refine tc_env (d := 0) hE0 ?_; refine tc_env (d := 1) hE1 ?_; refine tc_env (d := 2) hE2 ?_; refine tc_env (d := 6) hE6 ?_; refine tc_env (d := 9) hE9 ?_; refine tc_env (d := 10) hE10 ?_
      clear hE32 hE0 hE1 hE2 hE6 hE9 hE10
      refine tc_cond rfl (fun h => ?_) (fun h => ?_)
      · have hbig := of_decide_eq_true (show decide (4194304 < w ∨ 4194304 < m) = true by rw [← hbb0]; exact h)
        refine sr ?_; refine tv (o_bS (l := [_, _]) pv_nil Try.underlying70 z70 (pl70 Try.underlying70) rfl) ?_; refine tl_u rfl (o_stUN rfl (by repeat (first | with_reducible exact upd_here | with_reducible exact upd_pt | apply upd_left)) sz70 rfl rfl rfl (by first | decide | simp | omega) rfl) ?_; refine tla ?_; refine tla ?_; refine nq ?_; refine tc_ret ?_; refine q_then_r ?_
        have e0 : (readS (s.ls.length * 64) at_ sz room p) = none := by exact read_may (by rw [hwq, hmq]; exact may_big (by omega) hbig)
        rw [e0]
        exact ⟨.tuple #[.agg #[.int .i64 0, .slice none 0 0], .int .i64 0, .bool false], R * Dev d s * Sl 1 (.slice none 0 0) 0 [], resA3 rfl (rv_cell a70 sz70 rfl (by repeat (first | with_reducible exact has_here | with_reducible exact has_pt | apply has_left)) (by show 2 ≤ 2; decide) rfl) (rv_tmp rfl) (rv_tmp rfl), fun _ _ h => sl_nil (Dr.sat (by repeat (first | with_reducible exact dr_refl | apply dr_keep | apply dr_drop)) _ _ h), none, 0, rfl, Nat.le_refl _, rfl⟩
      · have hbig := of_decide_eq_false (show decide (4194304 < w ∨ 4194304 < m) = false by rw [← hbb0]; exact h)
        refine tc_skip ?_; refine q_then_n ?_; refine sr ?_; refine tlm ?_; refine tv (o_conv Try.underlying89 Try.underlying3 rfl) ?_; refine tl_env (d := 35) (v := .int .i64 (w : Nat)) (by show Value.int .i64 (IntKind.i64.wrap _) = _; rw [wr_i64 (by omega)]) ?_; refine tlm ?_; refine tv (o_conv Try.underlying89 Try.underlying3 rfl) ?_; refine tl_env (d := 37) (v := .int .i64 (m : Nat)) (by show Value.int .i64 (IntKind.i64.wrap _) = _; rw [wr_i64 (by omega)]) ?_; refine tv (o_bS (l := [_, _]) (pv_cons (by conv => lhs; whnf) (pv_cons (by conv => lhs; whnf) pv_nil)) Try.underlying74 z74 (pl74 Try.underlying74) rfl) ?_; refine tl_x rfl (o_alloc z74 rfl) ?_; rintro _ _ ⟨b11, rfl, rfl⟩; refine tl_u rfl (o_stUN (l' := xcs ((w : Int), (m : Int))) rfl (by repeat (first | with_reducible exact upd_here | with_reducible exact upd_pt | apply upd_left)) sz74 rfl rfl rfl (by show 2 ≤ 2; decide) rfl) ?_; refine nq ?_; refine tc_seq ?_
        obtain ⟨nd, en, hnd⟩ : ∃ nd en, needS [(m : Int)] = (nd, en) := ⟨_, _, rfl⟩
        refine tc_reg ?_; refine tv (o_fieldAddr (o := 1) Try.underlying74 rfl rfl sz3 rfl) ?_; refine tv (by first | exact o_load p3 rfl (by repeat (first | with_reducible exact has_here | with_reducible exact has_pt | apply has_left)) rfl | exact o_loadC p3 rfl (by assumption)) ?_; refine tl_x rfl (o_buildSlice1 Try.underlying22 sz3 z3 (by conv => lhs; whnf) rfl) ?_; rintro _ _ ⟨b42, rfl, rfl⟩; refine tl_c rfl (o_call bd10 rfl (Need_c (xs := [(m : Int)]) (hr := show Rs _ _ [Value.int .i64 (m : Int)] from rs_pt rfl) (hx := by intro x hx; simp at hx; omega))) ?_; rintro _ _ ⟨rfl, rfl⟩; refine tlm ?_; refine tv (o_extract rfl rfl) ?_; refine tl_env (d := 44) (v := .int .i64 nd) (by show Value.int .i64 (needS [(m : Int)]).1 = _; rw [hnd]) ?_; refine tv (o_extract rfl rfl) ?_; refine tl_env (d := 45) (v := .int .i64 en) (by show Value.int .i64 (needS [(m : Int)]).2 = _; rw [hnd]) ?_; refine tla ?_; refine tla ?_; refine nq ?_; refine tc_seq ?_; refine tc_seq ?_; refine tc_cut (fun ρ BB => ∃ (bb : Bool), (bb = decide (mayX (s.ls.length * 64) at_ sz ((w : Int), (m : Int)) = false ∨ room.length < p + (24 + up8 m))) ∧ ρ 61 = .bool bb ∧ ρ 1 = .slice a rm c ∧ ρ 2 = .int .i64 (p : Nat) ∧ ρ 6 = .pointer (some ⟨b6, 0, none⟩) ∧ ρ 11 = .pointer (some ⟨b11, 0, none⟩) ∧ ρ 12 = .int .i64 nd ∧ Dr BB (R * Dev d s * pt b6 (cl [.int .i64 0, .slice none 0 0] 70) * pt b11 (cl (xcs ((w : Int), (m : Int))) 74))) ?_ ?_
        · skip
          refine tc_reg ?_; refine tlm ?_; refine tv (o_nei rfl rfl) ?_; refine tlm ?_; refine tl_bool (d := 48) rfl (fun h => ?_) (fun h => ?_)
          · have hen : en ≠ 0 := by first | exact of_decide_eq_true h | simpa using h
            have hm0 : m < 1 := by rcases Nat.lt_or_ge m 1 with h9 | h9; exact h9; rw [need_one h9 (by omega)] at hnd; simp at hnd; omega
            have hmy0 := may_zero1 (n := s.ls.length * 64) (at_ := at_) (sz := sz) (w := w) hm0
            refine tk ?_; refine tk ?_; refine tk ?_; refine tk ?_; refine tv (o_pick_t rfl (by conv => lhs; whnf)) ?_; refine tlm ?_; refine tk ?_; refine tk ?_; refine tk ?_; refine tk ?_; refine tk ?_; refine tk ?_; refine tv (o_pick_t rfl (by conv => lhs; whnf)) ?_; refine tl_nil ?_; exact ⟨_, by first | exact (decide_eq_true (.inl (by assumption))).symm | (rw [decide_eq_decide]; simp only [hmy1, Bool.true_eq_false, false_or]; omega), rfl, rfl, rfl, rfl, rfl, rfl, (by repeat (first | with_reducible exact dr_refl | apply dr_keep | apply dr_drop))⟩
          · have hen : en = 0 := by first | (have h9 := of_decide_eq_false h; omega) | (simp at h; omega)
            have hm1 : 1 ≤ m := by rcases Nat.lt_or_ge m 1 with h9 | h9; have h8 : m = 0 := (by omega); subst h8; rw [need_zero] at hnd; simp at hnd; omega; exact h9
            have hnd1 : nd = ((24 + up8 m : Nat) : Int) := by rw [need_one hm1 (by omega)] at hnd; simp only [Prod.mk.injEq] at hnd; exact hnd.1.symm
            have hxw : XW ((w : Int), (m : Int)) := ⟨by show -9223372036854775808 ≤ (w : Int) ∧ (w : Int) ≤ 9223372036854775807; omega, by show -9223372036854775808 ≤ (m : Int) ∧ (m : Int) ≤ 9223372036854775807; omega⟩
            refine tlm ?_; refine tv (o_loadN (vs := xcs ((w : Int), (m : Int))) a74 sz74 rfl (by repeat (first | with_reducible exact has_here | with_reducible exact has_pt | apply has_left)) (by show 2 ≤ 2; decide) rfl) ?_; refine tl_c rfl (o_call bd54 rfl (may11_c (s := s) (x := ((w : Int), (m : Int))) (hl := by repeat (first | assumption | apply has_left)))) ?_; rintro _ _ ⟨rfl, rfl⟩; refine tv (o_not rfl) ?_; refine tv (o_pick_f rfl (by conv => lhs; whnf)) ?_; refine tlm ?_; refine tl_bool (d := 54) rfl (fun h => ?_) (fun h => ?_)
            · have hmy : mayX (s.ls.length * 64) at_ sz ((w : Int), (m : Int)) = false := by first | assumption | simpa using h
              refine tk ?_; refine tk ?_; refine tk ?_; refine tk ?_; refine tk ?_; refine tk ?_; refine tv (o_pick_t rfl (by conv => lhs; whnf)) ?_; refine tl_nil ?_; exact ⟨_, by first | exact (decide_eq_true (.inl (by assumption))).symm | (rw [decide_eq_decide]; simp only [hmy1, Bool.true_eq_false, false_or]; omega), rfl, rfl, rfl, rfl, rfl, rfl, (by repeat (first | with_reducible exact dr_refl | apply dr_keep | apply dr_drop))⟩
            · have hmy1 : mayX (s.ls.length * 64) at_ sz ((w : Int), (m : Int)) = true := by simpa using h
              refine tlm ?_; refine tlm ?_; refine tv (o_len Try.underlying60 rfl) ?_; refine tlm ?_; refine tv (o_subI rfl rfl (by omega)) ?_; refine tv (o_gtr rfl rfl) ?_; refine tv (o_pick_f rfl (by conv => lhs; whnf)) ?_; refine tl_nil ?_; exact ⟨_, by first | exact (decide_eq_true (.inl (by assumption))).symm | (rw [decide_eq_decide]; simp only [hmy1, Bool.true_eq_false, false_or]; omega), rfl, rfl, rfl, rfl, rfl, rfl, (by repeat (first | with_reducible exact dr_refl | apply dr_keep | apply dr_drop))⟩
        · intro ρ B hI
          obtain ⟨bb, hbc0, hE61, hE1, hE2, hE6, hE11, hE12, hBA⟩ := hI
          refine q_then_n ?_; refine tc_pre hBA.sat ?_
          clear hBA
          refine tc_env (d := 61) hE61 ?_; refine tc_env (d := 1) hE1 ?_; refine tc_env (d := 2) hE2 ?_; refine tc_env (d := 6) hE6 ?_; refine tc_env (d := 11) hE11 ?_; refine tc_env (d := 12) hE12 ?_
          clear hE61 hE1 hE2 hE6 hE11 hE12
          refine tc_cond rfl (fun h => ?_) (fun h => ?_)
          · have hor := of_decide_eq_true (show decide (mayX (s.ls.length * 64) at_ sz ((w : Int), (m : Int)) = false ∨ room.length < p + (24 + up8 m)) = true by rw [← hbc0]; exact h)
            refine sr ?_; refine tv (o_bS (l := [_, _]) pv_nil Try.underlying70 z70 (pl70 Try.underlying70) rfl) ?_; refine tl_u rfl (o_stUN rfl (by repeat (first | with_reducible exact upd_here | with_reducible exact upd_pt | apply upd_left)) sz70 rfl rfl rfl (by first | decide | simp | omega) rfl) ?_; refine tla ?_; refine tla ?_; refine nq ?_; refine tc_ret ?_; refine q_then_r ?_
            have e0 : (readS (s.ls.length * 64) at_ sz room p) = none := by rcases hor with h9 | h9; exact read_may (by rw [hwq, hmq]; exact h9); exact read_need (by rw [hmq]; exact h9)
            rw [e0]
            exact ⟨.tuple #[.agg #[.int .i64 0, .slice none 0 0], .int .i64 0, .bool false], R * Dev d s * Sl 1 (.slice none 0 0) 0 [], resA3 rfl (rv_cell a70 sz70 rfl (by repeat (first | with_reducible exact has_here | with_reducible exact has_pt | apply has_left)) (by show 2 ≤ 2; decide) rfl) (rv_tmp rfl) (rv_tmp rfl), fun _ _ h => sl_nil (Dr.sat (by repeat (first | with_reducible exact dr_refl | apply dr_keep | apply dr_drop)) _ _ h), none, 0, rfl, Nat.le_refl _, rfl⟩
          · have hor := of_decide_eq_false (show decide (mayX (s.ls.length * 64) at_ sz ((w : Int), (m : Int)) = false ∨ room.length < p + (24 + up8 m)) = false by rw [← hbc0]; exact h)
            have hmy : mayX (s.ls.length * 64) at_ sz ((w : Int), (m : Int)) = true := by rcases hb9 : mayX (s.ls.length * 64) at_ sz ((w : Int), (m : Int)) with _ | _; exact absurd (.inl hb9) hor; rfl
            have hnr : ¬ room.length < p + (24 + up8 m) := fun h9 => hor (.inr h9)
            have hm1 : 1 ≤ m := by rcases Nat.lt_or_ge m 1 with h9 | h9; rw [may_zero1 h9] at hmy; exact absurd hmy (by decide); exact h9
            have hup := up8_le m
            rw [need_one hm1 (by omega)] at hnd
            obtain ⟨rfl, rfl⟩ : ((24 + up8 m : Nat) : Int) = nd ∧ (0 : Int) = en := by simpa using hnd
            obtain ⟨old, hold⟩ : ∃ old, ((room.drop (p + 24)).take m) = old := ⟨_, rfl⟩
            have holl : old.length = m := by rw [← hold, List.length_take, List.length_drop]; omega
            have hob : ∀ x ∈ old, x < 256 := fun x hx => hb x (List.mem_of_mem_drop (List.mem_of_mem_take (hold.symm ▸ hx)))
            refine tc_skip ?_; refine q_then_n ?_; refine sr ?_; refine tlm ?_; refine tlm ?_; refine tv (by first | exact o_addI rfl rfl (by omega) | exact o_add rfl rfl) ?_; refine tl_env (d := 65) (v := .int .i64 ((p + 24 : Nat) : Int)) (by first | rfl | (show Value.int .i64 _ = _; congr 1; omega)) ?_; refine tlm ?_; refine tv (by first | exact o_addI rfl rfl (by omega) | exact o_add rfl rfl) ?_; refine tl_env (d := 67) (v := .int .i64 ((p + 24 : Nat) : Int)) (by first | rfl | (show Value.int .i64 _ = _; congr 1; omega)) ?_; refine tv (o_fieldAddr (o := 1) Try.underlying74 rfl rfl sz3 rfl) ?_; refine tv (by first | exact o_load p3 rfl (by repeat (first | with_reducible exact has_here | with_reducible exact has_pt | apply has_left)) rfl | exact o_loadC p3 rfl (by assumption)) ?_; refine tv (by first | exact o_addI rfl rfl (by omega) | exact o_add rfl rfl) ?_; refine tl_env (d := 70) (v := .int .i64 ((p + 24 + m : Nat) : Int)) (by first | rfl | (show Value.int .i64 _ = _; congr 1; omega)) ?_; refine tv (o_slice (l := p + 24) (h := p + 24 + m) Try.underlying60 sz5 rfl (bnd_nat rfl) (bnd_nat rfl) (by omega) (by omega)) ?_; refine tl_env (d := 71) (v := .slice (cutAddr a c (p + 24) 1) m (c - (p + 24))) (by show Value.slice (cutAddr a c (p + 24) 1) (p + 24 + m - (p + 24)) (c - (p + 24)) = _; rw [show p + 24 + m - (p + 24) = m by omega]) ?_
            refine tl_c rfl (o_call bd79 rfl (CloneB_c (l := old) (n := m) (hr := by rw [← hold]; exact (rs_mid (l := p + 24) (m := m) hr (by omega)).left.left.left))) ?_; rintro _ _ ⟨a72, c72, rfl, hc72, rfl⟩; refine tla ?_; refine nq ?_; refine tc_seq ?_; refine tc_seq ?_; refine tc_regh (S := R * Dev d s * pt b6 (cl [.int .i64 0, .slice none 0 0] 70) * pt b11 (cl (xcs ((w : Int), (m : Int))) 74) * Sl 1 (.slice a72 m c72) m (bys old)) mo (by repeat (first | with_reducible exact dr_refl | apply dr_keep | apply dr_drop)) ?_
            show TH _ _ _ _ _ 12 #[ff,ff,ff,ff,ff,ff,ff,ff,ff,ff,ff,ff] _ _
            refine th_take (i := 0) (listed' := #[tt,ff,ff,ff,ff,ff,ff,ff,ff,ff,ff,ff]) rfl (by kernel_rfl) (by kernel_rfl) (by kernel_rfl) rfl rfl (o_fieldAddr (o := 0) Try.underlying74 rfl rfl sz3 rfl) ?_; refine th_take (i := 1) (listed' := #[tt,tt,ff,ff,ff,ff,ff,ff,ff,ff,ff,ff]) rfl (by kernel_rfl) (by kernel_rfl) (by kernel_rfl) rfl rfl (by first | exact o_load p3 rfl (by repeat (first | with_reducible exact has_here | with_reducible exact has_pt | apply has_left)) rfl | exact o_loadC p3 rfl (by assumption)) ?_; refine th_take (i := 2) (listed' := #[tt,tt,tt,ff,ff,ff,ff,ff,ff,ff,ff,ff]) rfl (by kernel_rfl) (by kernel_rfl) (by kernel_rfl) rfl rfl (o_move (by conv => lhs; whnf)) ?_; refine th_take (i := 4) (listed' := #[tt,tt,tt,ff,tt,ff,ff,ff,ff,ff,ff,ff]) rfl (by kernel_rfl) (by kernel_rfl) (by kernel_rfl) rfl rfl (o_move (by conv => lhs; whnf)) ?_; refine th_take (i := 5) (listed' := #[tt,tt,tt,ff,tt,tt,ff,ff,ff,ff,ff,ff]) rfl (by kernel_rfl) (by kernel_rfl) (by kernel_rfl) rfl rfl (o_move (by conv => lhs; whnf)) ?_; refine th_take (i := 6) (listed' := #[tt,tt,tt,ff,tt,tt,tt,ff,ff,ff,ff,ff]) rfl (by kernel_rfl) (by kernel_rfl) (by kernel_rfl) rfl rfl (o_move (by conv => lhs; whnf)) ?_; refine th_take (i := 7) (listed' := #[tt,tt,tt,ff,tt,tt,tt,tt,ff,ff,ff,ff]) rfl (by kernel_rfl) (by kernel_rfl) (by kernel_rfl) rfl rfl (o_move (by conv => lhs; whnf)) ?_; refine th_take (i := 8) (listed' := #[tt,tt,tt,ff,tt,tt,tt,tt,tt,ff,ff,ff]) rfl (by kernel_rfl) (by kernel_rfl) (by kernel_rfl) rfl rfl (by first | exact o_addI rfl rfl (by omega) | exact o_add rfl rfl) ?_
            refine th_env (d := 81) (v := .int .i64 ((p + (24 + up8 m) : Nat) : Int)) (by first | rfl | (show Value.int .i64 _ = _; congr 1; omega)) ?_; refine th_take (i := 9) (listed' := #[tt,tt,tt,ff,tt,tt,tt,tt,tt,tt,ff,ff]) rfl (by kernel_rfl) (by kernel_rfl) (by kernel_rfl) rfl rfl (o_slice (l := p) (h := p + (24 + up8 m)) Try.underlying60 sz5 rfl (bnd_nat rfl) (bnd_nat rfl) (by omega) (by omega)) ?_; refine th_env (d := 82) (v := .slice (cutAddr a c p 1) (24 + up8 m) (c - p)) (by show Value.slice (cutAddr a c p 1) (p + (24 + up8 m) - p) (c - p) = _; rw [show p + (24 + up8 m) - p = 24 + up8 m by omega]) ?_; refine th_one (i := 3) (by kernel_rfl) ?_; refine oh_c (i := 3) (listed' := #[tt,tt,tt,tt,tt,tt,tt,tt,tt,tt,ff,ff]) rfl rfl rfl (o_call bd55 rfl (record_c (p := w) (m := m) (xs := old) (hm := holl))) ?_; rintro _ _ ⟨a76, c76, rfl, hc76, rfl⟩; refine ⟨by repeat (first | with_reducible exact dr_refl | apply dr_keep | apply dr_drop), ?_⟩; refine th_one (i := 10) (by kernel_rfl) ?_; refine oh_c (i := 10) (listed' := #[tt,tt,tt,tt,tt,tt,tt,tt,tt,tt,tt,ff]) rfl rfl rfl (o_call bd80 rfl (EqualB_c (xs := recS w old) (ys := (room.drop p).take (24 + up8 m)) (hx := by rw [recS_len, holl]) (hy := by rw [List.length_take, List.length_drop]; omega) (h2 := (rs_mid (l := p) (m := 24 + up8 m) hr (by omega)).left.left.left.left.left))) ?_; rintro _ _ ⟨rfl, rfl⟩; refine ⟨by repeat (first | with_reducible exact dr_refl | apply dr_keep | apply dr_drop), ?_⟩
            refine th_take (i := 11) (listed' := #[tt,tt,tt,tt,tt,tt,tt,tt,tt,tt,tt,tt]) rfl (by kernel_rfl) (by kernel_rfl) (by kernel_rfl) rfl rfl (o_not rfl) ?_; refine th_done (by kernel_rfl) ?_; refine q_then_n ?_; refine tc_cond rfl (fun h => ?_) (fun h => ?_)
            · have hne : recS w old ≠ (room.drop p).take (24 + up8 m) := fun e => by rw [e] at h; simp at h
              refine sr ?_; refine tv (o_bS (l := [_, _]) pv_nil Try.underlying70 z70 (pl70 Try.underlying70) rfl) ?_; refine tl_u rfl (o_stUN rfl (by repeat (first | with_reducible exact upd_here | with_reducible exact upd_pt | apply upd_left)) sz70 rfl rfl rfl (by first | decide | simp | omega) rfl) ?_; refine tla ?_; refine tla ?_; refine nq ?_; refine tc_ret ?_; refine q_then_r ?_
              have e0 : (readS (s.ls.length * 64) at_ sz room p) = none := by exact read_bad hwq hmq (by rw [hold]; exact hne)
              rw [e0]
              exact ⟨.tuple #[.agg #[.int .i64 0, .slice none 0 0], .int .i64 0, .bool false], R * Dev d s * Sl 1 (.slice none 0 0) 0 [], resA3 rfl (rv_cell a70 sz70 rfl (by repeat (first | with_reducible exact has_here | with_reducible exact has_pt | apply has_left)) (by show 2 ≤ 2; decide) rfl) (rv_tmp rfl) (rv_tmp rfl), fun _ _ h => sl_nil (Dr.sat (by repeat (first | with_reducible exact dr_refl | apply dr_keep | apply dr_drop)) _ _ h), none, 0, rfl, Nat.le_refl _, rfl⟩
            · have heq : recS w old = (room.drop p).take (24 + up8 m) := by simpa using h
              refine tc_skip ?_; refine q_then_n ?_; refine sr ?_; refine tv (o_fieldAddr (o := 0) Try.underlying74 rfl rfl sz3 rfl) ?_; refine tv (by first | exact o_load p3 rfl (by repeat (first | with_reducible exact has_here | with_reducible exact has_pt | apply has_left)) rfl | exact o_loadC p3 rfl (by assumption)) ?_; refine tlm ?_; refine tv (o_bS (l := [_, _]) (pv_cons (by conv => lhs; whnf) (pv_cons (by conv => lhs; whnf) pv_nil)) Try.underlying70 z70 (pl70 Try.underlying70) rfl) ?_; refine tlm ?_; refine tl_u rfl (o_stUN (l' := [.int .i64 (w : Int), .slice a72 m c72]) rfl (by repeat (first | with_reducible exact upd_here | with_reducible exact upd_pt | apply upd_left)) sz70 rfl rfl rfl (by show 2 ≤ 2; decide) rfl) ?_; refine tla ?_; refine tla ?_; refine nq ?_; refine tc_ret ?_
              have e0 : (readS (s.ls.length * 64) at_ sz room p) = some ((w, old), 24 + up8 m) := by rw [← hold]; exact read_good hwq hmq hsh hmy hnr (by rw [hold]; exact heq)
              rw [e0]
              exact ⟨.tuple #[.agg #[.int .i64 (w : Int), .slice a72 m c72], .int .i64 ((24 + up8 m : Nat) : Int), .bool true], R * Dev d s * Sl 1 (.slice a72 m c72) m (bys old), resA3 rfl (rv_cell a70 sz70 rfl (by repeat (first | with_reducible exact has_here | with_reducible exact has_pt | apply has_left)) (by show 2 ≤ 2; decide) rfl) (rv_tmp rfl) (rv_tmp rfl), Dr.sat (by repeat (first | with_reducible exact dr_refl | apply dr_keep | apply dr_drop)), a72, c72, by show _ = Value.tuple #[.agg #[.int .i64 (w : Int), .slice a72 old.length c72], _, _]; rw [holl]; rfl, by show old.length ≤ c72; rw [holl]; exact hc72, by show _ = R * Dev d s * Sl 1 (.slice a72 old.length c72) old.length (bys old); rw [holl]⟩
end Go.Vl
