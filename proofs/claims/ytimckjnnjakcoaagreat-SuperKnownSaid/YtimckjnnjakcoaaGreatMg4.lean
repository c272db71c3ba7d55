/- What the row rests on, part 4: a calculus of assertions, walks of functions over it, and plain laws. Conditions: none. -/
import Derived.Deep.QuietTactic
import Derived.BigQuiet
import Derived.WalkKit
import Derived.Test.YtimckjnnjakcoaaGreatProg
import Derived.OrdersHeld
import Derived.Laws.BytesArg
import Derived.RangeFuncRecord
import Derived.TacticsIn
import Derived.Deep.Slices
import Derived.OpenShut
import Derived.ChangeArms
import Derived.SizedLaws
import Derived.ChangeSame
import Derived.Test.YtimckjnnjakcoaaGreatRows
import Derived.Test.YtimckjnnjakcoaaGreatMg3
set_option linter.unusedVariables false
set_option linter.unusedSimpArgs false
namespace Go.Vl
open Go Go.Proofs
/-- Every line has one content alone. -/
def Cln (s : DevS) : Prop := ∀ l ∈ s.ls, l.st.length = 1
def chunk (q : Nat) (I : List Nat) : List Nat := (I.drop (q * 64)).take 64
/-- Every content of every line is as X says. -/
def Poss (X : Nat → List Nat → Prop) (s : DevS) : Prop := ∀ (q : Nat) (l : LineS), s.ls[q]? = some l → ∀ σ ∈ l.st, X q (lb σ)
theorem img_chk {s : DevS} (hw : WfD s) {q : Nat} (hq : q < s.ls.length) : chunk q (imgS s) = lb (seenL s.ls[q]) := by
  have h1 := img_at hw.line hq
  unfold chunk imgS
  rw [h1, ← seen8 (hw.line _ (List.getElem_mem hq)), List.take_left]
theorem poss_img {X : Nat → List Nat → Prop} {s : DevS} (hw : WfD s) (h : Poss X s) {q : Nat} (hq : q < s.ls.length) : X q (chunk q (imgS s)) := by
  rw [img_chk hw hq]; exact h q _ (List.getElem?_eq_getElem hq) _ (seenL_mem (hw.line _ (List.getElem_mem hq)))
theorem poss_sub {X : Nat → List Nat → Prop} {s s' : DevS} (h : Poss X s) (hs : ∀ (q : Nat) (l' : LineS), s'.ls[q]? = some l' → ∃ l : LineS, s.ls[q]? = some l ∧ ∀ σ ∈ l'.st, σ ∈ l.st) : Poss X s' := fun q l' hl' σ hσ => by
  obtain ⟨l, hl, hsub⟩ := hs _ _ hl'
  exact h q l hl σ (hsub σ hσ)
/-- Where each line has one content, that is what is seen. -/
theorem poss_cln {X : Nat → List Nat → Prop} {s : DevS} (hw : WfD s) (hc : Cln s) (h : ∀ q, q < s.ls.length → X q (chunk q (imgS s))) : Poss X s := fun q l hl σ hσ => by
  obtain ⟨hq, rfl⟩ := List.getElem?_eq_some_iff.1 hl
  have := h q hq
  rw [img_chk hw hq] at this
  have h1 := hc _ (List.getElem_mem hq)
  have e : σ = seenL s.ls[q] := by
    rw [seenL_eq (by omega)]
    obtain ⟨k, hk, rfl⟩ := List.mem_iff_getElem.1 hσ
    congr 1; omega
  rw [e]; exact this
theorem goes_sub {kp : List Int} {s : DevS} (hw : WfD s) (q : Nat) (l' : LineS) (hl' : (goesS kp s).ls[q]? = some l') : ∃ l : LineS, s.ls[q]? = some l ∧ (∀ σ ∈ l'.st, σ ∈ l.st) ∧ l'.st.length = 1 := by
  simp only [goesS, goPart, List.getElem?_mapIdx] at hl'
  cases e : s.ls[q]? with
  | none => rw [e] at hl'; cases hl'
  | some l =>
    rw [e] at hl'
    simp only [Option.map_some, Option.some.injEq] at hl'
    have hq := (List.getElem?_eq_some_iff.1 e).1
    subst hl'
    rw [if_pos hq]
    refine ⟨l, rfl, fun σ hσ => ?_, rfl⟩
    have hp : 0 < l.st.length := List.length_pos_iff.2 (hw.line l (List.mem_of_getElem? e)).ne
    have hk := kOf_lt (keep := kp) (i := q) hp
    simp only [goL, List.mem_singleton] at hσ
    rw [hσ]; simp [List.getD, hk]
theorem goes_poss {kp : List Int} {s : DevS} {X : Nat → List Nat → Prop} (hw : WfD s) (h : Poss X s) : Poss X (goesS kp s) := poss_sub h fun q l' hl' => by
  obtain ⟨l, h1, h2, _⟩ := goes_sub hw q l' hl'; exact ⟨l, h1, h2⟩
theorem goes_cln {kp : List Int} {s : DevS} (hw : WfD s) : Cln (goesS kp s) := fun l hl => by
  obtain ⟨q, hq, rfl⟩ := List.mem_iff_getElem.1 hl
  obtain ⟨_, _, _, h⟩ := goes_sub hw q _ (List.getElem?_eq_getElem hq); exact h
/-- The state behind a loss. -/
def Lost (X : Nat → List Nat → Prop) (n : Nat) (s : DevS) : Prop := s.off = true ∧ WfD s ∧ Cln s ∧ Poss X s ∧ s.ls.length = n
theorem done_loss {X : Nat → List Nat → Prop} {s : DevS} (hw : WfD s) (h : Poss X s) : (doneE s = 0 ∧ (doneS s).ls = s.ls ∧ (doneS s).off = s.off) ∨ (doneE s = 5 ∧ Lost X s.ls.length (doneS s)) := by
  have hw' := doneS_wf hw
  have hl := doneS_len s
  unfold Lost doneE doneS at *
  cases e : s.arms with
  | nil => exact .inl ⟨rfl, rfl, rfl⟩
  | cons a ar =>
    simp only [e] at hw' hl ⊢
    by_cases c : wr64 (s.cnt + 1) < a.1
    · rw [if_pos c, if_pos c]; exact .inl ⟨rfl, rfl, rfl⟩
    · rw [if_neg c] at hw' hl
      rw [if_neg c, if_neg c]
      have hw2 : WfD { s with ops := wr64 (s.ops + 1), arms := ar, cnt := 0 } := by
        refine ⟨hw.pos, hw.top, hw.line, ?_, ?_, ?_⟩
        · have := hw.arms; rw [e] at this; simp at this ⊢; omega
        · intro x hx; exact hw.after x (by rw [e]; exact List.mem_cons_of_mem _ hx)
        · intro x hx; exact hw.keeps x (by rw [e]; exact List.mem_cons_of_mem _ hx)
      exact .inr ⟨rfl, rfl, hw', goes_cln hw2, goes_poss hw2 h, hl⟩
theorem chunk_spl {I b : List Nat} {p q : Nat} (hp : p + b.length ≤ I.length) (h : (q + 1) * 64 ≤ p ∨ p + b.length ≤ q * 64) : chunk q (spl I p b) = chunk q I := by
  unfold chunk
  apply List.ext_getElem?
  intro i
  rw [List.getElem?_take, List.getElem?_take]
  by_cases hi : i < 64
  · rw [if_pos hi, if_pos hi, List.getElem?_drop, List.getElem?_drop, spl_at hp, if_neg (by omega)]
  · rw [if_neg hi, if_neg hi]
theorem poss_lay {X : Nat → List Nat → Prop} {s : DevS} {q v : Nat} (h : Poss X s) (hi : q / 64 < s.ls.length) (hw : WfD (layS q v s)) (hX : X (q / 64) (chunk (q / 64) (imgS (layS q v s)))) : Poss X (layS q v s) := fun j l' hl' σ hσ => by
  have hl2 := hl'
  rw [layS_ls hi] at hl'
  by_cases e : j = q / 64
  · subst e
    have hq' : q / 64 < (layS q v s).ls.length := by rw [layS_len']; omega
    rw [img_chk hw hq'] at hX
    have e0 : (layS q v s).ls[q / 64] = l' := by rw [List.getElem?_eq_getElem hq'] at hl2; exact Option.some.inj hl2
    rw [List.getElem?_set_self hi] at hl'
    have e2 := Option.some.inj hl'
    have hσ' : σ ∈ s.ls[q / 64].st ++ [(seenL s.ls[q / 64]).set (q % 64 / 8) v] := by rw [← e2] at hσ; exact hσ
    rcases List.mem_append.1 hσ' with h1 | h1
    · exact h _ _ (List.getElem?_eq_getElem hi) σ h1
    · rw [List.mem_singleton] at h1
      rw [e0, ← e2] at hX
      unfold layL at hX
      rw [seenL_app] at hX
      rw [h1]; exact hX
  · rw [List.getElem?_set_ne (Ne.symm e)] at hl'
    exact h j _ hl' σ hσ
/-- What holds behind a store that went well, seen from before. -/
def Went (X : Nat → List Nat → Prop) (p m : Nat) (s s2 : DevS) : Prop := s2.off = false ∧ WfD s2 ∧ Poss X s2 ∧ s2.ls.length = s.ls.length ∧ ∀ q : Nat, (q + 1) * 64 ≤ p ∨ p + m ≤ q * 64 → s2.ls[q]? = s.ls[q]?
theorem storeF_loss {X : Nat → List Nat → Prop} : ∀ (m : Nat) {p r : Nat} {b : List Nat} {s : DevS}, b.length = m → WfD s → s.off = false → (∀ x ∈ b, x < 256) → Room (r + m) s → p + m ≤ s.ls.length * 64 → Poss X s →
    (∀ k q, 0 < k → k ≤ m → ((p + k) % 8 = 0 ∨ k = m) → q < s.ls.length → X q (chunk q (spl (imgS s) p (b.take k)))) →
    ∃ e s2, storeF b.length p b s = (e, s2) ∧ ((e = 0 ∧ Went X p m s s2 ∧ Room r s2 ∧ imgS s2 = spl (imgS s) p b) ∨ (e = 5 ∧ Lost X s.ls.length s2)) := by
  intro m
  induction m using Nat.strongRecOn with
  | _ m ih =>
    intro p r b s hm hw hO hb hroom hp hP hX
    by_cases h0 : b = []
    · subst h0
      have : m = 0 := by simpa using hm.symm
      subst this
      exact ⟨0, s, storeF_nil _ _ _, .inl ⟨rfl, ⟨hO, hw, hP, rfl, fun _ _ => rfl⟩, fun l hl => by have := hroom l hl; omega, (spl_nil _ _).symm⟩⟩
    · have hpos : 0 < b.length := List.length_pos_iff.2 h0
      have hi : p / 64 < s.ls.length := by omega
      have hr1 : Room 1 s := fun l hl => by have := hroom l hl; omega
      have hwL := layS_wf (at_ := p - p % 8) hw hr1 (stW_nm (p := p) (s := s) hb)
      have himg := img_stW (p := p) hw hi hb hr1
      have hil := img_length hw.line
      have hlen : (layS (p - p % 8) (nm (stW p b s)) s).ls.length = s.ls.length := layS_len _ _ _
      have ht : (b.take (8 - p % 8)).length = min b.length (8 - p % 8) := by rw [List.length_take]; omega
      have hk : (b.drop (8 - p % 8)).length = m - min m (8 - p % 8) := by rw [List.length_drop]; omega
      have hqe : (p - p % 8) / 64 = p / 64 := by omega
      have hP1 : Poss X (layS (p - p % 8) (nm (stW p b s)) s) := by
        refine poss_lay hP (by omega) hwL ?_
        rw [himg, hqe]
        by_cases hlt : m ≤ 8 - p % 8
        · have := hX m (p / 64) (by omega) (by omega) (.inr rfl) hi
          rw [← hm, List.take_length] at this
          rw [List.take_of_length_le (by omega)]; exact this
        · exact hX (8 - p % 8) (p / 64) (by omega) (by omega) (.inl (by omega)) hi
      rw [storeF_step h0]
      rcases done_loss hwL hP1 with ⟨h1, h2, h3⟩ | ⟨h1, h2⟩
      · rw [h1, if_neg (by decide)]
        have hoff : (doneS (layS (p - p % 8) (nm (stW p b s)) s)).off = false := by rw [h3]; unfold layS; rw [(onLine_fields _ _ s).2.2.2.1]; exact hO
        have hI2 : imgS (doneS (layS (p - p % 8) (nm (stW p b s)) s)) = spl (imgS s) p (b.take (8 - p % 8)) := by unfold imgS; rw [h2]; exact himg
        have hroom2 : Room (r + (m - min m (8 - p % 8))) (doneS (layS (p - p % 8) (nm (stW p b s)) s)) := fun l hl => by
          rw [h2] at hl
          have := onLine_room (r := r + m - 1) (f := layL ((p - p % 8) % 64 / 8) (nm (stW p b s))) (i := (p - p % 8) / 64) (fun l hl => by have := hroom l hl; omega) (fun l => by simp [layL]) l hl
          omega
        have hX2 : ∀ k q, 0 < k → k ≤ m - min m (8 - p % 8) → ((p + min b.length (8 - p % 8) + k) % 8 = 0 ∨ k = m - min m (8 - p % 8)) → q < (doneS (layS (p - p % 8) (nm (stW p b s)) s)).ls.length →
            X q (chunk q (spl (imgS (doneS (layS (p - p % 8) (nm (stW p b s)) s))) (p + min b.length (8 - p % 8)) ((b.drop (8 - p % 8)).take k))) := fun k q k0 k1 k2 hq => by
          rw [hI2, ← ht, spl_spl (by rw [ht, List.length_take, List.length_drop]; unfold imgS; omega)]
          have e : b.take (8 - p % 8) ++ (b.drop (8 - p % 8)).take k = b.take (8 - p % 8 + k) := by rw [← List.take_add]
          rw [e]
          refine hX _ q (by omega) (by omega) (by omega) (by rw [h2, hlen] at hq; exact hq)
        obtain ⟨e, s2, g1, g2⟩ := ih (m - min m (8 - p % 8)) (by omega) (p := p + min b.length (8 - p % 8)) (r := r) (b := b.drop (8 - p % 8)) (s := doneS (layS (p - p % 8) (nm (stW p b s)) s))
          hk (doneS_wf hwL) hoff (fun x hx => hb x (List.mem_of_mem_drop hx)) hroom2 (by rw [h2, hlen]; omega) (fun q l hl σ hσ => by rw [h2] at hl; exact hP1 q l hl σ hσ) hX2
        refine ⟨e, s2, g1, ?_⟩
        rcases g2 with ⟨a1, ⟨a2, a3, a4, a5, a6⟩, a7, a8⟩ | ⟨a1, a2⟩
        · left
          refine ⟨a1, ⟨a2, a3, a4, by rw [a5, h2, hlen], fun q hq => ?_⟩, a7, ?_⟩
          · rw [a6 q (by omega), h2, layS_ls (by omega)]
            exact List.getElem?_set_ne (by omega)
          · rw [a8, hI2, ← ht, spl_spl (by rw [ht, List.length_drop]; unfold imgS; omega), List.take_append_drop]
        · right
          rw [h2, hlen] at a2; exact ⟨a1, a2⟩
      · rw [h1, if_pos (by decide)]
        exact ⟨5, _, rfl, .inr ⟨rfl, by rw [hlen] at h2; exact h2⟩⟩
theorem flF_loss {X : Nat → List Nat → Prop} : ∀ (k q : Nat) (s : DevS), WfD s → s.off = false → Poss X s → q + k ≤ s.ls.length →
    ∃ e s2, flF k q s = (e, s2) ∧ ((e = 0 ∧ s2.off = false ∧ WfD s2 ∧ s2.ls = (flsh k q s.ls).map fenceL) ∨ (e = 5 ∧ Lost X s.ls.length s2))
  | 0, q, s, hw, hO, hP, h => by
    have hw2 : WfD (fenceS s) := ⟨by simp [fenceS]; exact hw.pos, by simp [fenceS]; exact hw.top, fun l hl => by
      simp only [fenceS, List.mem_map] at hl
      obtain ⟨l0, h0, rfl⟩ := hl
      exact fenceL_wf (hw.line l0 h0), hw.arms, hw.after, hw.keeps⟩
    have hP2 : Poss X (fenceS s) := poss_sub hP fun q l' hl' => by
      obtain ⟨l, h1, rfl⟩ := fence_get hl'; exact ⟨l, h1, fence_mem⟩
    rw [flF_zero]
    unfold fe
    rw [if_neg (by rw [hO]; decide), flsh_zero]
    rcases done_loss hw2 hP2 with ⟨h1, h2, h3⟩ | ⟨h1, h2⟩
    · exact ⟨_, _, rfl, .inl ⟨h1, by rw [h3]; exact hO, doneS_wf hw2, h2⟩⟩
    · exact ⟨_, _, rfl, .inr ⟨h1, by have e : (fenceS s).ls.length = s.ls.length := by simp [fenceS]
                                     rw [e] at h2; exact h2⟩⟩
  | k + 1, q, s, hw, hO, hP, h => by
    have hq : q < s.ls.length := by omega
    have hs : flushS (q * 64) s = { s with ls := s.ls.set q (flushL s.ls[q]) } := by
      unfold flushS; rw [show q * 64 / 64 = q by omega, onLine_at hq]
    have hwF := flushS_wf (p := q * 64) hw
    have hPF : Poss X (flushS (q * 64) s) := poss_sub hP fun j l' hl' => by
      rw [hs] at hl'
      by_cases e : q = j
      · subst e
        rw [List.getElem?_set_self hq] at hl'
        have := Option.some.inj hl'
        subst this
        exact ⟨_, List.getElem?_eq_getElem hq, fun σ h => h⟩
      · rw [List.getElem?_set_ne e] at hl'
        exact ⟨l', hl', fun σ h => h⟩
    have hlF : (flushS (q * 64) s).ls.length = s.ls.length := by rw [hs]; simp
    have hf1 : fl1 ((q * 64 : Nat) : Int) s = (doneE (flushS (q * 64) s), doneS (flushS (q * 64) s)) := by
      unfold fl1
      rw [hO, rdy_ok (by omega) (by omega) (by omega), if_neg (by simp), Int.toNat_natCast]
    show ∃ e s2, (if (fl1 ((q * 64 : Nat) : Int) s).1 ≠ 0 then fl1 ((q * 64 : Nat) : Int) s else flF k (q + 1) (fl1 ((q * 64 : Nat) : Int) s).2) = (e, s2) ∧ _
    rw [hf1]
    rcases done_loss hwF hPF with ⟨h1, h2, h3⟩ | ⟨h1, h2⟩
    · simp only []
      rw [h1, if_neg (by decide)]
      obtain ⟨e, s2, g1, g2⟩ := flF_loss (X := X) k (q + 1) (doneS (flushS (q * 64) s)) (doneS_wf hwF) (by rw [h3, hs]; exact hO) (fun j l hl σ hσ => by rw [h2] at hl; exact hPF j l hl σ hσ) (by rw [h2, hlF]; omega)
      refine ⟨e, s2, g1, ?_⟩
      rcases g2 with ⟨a1, a2, a3, a4⟩ | ⟨a1, a2⟩
      · exact .inl ⟨a1, a2, a3, by rw [a4, h2, hs]; simp only []; rw [flsh_step hq]⟩
      · exact .inr ⟨a1, by rw [h2, hlF] at a2; exact a2⟩
    · simp only []
      rw [h1, if_pos (by decide)]
      exact ⟨5, _, rfl, .inr ⟨rfl, by rw [hlF] at h2; exact h2⟩⟩
theorem lastS_loss {X : Nat → List Nat → Prop} {p m : Nat} {s : DevS} (hw : WfD s) (hO : s.off = false) (hP : Poss X s) (h1 : 1 ≤ m) (hp : p + m ≤ s.ls.length * 64) (hc : ∀ (q : Nat) (l : LineS), (q + 1) * 64 ≤ p ∨ p + m ≤ q * 64 → s.ls[q]? = some l → l.st.length = 1) :
    ∃ e s2, lastS p m s = (e, s2) ∧ ((e = 0 ∧ s2.off = false ∧ WfD s2 ∧ Cln s2 ∧ s2.ls.length = s.ls.length ∧ imgS s2 = imgS s) ∨ (e = 5 ∧ Lost X s.ls.length s2)) := by
  obtain ⟨e, s2, g1, g2⟩ := flF_loss (X := X) ((p + m - 1) / 64 - p / 64 + 1) (p / 64) s hw hO hP (by omega)
  refine ⟨e, s2, g1, ?_⟩
  rcases g2 with ⟨a1, a2, a3, a4⟩ | h
  · left
    have hwf : ∀ l ∈ flsh ((p + m - 1) / 64 - p / 64 + 1) (p / 64) s.ls, WfL l := flsh_wf hw.line
    refine ⟨a1, a2, a3, fun l' hl' => ?_, by rw [a4, List.length_map, flsh_len], ?_⟩
    · rw [a4] at hl'
      obtain ⟨q, hq, rfl⟩ := List.mem_iff_getElem.1 hl'
      obtain ⟨l1, e1, e2⟩ := fence_get (List.getElem?_eq_getElem hq)
      obtain ⟨l, e3, e4⟩ := flsh_get e1
      rw [e2]
      have hwl := hw.line l (List.mem_of_getElem? e3)
      have hpl := List.length_pos_iff.2 hwl.ne
      by_cases c : p / 64 ≤ q ∧ q < p / 64 + ((p + m - 1) / 64 - p / 64 + 1)
      · rw [if_pos c] at e4
        subst e4
        unfold fenceL flushL
        rw [if_pos (by simp only []; omega)]
        simp only [List.length_drop]; omega
      · rw [if_neg c] at e4
        subst e4
        have := hc q l1 (by omega) e3
        unfold fenceL
        split
        · rename_i h0
          have := hwl.hi
          simp only [List.length_drop]; omega
        · exact this
    · unfold imgS
      rw [a4]
      refine img_seen ?_
      rw [← flsh_seen ((p + m - 1) / 64 - p / 64 + 1) (p / 64) s.ls, List.map_map]
      exact List.map_congr_left fun l hl => seen_fence (hwf l hl)
  · exact .inr h
/-- Bytes are made to last, wherever the power goes. -/
theorem bytes_loss {X : Nat → List Nat → Prop} {p : Nat} {b : List Nat} {s : DevS} (hw : WfD s) (hO : s.off = false) (hc : Cln s) (hb : ∀ x ∈ b, x < 256) (h0 : 0 < b.length) (hp : p + b.length ≤ s.ls.length * 64) (hroom : Room b.length s)
    (hX0 : ∀ q, q < s.ls.length → X q (chunk q (imgS s))) (hX : ∀ k q, 0 < k → k ≤ b.length → ((p + k) % 8 = 0 ∨ k = b.length) → q < s.ls.length → X q (chunk q (spl (imgS s) p (b.take k)))) :
    ∃ e s2, bytesP p b s = (e, s2) ∧ ((e = 0 ∧ s2.off = false ∧ WfD s2 ∧ Cln s2 ∧ s2.ls.length = s.ls.length ∧ imgS s2 = spl (imgS s) p b) ∨ (e = 5 ∧ Lost X s.ls.length s2)) := by
  have hrd : rdy s.ls.length s.off (p : Int) b.length = 0 := by rw [hO]; exact rdy_ok (by omega) (by omega) (by omega)
  have hne : b ≠ [] := List.length_pos_iff.1 h0
  obtain ⟨e, s2, g1, g2⟩ := storeF_loss (X := X) b.length (p := p) (r := 0) rfl hw hO hb (fun l hl => by have := hroom l hl; omega) hp (poss_cln hw hc hX0) hX
  have hst : sto (p : Int) b s = (e, s2) := by unfold sto; rw [hrd, if_neg (by decide), Int.toNat_natCast]; exact g1
  unfold bytesP
  rw [if_neg (by rw [hO]; decide), if_neg hne, hst]
  rcases g2 with ⟨a1, ⟨a2, a3, a4, a5, a6⟩, a7, a8⟩ | ⟨a1, a2⟩
  · subst a1
    rw [if_neg (by simp), Int.toNat_natCast]
    obtain ⟨e, s3, k1, k2⟩ := lastS_loss (X := X) (p := p) (m := b.length) a3 a2 a4 (by omega) (by rw [a5]; exact hp) (fun q l hq hl => by rw [a6 q hq] at hl; exact hc l (List.mem_of_getElem? hl))
    refine ⟨e, s3, k1, ?_⟩
    rcases k2 with ⟨b1, b2, b3, b4, b5, b6⟩ | ⟨b1, b2⟩
    · exact .inl ⟨b1, b2, b3, b4, b5.trans a5, b6.trans a8⟩
    · exact .inr ⟨b1, by rw [a5] at b2; exact b2⟩
  · subst a1
    rw [if_pos (show (5 : Int) ≠ 0 by decide)]
    exact ⟨5, s2, rfl, .inr ⟨rfl, a2⟩⟩
end Go.Vl

set_option linter.unusedVariables false
set_option linter.unusedSimpArgs false
namespace Go.Vl
open Go Go.Proofs
/-- Whatever lies there as a value of type t, by the argument's own reading, r holds of. -/
def Rdb {α : Type} (P : Program) (W : World) (t : TypeId) (r : List Value → α → Prop) : Prop :=
  ∀ (H : Type) (enc : TypeId × Value → H) (spare : Nat → Bool) (held : Bool) (fuel : Nat) (cs : List Value) (d : DataW H) (pl : List MemPlace),
    DataW.trod enc P W 0 spare held fuel t cs = some (d, pl) → (∀ n ∈ d.weights P t, n ≤ reachBytes) → ∃ x, r cs x
theorem Rdb.mono {α β : Type} {P : Program} {W : World} {t : TypeId} {r : List Value → α → Prop} {q : List Value → β → Prop} (h : Rdb P W t r) (k : ∀ cs x, r cs x → ∃ y, q cs y) : Rdb P W t q :=
  fun H enc sp hd fu cs d pl h1 h2 => by obtain ⟨x, hx⟩ := h H enc sp hd fu cs d pl h1 h2; exact k cs x hx
def PInt (k : IntKind) (cs : List Value) (n : Int) : Prop := cs = [.int k n] ∧ (Lit.int k n).wf = true
def PBool (cs : List Value) (b : Bool) : Prop := cs = [.bool b]
/-- A slice: its elements' cells, and what each is. -/
def PSl {α : Type} (A : SP) (k b : Nat) (r : List Value → α → Prop) (cs : List Value) (xs : List α) : Prop :=
  ∃ (a : Option Addr) (cap : Nat) (Cs : List (List Value)), cs = [.slice a xs.length cap] ∧ xs.length ≤ cap ∧ xs.length * b ≤ reachBytes ∧ Cs.length = xs.length ∧ (∀ i (h : i < xs.length) (h' : i < Cs.length), Cs[i].length = k ∧ r Cs[i] xs[i]) ∧ Rs A a Cs.flatten
/-- Bytes. -/
def PBys (A : SP) (cs : List Value) (xs : List Nat) : Prop := ∃ a cap, cs = [.slice a xs.length cap] ∧ xs.length ≤ cap ∧ xs.length ≤ 140737488351232 ∧ Rs A a (bys xs) ∧ ∀ x ∈ xs, x < 256
def PInts (A : SP) (cs : List Value) (xs : List Int) : Prop := ∃ a cap, cs = [.slice a xs.length cap] ∧ xs.length ≤ cap ∧ xs.length ≤ 17592186043904 ∧ Rs A a (ints xs) ∧ ∀ x ∈ xs, -9223372036854775808 ≤ x ∧ x ≤ 9223372036854775807
theorem i64_wf {x : Int} (h : (Lit.int .i64 x).wf = true) : -9223372036854775808 ≤ x ∧ x ≤ 9223372036854775807 := Go.bounds_i64 h
end Go.Vl

set_option linter.unusedVariables false
set_option linter.unusedSimpArgs false
namespace Go.Vl
open Go Go.Proofs
abbrev ub {H : Type} (d : DataW H) : Nat := Go.Proofs.YtimckjnnjakcoaaGreat.Rows.uptoBulk d
abbrev ubs {H : Type} (l : List (DataW H)) : Nat := Go.Proofs.YtimckjnnjakcoaaGreat.Rows.uptoBulkAll l
/-- Whatever lies there as a value of type t, by the argument's own reading, r holds of, and of how much. -/
def Rdu {α : Type} (P : Program) (W : World) (t : TypeId) (r : List Value → α → Prop) (sz : α → Nat) : Prop :=
  ∀ (H : Type) (enc : TypeId × Value → H) (spare : Nat → Bool) (held : Bool) (fuel : Nat) (cs : List Value) (d : DataW H) (pl : List MemPlace),
    DataW.trod enc P W 0 spare held fuel t cs = some (d, pl) → ∃ x, r cs x ∧ sz x ≤ ub d
theorem Rdu.mono {α β : Type} {P : Program} {W : World} {t : TypeId} {r : List Value → α → Prop} {s : α → Nat} {q : List Value → β → Prop} {z : β → Nat} (h : Rdu P W t r s) (k : ∀ cs x, r cs x → ∃ y, q cs y ∧ z y ≤ s x) : Rdu P W t q z :=
  fun H enc sp hd fu cs d pl h1 => by
    obtain ⟨x, hx, hs⟩ := h H enc sp hd fu cs d pl h1
    obtain ⟨y, hy, hz⟩ := k cs x hx
    exact ⟨y, hy, by omega⟩
/-- A slice: its elements' cells, and what each is. -/
def PSu {α : Type} (A : SP) (k : Nat) (r : List Value → α → Prop) (cs : List Value) (xs : List α) : Prop :=
  ∃ (a : Option Addr) (cap : Nat) (Cs : List (List Value)), cs = [.slice a xs.length cap] ∧ xs.length ≤ cap ∧ Cs.length = xs.length ∧ (∀ i (h : i < xs.length) (h' : i < Cs.length), Cs[i].length = k ∧ r Cs[i] xs[i]) ∧ Rs A a Cs.flatten
def szL {α : Type} (sz : α → Nat) (xs : List α) : Nat := (xs.map sz).sum + 1
/-- Bytes. -/
def PByU (A : SP) (cs : List Value) (xs : List Nat) : Prop := ∃ a cap, cs = [.slice a xs.length cap] ∧ xs.length ≤ cap ∧ Rs A a (bys xs) ∧ ∀ x ∈ xs, x < 256
def PInU (A : SP) (cs : List Value) (xs : List Int) : Prop := ∃ a cap, cs = [.slice a xs.length cap] ∧ xs.length ≤ cap ∧ Rs A a (ints xs) ∧ ∀ x ∈ xs, -9223372036854775808 ≤ x ∧ x ≤ 9223372036854775807
end Go.Vl

set_option linter.unusedVariables false
set_option linter.unusedSimpArgs false
namespace Go.Vl
open Go Go.Proofs
/-- An operation's cells. -/
structure Op9 where
  k : Int
  q : Int
  n : Int
  a : Option Addr
  c : Nat
  b : List Nat
  v : Nat
  ka : Option Addr
  kc : Nat
  kp : List Int
def Op9.cells (t : Op9) : List Value := [.int .i64 t.k, .int .i64 t.q, .int .i64 t.n, .slice t.a t.b.length t.c, .int .u64 (t.v : Nat), .slice t.ka t.kp.length t.kc]
structure Op9W (A : SP) (t : Op9) : Prop where
  cap : t.b.length ≤ t.c
  rs : Rs A t.a (bys t.b)
  byt : ∀ x ∈ t.b, x < 256
  v : t.v < 18446744073709551616
  kcap : t.kp.length ≤ t.kc
  krs : Rs A t.ka (ints t.kp)
  kb : ∀ x ∈ t.kp, -9223372036854775808 ≤ x ∧ x ≤ 9223372036854775807
  q : -9223372036854775808 ≤ t.q ∧ t.q ≤ 9223372036854775807
  n : -9223372036854775808 ≤ t.n ∧ t.n ≤ 9223372036854775807
def Op9.sz (t : Op9) : Nat := t.b.length + t.kp.length + 1
def ocs (l : List Op9) : List Value := l.flatMap Op9.cells
def POps (A : SP) (cs : List Value) (ops : List Op9) : Prop := ∃ a cap, cs = [.slice a ops.length cap] ∧ ops.length ≤ cap ∧ Rs A a (ocs ops) ∧ ∀ t ∈ ops, Op9W A t
/-! ### An operation on the device alone -/
def rawS (t : Op9) (s : DevS) : DevS := if t.k = 7 then (sto ((wi t.q 256 : Nat) : Int) (t.b.take (256 - wi t.q 256)) s).2 else if t.k = 8 then (fl1 ((wi t.q 256 : Nat) : Int) s).2 else if t.k = 9 then (fe s).2 else s
theorem room_le {a b : Nat} {s : DevS} (h : Room a s) (hab : b ≤ a) : Room b s := fun l hl => Nat.le_trans (Nat.add_le_add_left hab _) (h l hl)
def rawL (l : List Op9) (s : DevS) : DevS := l.foldl (fun s t => rawS t s) s
/-- The same, but what would be stored into the range is passed over. -/
def rawB (at_ m : Nat) (t : Op9) (s : DevS) : DevS := if t.k = 7 ∧ wi t.q 256 < at_ + m ∧ at_ < wi t.q 256 + t.b.length then s else rawS t s
def rawLB (at_ m : Nat) (l : List Op9) (s : DevS) : DevS := l.foldl (fun s t => rawB at_ m t s) s
theorem cut_none {a : Option Addr} {c : Nat} : cutAddr a c 0 1 = a := by
  unfold cutAddr
  split
  · rfl
  · cases a <;> simp [Addr.add]
theorem bys_take (b : List Nat) (n : Nat) : (bys b).take n = bys (b.take n) := by unfold bys; rw [List.map_take]
attribute [local irreducible] Sl pt ro Dev imgS
end Go.Vl

set_option linter.unusedVariables false
set_option linter.unusedSimpArgs false
namespace Go.Vl
open Go Go.Proofs
theorem done_room {r : Nat} {s : DevS} (hw : WfD s) (h : Room r s) : Room r (doneS s) := by
  rcases done_loss (X := fun _ _ => True) hw (fun _ _ _ _ _ => trivial) with ⟨_, h2, _⟩ | ⟨_, h1, h2, h3, _, h5⟩
  · unfold Room; rw [h2]; exact h
  · intro l hl
    have hp := hw.pos
    have h0 := h _ (List.getElem_mem hp)
    have h4 := List.length_pos_iff.2 (hw.line _ (List.getElem_mem hp)).ne
    have := h3 l hl
    omega
theorem storeF_room : ∀ (m : Nat) {p r : Nat} {b : List Nat} {s : DevS}, b.length = m → WfD s → (∀ x ∈ b, x < 256) → Room (r + m) s → Room r (storeF b.length p b s).2 ∧ WfD (storeF b.length p b s).2 := by
  intro m
  induction m using Nat.strongRecOn with
  | _ m ih =>
    intro p r b s hm hw hb hroom
    by_cases h0 : b = []
    · subst h0
      rw [storeF_nil]
      exact ⟨room_le hroom (by omega), hw⟩
    · have hpos : 0 < b.length := List.length_pos_iff.2 h0
      have hr1 : Room 1 s := room_le hroom (by omega)
      have hwL := layS_wf (at_ := p - p % 8) hw hr1 (stW_nm (p := p) (s := s) hb)
      have hroom2 : Room (r + (m - min m (8 - p % 8))) (layS (p - p % 8) (nm (stW p b s)) s) := fun l hl => by
        have := onLine_room (r := r + m - 1) (f := layL ((p - p % 8) % 64 / 8) (nm (stW p b s))) (i := (p - p % 8) / 64) (fun l hl => by have := hroom l hl; omega) (fun l => by simp [layL]) l hl
        omega
      have hk : (b.drop (8 - p % 8)).length = m - min m (8 - p % 8) := by rw [List.length_drop]; omega
      rw [storeF_step h0]
      split
      · exact ⟨room_le (done_room hwL hroom2) (by omega), doneS_wf hwL⟩
      · exact ih (m - min m (8 - p % 8)) (by omega) hk (doneS_wf hwL) (fun x hx => hb x (List.mem_of_mem_drop hx)) (done_room hwL hroom2)
theorem fence_wf {s : DevS} (hw : WfD s) : WfD (fenceS s) := ⟨by simp [fenceS]; exact hw.pos, by simp [fenceS]; exact hw.top, fun l hl => by
  simp only [fenceS, List.mem_map] at hl
  obtain ⟨l0, h0, rfl⟩ := hl
  exact fenceL_wf (hw.line l0 h0), hw.arms, hw.after, hw.keeps⟩
theorem flF_room {r : Nat} : ∀ (k q : Nat) (s : DevS), WfD s → Room r s → Room r (flF k q s).2 ∧ WfD (flF k q s).2
  | 0, q, s, hw, h => by
    rw [flF_zero]
    unfold fe
    split
    · exact ⟨h, hw⟩
    · refine ⟨done_room (fence_wf hw) fun l hl => ?_, doneS_wf (fence_wf hw)⟩
      simp only [fenceS, List.mem_map] at hl
      obtain ⟨l0, h0, rfl⟩ := hl
      have h3 : (fenceL l0).st.length ≤ l0.st.length := by unfold fenceL; split <;> simp
      have := h l0 h0
      omega
  | k + 1, q, s, hw, h => by
    have hk : Room r (fl1 ((q * 64 : Nat) : Int) s).2 ∧ WfD (fl1 ((q * 64 : Nat) : Int) s).2 := by
      unfold fl1
      split
      · exact ⟨h, hw⟩
      · refine ⟨done_room (flushS_wf hw) fun l hl => ?_, doneS_wf (flushS_wf hw)⟩
        unfold flushS onLine at hl
        split at hl
        · rcases List.mem_or_eq_of_mem_set hl with h1 | h1
          · exact h l h1
          · rw [h1]
            rename_i l0 e
            exact h l0 (List.mem_of_getElem? e)
        · exact h l hl
    show Room r (if _ then _ else _ : Int × DevS).2 ∧ WfD (if _ then _ else _ : Int × DevS).2
    split
    · exact hk
    · exact flF_room k (q + 1) _ hk.2 hk.1
theorem bytesP_room {r : Nat} {p : Int} {u : List Nat} {s : DevS} (hw : WfD s) (hb : ∀ x ∈ u, x < 256) (h : Room (r + u.length) s) : Room r (bytesP p u s).2 ∧ WfD (bytesP p u s).2 := by
  have h0 : Room r s := room_le h (by omega)
  have h1 : Room r (sto p u s).2 ∧ WfD (sto p u s).2 := by
    unfold sto
    split
    · exact ⟨h0, hw⟩
    · exact storeF_room u.length rfl hw hb h
  unfold bytesP
  split
  · exact ⟨h0, hw⟩
  · split
    · exact ⟨h0, hw⟩
    · split
      · exact h1
      · exact flF_room _ _ _ h1.2 h1.1
theorem bytesP_len (p : Int) (u : List Nat) (s : DevS) : (bytesP p u s).2.ls.length = s.ls.length := by
  have hf : ∀ (k q : Nat) (s : DevS), (flF k q s).2.ls.length = s.ls.length := by
    intro k
    induction k with
    | zero =>
      intro q s; rw [flF_zero]; unfold fe; split
      · rfl
      · simp only []; rw [doneS_len]; simp [fenceS]
    | succ k ih =>
      intro q s
      show (if _ then _ else _ : Int × DevS).2.ls.length = _
      split
      · exact fl1_len _ _
      · rw [ih]; exact fl1_len _ _
  unfold bytesP lastS
  split
  · rfl
  · split
    · rfl
    · split
      · exact sto_len _ _ _
      · rw [hf]; exact sto_len _ _ _
/-- Steps, one behind the other. -/
def fmtF : List (Nat × List Nat) → DevS → Int × DevS
  | [], s => (0, s)
  | t :: l, s => if (bytesP (t.1 : Int) t.2 s).1 ≠ 0 then bytesP (t.1 : Int) t.2 s else fmtF l (bytesP (t.1 : Int) t.2 s).2
def fst4 (n : Nat) : List (Nat × List Nat) := [(0, (List.replicate 64 0)), (64, (List.replicate 64 0)), (128, (List.replicate 64 0)), (0, sbB [n, 128, 32768, 32896, (n - 32896) / 256, 0])]
theorem fst4_wf (n : Nat) : ∀ t ∈ fst4 n, t.2.length = 64 ∧ (∀ x ∈ t.2, x < 256) ∧ t.1 ≤ 128 := by
  intro t ht
  have hz : ((List.replicate 64 0) : List Nat).length = 64 ∧ ∀ x ∈ ((List.replicate 64 0) : List Nat), x < 256 := ⟨by simp, fun x hx => by have := List.eq_of_mem_replicate hx; omega⟩
  simp only [fst4, List.mem_cons, List.not_mem_nil, or_false] at ht
  rcases ht with rfl | rfl | rfl | rfl
  · exact ⟨hz.1, hz.2, by decide⟩
  · exact ⟨hz.1, hz.2, by decide⟩
  · exact ⟨hz.1, hz.2, by decide⟩
  · refine ⟨sbB_len rfl, fun x hx => ?_, Nat.zero_le _⟩
    unfold sbB at hx
    rw [List.mem_append] at hx
    rcases hx with hx | hx
    · exact mbs_lt _ x hx
    · exact le_bytes 8 _ x hx
def stC (l : List (Nat × List Nat)) : List Value := l.flatMap fun t => .int .i64 (t.1 : Int) :: bys t.2
theorem stC_at : ∀ {l : List (Nat × List Nat)} {j : Nat} (_ : ∀ t ∈ l, t.2.length = 64) (h : j < l.length), ((stC l).drop (j * 65)).take 65 = .int .i64 (l[j].1 : Int) :: bys l[j].2
  | t :: l, 0, hl, h => by
    have h0 := hl t (by simp)
    have hb : (bys t.2).length = 64 := by rw [bys_length, h0]
    simp only [stC, List.flatMap_cons, Nat.zero_mul, List.drop_zero, List.getElem_cons_zero]
    rw [List.cons_append, List.take_succ_cons, ← hb, List.take_left]
  | t :: l, j + 1, hl, h => by
    have h0 := hl t (by simp)
    have e : (j + 1) * 65 = (Value.int .i64 (t.1 : Int) :: bys t.2).length + j * 65 := by rw [List.length_cons, bys_length, h0]; omega
    rw [e, show stC (t :: l) = (Value.int .i64 (t.1 : Int) :: bys t.2) ++ stC l from rfl, List.drop_length_add_append]
    rw [stC_at (fun t ht => hl t (List.mem_cons_of_mem _ ht)) (by simpa using h)]; rfl
theorem bld_line {z : List Value} {p : Int} {u : List Nat} (hz : z.length = 65) (hu : u.length = 64) : bld [(0, 1), (1, 64)] z [(0, .int .i64 p), (1, .agg (bys u).toArray)] = some (.int .i64 p :: bys u) := by
  have hb : (bys u).length = 64 := by rw [bys_length, hu]
  match z, hz with
  | c :: z, hz =>
    have hz' : z.length = 64 := by simpa using hz
    have e1 : splice (c :: z) 0 [.int .i64 p] = .int .i64 p :: z := by rw [splice_eq (by simp)]; rfl
    have e2 : splice (.int .i64 p :: z) 1 (bys u) = .int .i64 p :: bys u := by
      rw [splice_eq (by simp [hb, hz'])]
      simp only [List.take_succ_cons, List.take_zero, List.cons_append, List.nil_append, hb]
      rw [show 1 + 64 = 64 + 1 by omega, List.drop_succ_cons, List.drop_of_length_le (by omega), List.append_nil]
    have c1 : (Value.int .i64 p).cells.toList = [.int .i64 p] := rfl
    have c2 : (Value.agg (bys u).toArray).cells.toList = bys u := by simp [Value.cells]
    simp only [bld, List.getElem?_cons_zero, List.getElem?_cons_succ, c1, c2]
    simp only [List.length_singleton, e1, e2, hb, List.length_cons, hz']
    rfl
theorem stC_atT {l : List (Nat × List Nat)} {j : Nat} {t : Nat × List Nat} (h0 : ∀ t ∈ l, t.2.length = 64) (h : l[j]? = some t) : ((stC l).drop (j * 65)).take 65 = .int .i64 (t.1 : Int) :: bys t.2 := by
  obtain ⟨hi, rfl⟩ := List.getElem?_eq_some_iff.1 h
  exact stC_at h0 hi
theorem fmt_e {l : List (Nat × List Nat)} {i : Nat} {s s2 : DevS} {e : Int} {t : Nat × List Nat} (hi : l[i]? = some t) (h : bytesP (t.1 : Int) t.2 s = (e, s2)) (he : e ≠ 0) : fmtF (l.drop i) s = (e, s2) := by
  obtain ⟨hi', rfl⟩ := List.getElem?_eq_some_iff.1 hi
  rw [List.drop_eq_getElem_cons hi']; unfold fmtF; rw [h, if_pos he]
theorem fmt_o {l : List (Nat × List Nat)} {i : Nat} {s s2 : DevS} {t : Nat × List Nat} (hi : l[i]? = some t) (h : bytesP (t.1 : Int) t.2 s = (0, s2)) : fmtF (l.drop i) s = fmtF (l.drop (i + 1)) s2 := by
  obtain ⟨hi', rfl⟩ := List.getElem?_eq_some_iff.1 hi
  rw [List.drop_eq_getElem_cons hi']; conv => lhs; unfold fmtF
  rw [h, if_neg (by simp)]
/-- What Format answers, and the device behind it. -/
def fmA (n : Nat) (s : DevS) : List Int × Int := if (fmtF (fst4 n) s).1 ≠ 0 then ([0, 0, 0, 0, 0], (fmtF (fst4 n) s).1) else ([(n : Int), ((128 : Nat) : Int), ((32768 : Nat) : Int), ((32896 : Nat) : Int), (((n - 32896) / 256 : Nat) : Int)], 0)
theorem rs_at1 {R : SP} {b : Nat} {v : Value} {u : List Value} {E : TypeId} : Rs (R * pt b (cl (v :: u) E)) (some ⟨b, 1, none⟩) u := rs_pt (by simp)
attribute [local irreducible] crk crL crc Sl pt ro mbs sbB planT Dev imgS
set_option maxRecDepth 20000 in
set_option maxHeartbeats 2000000 in
theorem Format_ok {A R : SP} {C : SP → SP} {d : Nat} {s : DevS} (hc : Ct A (Dev d s) R C := by repeat (first | with_reducible exact ct_here | apply ct_left)) {n : Nat} (hoff : s.off = false) (hlen : s.ls.length * 64 = n) (hn : 36992 ≤ n ∧ n ≤ 4194304 ∧ n % 64 = 0) (hroom : Room 256 s) :
    Fn Tryz.prog 15 #[.pointer (some ⟨d, 0, none⟩)] (A) (fun r B => ∃ e s2, fmtF (fst4 n) s = (e, s2) ∧ r = .tuple #[.agg (ints (fmA n s).1).toArray, .int .i64 e] ∧ B = C (Dev d s2)) := by
  refine fn_enterW (args := [.pointer (some ⟨d, 0, none⟩)]) Tryz.func15 rfl Tryz.ntmps15 (by simp) ?_
  have hst : stE s = 0 := by unfold stE; rw [hoff]; rfl
  refine tc_have (fun _ _ h => ct_wf2 hc h) fun hw => ?_
  obtain ⟨rfl, hC⟩ := hc
  refine sr ?_; refine tl_x rfl (o_alloc z42 rfl) ?_; rintro _ _ ⟨b2, rfl, rfl⟩; refine tla ?_; refine nq ?_; refine tc_seq ?_; refine sr ?_; refine tlm ?_; refine tl_c rfl (o_call bd72 rfl (state_c (s := s))) ?_; rintro _ _ ⟨rfl, rfl⟩; refine tl_env (d := 11) (v := .int .i64 0) (congrArg (Value.int .i64) hst) ?_; refine tla ?_; refine nq ?_; refine sr ?_; refine tlm ?_; refine tv (o_nei rfl rfl) ?_; refine nq ?_; refine tc_cond rfl (fun h => ?_) (fun h => ?_)
  · exfalso; simp at h
  · try simp only [lv1, lv2, lv3, lv4, lv5, lv6, Bool.not_true, Bool.not_false] at h
    refine tc_skip ?_; refine q_then_n ?_; refine sr ?_; refine tlm ?_; refine tl_c rfl (o_call bd51 rfl (Size_c (s := s))) ?_; rintro _ _ ⟨rfl, rfl⟩; refine tl_env (d := 18) (v := .int .i64 (n : Int)) (congrArg (Value.int .i64) (by omega)) ?_; refine tl_c rfl (o_call bd61 rfl (Plan_ok hn)) ?_; rintro _ _ ⟨rfl, rfl⟩; refine tlm ?_; refine tv (o_extract rfl rfl) ?_; refine tv (o_extract rfl rfl) ?_; refine tl_x rfl (o_alloc z42 rfl) ?_; rintro _ _ ⟨b5, rfl, rfl⟩; refine tl_u rfl (o_stUN (l' := ints [(n : Int), ((128 : Nat) : Int), ((32768 : Nat) : Int), ((32896 : Nat) : Int), (((n - 32896) / 256 : Nat) : Int)]) rfl (by repeat (first | with_reducible exact upd_here | with_reducible exact upd_pt | apply upd_left)) sz42 rfl rfl rfl (by show 5 ≤ 5; decide) rfl) ?_; refine tla ?_; refine nq ?_; refine tc_seq ?_; refine sr ?_; refine tlm ?_; refine tv (o_nei rfl rfl) ?_; refine nq ?_; refine tc_cond rfl (fun h => ?_) (fun h => ?_)
    · exfalso; simp at h
    · try simp only [lv1, lv2, lv3, lv4, lv5, lv6, Bool.not_true, Bool.not_false] at h
      refine tc_skip ?_; refine q_then_n ?_; refine tc_seq ?_; refine sr ?_; refine tv (o_buildA (vs := []) (z := bys (List.replicate 64 0)) Tryz.underlying107 sz5 z107 rfl rfl rfl (by decide) rfl) ?_; refine tl_env (d := 26) (v := .agg (bys (List.replicate 64 0)).toArray) (rfl) ?_; refine tv (o_bS (l := .int .i64 0 :: bys (List.replicate 64 0)) (pv_cons (by conv => lhs; whnf) (pv_cons (by conv => lhs; whnf) pv_nil)) Tryz.underlying108 z108 (pl108 Tryz.underlying108) (bld_line rfl (by decide))) ?_; refine tv (o_buildA (vs := []) (z := bys (List.replicate 64 0)) Tryz.underlying107 sz5 z107 rfl rfl rfl (by decide) rfl) ?_; refine tl_env (d := 28) (v := .agg (bys (List.replicate 64 0)).toArray) (rfl) ?_; refine tv (o_bS (l := .int .i64 64 :: bys (List.replicate 64 0)) (pv_cons (by conv => lhs; whnf) (pv_cons (by conv => lhs; whnf) pv_nil)) Tryz.underlying108 z108 (pl108 Tryz.underlying108) (bld_line rfl (by decide))) ?_; refine tv (o_buildA (vs := []) (z := bys (List.replicate 64 0)) Tryz.underlying107 sz5 z107 rfl rfl rfl (by decide) rfl) ?_; refine tl_env (d := 30) (v := .agg (bys (List.replicate 64 0)).toArray) (rfl) ?_; refine tv (o_bS (l := .int .i64 128 :: bys (List.replicate 64 0)) (pv_cons (by conv => lhs; whnf) (pv_cons (by conv => lhs; whnf) pv_nil)) Tryz.underlying108 z108 (pl108 Tryz.underlying108) (bld_line rfl (by decide))) ?_; refine tv (o_loadN (vs := ints [(n : Int), ((128 : Nat) : Int), ((32768 : Nat) : Int), ((32896 : Nat) : Int), (((n - 32896) / 256 : Nat) : Int)]) a42 sz42 rfl (by repeat (first | with_reducible exact has_here | with_reducible exact has_pt | apply has_left)) (by show 5 ≤ 5; decide) rfl) ?_
      refine tl_c rfl (o_call bd73 rfl (laid_c (by omega))) ?_; rintro _ _ ⟨rfl, rfl⟩; refine tv (o_bS (l := .int .i64 0 :: bys (sbB [n, 128, 32768, 32896, (n - 32896) / 256, 0])) (pv_cons (by conv => lhs; whnf) (pv_cons (by conv => lhs; whnf) pv_nil)) Tryz.underlying108 z108 (pl108 Tryz.underlying108) (bld_line rfl (sbB_len rfl))) ?_; refine tl_x rfl (o_buildSliceL (k := 65) (vs := (fst4 n).map fun t => .agg (.int .i64 (t.1 : Int) :: bys t.2).toArray) (l := stC (fst4 n)) Tryz.underlying110 sz108 z108 rfl rfl (by decide) (by decide) (by intro v hv; obtain ⟨t, ht, rfl⟩ := List.mem_map.1 hv; simp only [Value.cells, List.size_toArray, List.length_cons, bys_length, (fst4_wf n t ht).1]) (by rw [List.flatMap_map]; rfl)) ?_; rintro _ _ ⟨b35, rfl, rfl⟩; refine tv (o_len Tryz.underlying110 rfl) ?_; refine tlm ?_; refine nq ?_; refine tc_block ?_; refine tc_loop (fun kk ρ BB => ∃ (i : Nat) (s1 : DevS), (i ≤ 4) ∧ (fmtF ((fst4 n).drop i) s1 = fmtF (fst4 n) s) ∧ (Room (64 * (4 - i)) s1) ∧ (WfD s1) ∧ (s1.ls.length = s.ls.length) ∧ kk = 4 - i ∧ ρ 37 = .int .i64 (i : Nat) ∧ ρ 0 = .pointer (some ⟨d, 0, none⟩) ∧ ρ 2 = .pointer (some ⟨b2, 0, none⟩) ∧ ρ 5 = .pointer (some ⟨b5, 0, none⟩) ∧ ρ 35 = .slice (some ⟨b35, 0, none⟩) 4 4 ∧ ρ 36 = .int .i64 4 ∧ BB = R * Dev d s1 * pt b2 (cl (ints [0, 0, 0, 0, 0]) 42) * pt b5 (cl (ints [(n : Int), ((128 : Nat) : Int), ((32768 : Nat) : Int), ((32896 : Nat) : Int), (((n - 32896) / 256 : Nat) : Int)]) 42) * pt b35 (cl (stC (fst4 n)) 108)) (m := 4 - (0)) ?_ ?_
      · exact ⟨0, s, by omega, rfl, hroom, hw, rfl, rfl, rfl, rfl, rfl, rfl, rfl, rfl, rfl⟩
      · intro k ρ B hI
        obtain ⟨i, s1, hp0, hp1, hp2, hp3, hp4, hkk1, hE37, hE0, hE2, hE5, hE35, hE36, rfl⟩ := hI
        refine tc_env (d := 37) hE37 ?_; refine tc_env (d := 0) hE0 ?_; refine tc_env (d := 2) hE2 ?_; refine tc_env (d := 5) hE5 ?_; refine tc_env (d := 35) hE35 ?_; refine tc_env (d := 36) hE36 ?_
        clear hE37 hE0 hE2 hE5 hE35 hE36
        refine sr ?_; refine tv (o_lss rfl rfl) ?_; refine nq ?_; refine tc_seq ?_; refine tc_cond rfl (fun h => ?_) (fun h => ?_)
        · have hi4 : i < 4 := by simp at h; omega
          obtain ⟨t, hi⟩ : ∃ t, (fst4 n)[i]? = some t := ⟨_, List.getElem?_eq_getElem (show i < (fst4 n).length from hi4)⟩
          obtain ⟨ht1, ht2, ht3⟩ := fst4_wf n _ (List.mem_of_getElem? hi)
          refine tc_skip ?_; refine q_then_n ?_; refine tc_seq ?_; refine tc_block ?_; refine sr ?_; refine tv (o_ixP (a := some ⟨b35, 0, none⟩) (m := 4) Tryz.underlying110 sz108 rfl rfl (by omega) (nn_some)) ?_; refine tv (o_ldPN (xs := stC (fst4 n)) (vs := .int .i64 (t.1 : Int) :: bys t.2) a108 sz108 rfl (by repeat (first | with_reducible exact rs_pt0 | apply Rs.left)) (stC_atT (fun t ht => (fst4_wf n t ht).1) hi) (by rw [List.length_cons, bys_length, ht1]) (by decide)) ?_; refine tl_x rfl (o_alloc z108 rfl) ?_; rintro _ _ ⟨b8, rfl, rfl⟩; refine tl_u rfl (o_stUN (l' := .int .i64 (t.1 : Int) :: bys t.2) rfl (by repeat (first | with_reducible exact upd_here | with_reducible exact upd_pt | apply upd_left)) sz108 rfl (by rw [List.length_cons, bys_length, ht1]) (by rw [List.all_cons, bys_all]; rfl) (by simp) (splice_whole (by rw [List.length_cons, bys_length, ht1]; rfl))) ?_; refine nq ?_; refine tc_seq ?_; refine tc_regh (S := R * pt b8 (cl (.int .i64 (t.1 : Int) :: bys t.2) 108)) mo (by repeat (first | with_reducible exact dr_refl | apply dr_keep | apply dr_drop)) ?_
          show TH _ _ _ _ _ 7 #[ff,ff,ff,ff,ff,ff,ff] _ _
          refine th_take (i := 0) (listed' := #[tt,ff,ff,ff,ff,ff,ff]) rfl (by kernel_rfl) (by kernel_rfl) (by kernel_rfl) rfl rfl (o_move (by conv => lhs; whnf)) ?_; refine th_take (i := 1) (listed' := #[tt,tt,ff,ff,ff,ff,ff]) rfl (by kernel_rfl) (by kernel_rfl) (by kernel_rfl) rfl rfl (o_fieldAddr (o := 0) Tryz.underlying108 rfl rfl sz3 rfl) ?_; refine th_take (i := 2) (listed' := #[tt,tt,tt,ff,ff,ff,ff]) rfl (by kernel_rfl) (by kernel_rfl) (by kernel_rfl) rfl rfl (by first | exact o_load p3 rfl (by repeat (first | with_reducible exact has_here | with_reducible exact has_pt | apply has_left)) rfl | exact o_loadC p3 rfl (by assumption)) ?_; refine th_take (i := 3) (listed' := #[tt,tt,tt,tt,ff,ff,ff]) rfl (by kernel_rfl) (by kernel_rfl) (by kernel_rfl) rfl rfl (o_fieldAddr (o := 1) Tryz.underlying108 rfl rfl sz107 rfl) ?_; refine th_take (i := 4) (listed' := #[tt,tt,tt,tt,tt,ff,ff]) rfl (by kernel_rfl) (by kernel_rfl) (by kernel_rfl) rfl rfl (o_sliceA (len := 64) Tryz.underlying107 sz5 rfl bnd_none bnd_none (by omega) (by omega)) ?_; refine th_env (d := 45) (v := .slice (some ⟨b8, 1, none⟩) 64 64) (by rfl) ?_; refine th_one (i := 5) (by kernel_rfl) ?_; refine oh_c (i := 5) (listed' := #[tt,tt,tt,tt,tt,tt,ff]) rfl rfl rfl (o_call bd59 rfl (Bytes_c (s := s1) (p := ((t.1 : Nat) : Int)) (xs := t.2) (hr := (by repeat (first | with_reducible exact rs_at1 | apply Rs.left))) (hm := ht1) (hroom := fun _ => room_le hp2 (by omega)))) ?_
          rintro _ _ ⟨e46, s46, hs46, rfl, rfl⟩; refine ⟨by repeat (first | with_reducible exact dr_refl | apply dr_keep | apply dr_drop), ?_⟩; refine th_take (i := 6) (listed' := #[tt,tt,tt,tt,tt,tt,tt]) rfl (by kernel_rfl) (by kernel_rfl) (by kernel_rfl) rfl rfl (o_assign (by conv => lhs; whnf)) ?_; refine th_done (by kernel_rfl) ?_; refine q_then_n ?_; refine sr ?_; refine tlm ?_; refine tv (o_nei rfl rfl) ?_; refine nq ?_; refine tc_cond rfl (fun h => ?_) (fun h => ?_)
          · have h : e46 ≠ 0 := by simpa using h
            refine sr ?_; refine tv (o_bS (l := ints [0, 0, 0, 0, 0]) pv_nil Tryz.underlying42 z42 (pl42 Tryz.underlying42) rfl) ?_; refine tlm ?_; refine tl_u rfl (o_stUN (l' := ints [0, 0, 0, 0, 0]) rfl (by repeat (first | with_reducible exact upd_here | with_reducible exact upd_pt | apply upd_left)) sz42 rfl rfl rfl (by show 5 ≤ 5; decide) rfl) ?_; refine tla ?_; refine nq ?_; refine tc_ret ?_; refine q_block_r (q_then_r (q_then_r (q_block_r (q_then_r ?_))))
            first
            | (have hp : fmtF (fst4 n) s = (e46, s46) := by rw [← hp1]; exact fmt_e hi hs46 h
               have ha : fmA n s = ([0, 0, 0, 0, 0], e46) := by unfold fmA; rw [hp, if_pos h]
               rw [ha]; exact ⟨.tuple #[.agg (ints [0, 0, 0, 0, 0]).toArray, .int .i64 e46], C (Dev d s46), resA2 rfl (rv_cell a42 sz42 rfl (by repeat (first | with_reducible exact has_here | with_reducible exact has_pt | apply has_left)) (by show 5 ≤ 5; decide) rfl) (rv_tmp rfl), fun _ _ h => by rw [hC]; exact (Dr.sat (A' := R * Dev d s46) (by repeat (first | with_reducible exact dr_refl | apply dr_keep | apply dr_drop))) _ _ h, e46, s46, hp, rfl, rfl⟩)
            | (have ha : fmA n s = ([(n : Int), ((128 : Nat) : Int), ((32768 : Nat) : Int), ((32896 : Nat) : Int), (((n - 32896) / 256 : Nat) : Int)], 0) := by unfold fmA; rw [hq, if_neg (by simp)]
               rw [ha]; exact ⟨.tuple #[.agg (ints [(n : Int), ((128 : Nat) : Int), ((32768 : Nat) : Int), ((32896 : Nat) : Int), (((n - 32896) / 256 : Nat) : Int)]).toArray, .int .i64 0], C (Dev d s1), resA2 rfl (rv_cell a42 sz42 rfl (by repeat (first | with_reducible exact has_here | with_reducible exact has_pt | apply has_left)) (by show 5 ≤ 5; decide) rfl) (rv_tmp rfl), fun _ _ h => by rw [hC]; exact (Dr.sat (A' := R * Dev d s1) (by repeat (first | with_reducible exact dr_refl | apply dr_keep | apply dr_drop))) _ _ h, 0, s1, hq, rfl, rfl⟩)
          · obtain rfl : e46 = 0 := by simpa using h
            refine tc_skip ?_; refine q_block_n (q_then_n ?_); refine tc_pre (Dr.sat (A' := R * Dev d s46 * pt b2 (cl (ints [0, 0, 0, 0, 0]) 42) * pt b5 (cl (ints [(n : Int), ((128 : Nat) : Int), ((32768 : Nat) : Int), ((32896 : Nat) : Int), (((n - 32896) / 256 : Nat) : Int)]) 42) * pt b35 (cl (stC (fst4 n)) 108)) (by repeat (first | with_reducible exact dr_refl | apply dr_keep | apply dr_drop))) ?_; refine tc_reg ?_; refine tv (by first | exact o_addI rfl rfl (by omega) | exact o_add rfl rfl) ?_; refine tlm ?_; refine nq ?_; exact ⟨_, by omega, i + 1, s46, by omega, by rw [← hp1]; exact (fmt_o hi hs46).symm, by have := (bytesP_room (r := 64 * (4 - (i + 1))) (p := ((t.1 : Nat) : Int)) hp3 ht2 (by rw [ht1]; exact room_le hp2 (by omega))).1; rw [hs46] at this; exact this, by have := (bytesP_room (r := 0) (p := ((t.1 : Nat) : Int)) hp3 ht2 (by rw [ht1]; exact room_le hp2 (by omega))).2; rw [hs46] at this; exact this, by have := bytesP_len ((t.1 : Nat) : Int) t.2 s1; rw [hs46] at this; exact this.trans hp4, rfl, rfl, rfl, rfl, rfl, rfl, rfl, rfl⟩
        · obtain rfl : i = 4 := by simp at h; omega
          have hq : fmtF (fst4 n) s = (0, s1) := by rw [← hp1]; rfl
          refine tc_exit ?_; refine q_then_e (q_then_e (q_block_x (q_then_n ?_))); refine sr ?_; refine tv (o_loadN (vs := ints [(n : Int), ((128 : Nat) : Int), ((32768 : Nat) : Int), ((32896 : Nat) : Int), (((n - 32896) / 256 : Nat) : Int)]) a42 sz42 rfl (by repeat (first | with_reducible exact has_here | with_reducible exact has_pt | apply has_left)) (by show 5 ≤ 5; decide) rfl) ?_; refine tl_u rfl (o_stUN (l' := ints [(n : Int), ((128 : Nat) : Int), ((32768 : Nat) : Int), ((32896 : Nat) : Int), (((n - 32896) / 256 : Nat) : Int)]) rfl (by repeat (first | with_reducible exact upd_here | with_reducible exact upd_pt | apply upd_left)) sz42 rfl rfl rfl (by show 5 ≤ 5; decide) rfl) ?_; refine tla ?_; refine nq ?_; refine tc_ret ?_
          first
          | (have hp : fmtF (fst4 n) s = (e46, s46) := by rw [← hp1]; exact fmt_e hi hs46 h
             have ha : fmA n s = ([0, 0, 0, 0, 0], e46) := by unfold fmA; rw [hp, if_pos h]
             rw [ha]; exact ⟨.tuple #[.agg (ints [0, 0, 0, 0, 0]).toArray, .int .i64 e46], C (Dev d s46), resA2 rfl (rv_cell a42 sz42 rfl (by repeat (first | with_reducible exact has_here | with_reducible exact has_pt | apply has_left)) (by show 5 ≤ 5; decide) rfl) (rv_tmp rfl), fun _ _ h => by rw [hC]; exact (Dr.sat (A' := R * Dev d s46) (by repeat (first | with_reducible exact dr_refl | apply dr_keep | apply dr_drop))) _ _ h, e46, s46, hp, rfl, rfl⟩)
          | (have ha : fmA n s = ([(n : Int), ((128 : Nat) : Int), ((32768 : Nat) : Int), ((32896 : Nat) : Int), (((n - 32896) / 256 : Nat) : Int)], 0) := by unfold fmA; rw [hq, if_neg (by simp)]
             rw [ha]; exact ⟨.tuple #[.agg (ints [(n : Int), ((128 : Nat) : Int), ((32768 : Nat) : Int), ((32896 : Nat) : Int), (((n - 32896) / 256 : Nat) : Int)]).toArray, .int .i64 0], C (Dev d s1), resA2 rfl (rv_cell a42 sz42 rfl (by repeat (first | with_reducible exact has_here | with_reducible exact has_pt | apply has_left)) (by show 5 ≤ 5; decide) rfl) (rv_tmp rfl), fun _ _ h => by rw [hC]; exact (Dr.sat (A' := R * Dev d s1) (by repeat (first | with_reducible exact dr_refl | apply dr_keep | apply dr_drop))) _ _ h, 0, s1, hq, rfl, rfl⟩)
end Go.Vl

set_option linter.unusedVariables false
set_option linter.unusedSimpArgs false
namespace Go.Vl
open Go Go.Proofs
theorem set_lt {xs : List Nat} {i v : Nat} (h : ∀ x ∈ xs, x < 256) (hv : v < 256) : ∀ x ∈ xs.set i v, x < 256 := fun x hx => by
  rcases List.mem_or_eq_of_mem_set hx with h1 | h1
  · exact h x h1
  · omega
theorem lineT_len (q0 q1 q2 q3 q4 : Int) : (lineT q0 q1 q2 q3 q4).1.length ≤ 64 ∧ ∀ x ∈ (lineT q0 q1 q2 q3 q4).1, x < 256 := by
  unfold lineT
  split
  · refine ⟨by rw [sbB_len rfl]; exact Nat.le_refl _, fun x hx => ?_⟩
    simp only [] at hx
    unfold sbB at hx
    rw [List.mem_append] at hx
    rcases hx with hx | hx
    · exact mbs_lt _ x hx
    · exact le_bytes 8 _ x hx
  · exact ⟨by simp, by simp⟩
theorem planT_zero {n : Int} {r : List Int} (h : planT n = (r, 0)) : 36992 ≤ n := by
  unfold planT at h
  split at h
  · rename_i hc; exact hc.1
  · simp at h
attribute [local irreducible] crk crL crc Sl pt ro mbs sbB planT Dev imgS lineT
theorem ImBytes_no {A : SP} {sz tn : Int} {fl hcp : Nat} {ha : Option Addr} {hd : List Nat} {rt : Bool} (hrh : Rs A ha (bys hd)) (hhb : ∀ x ∈ hd, x < 256) (hfl : fl < 256) (hht : -9223372036854775808 ≤ tn ∧ tn ≤ 9223372036854775807) (hs : sz < 0 ∨ 4194368 < sz) :
    Fn Tryz.prog 66 #[.agg ([.int .i64 sz, .int .u8 (fl : Nat), .slice ha hd.length hcp, .bool rt, .int .i64 tn] : List Value).toArray] (A) (fun r B => r = .slice none 0 0 ∧ A = B) := by
  refine fn_enterW (args := [.agg ([.int .i64 sz, .int .u8 (fl : Nat), .slice ha hd.length hcp, .bool rt, .int .i64 tn] : List Value).toArray]) Tryz.func66 rfl Tryz.ntmps66 (by simp) ?_; refine sr ?_; refine tl_x rfl (o_box rfl rfl) ?_; rintro _ _ ⟨b1, rfl, rfl⟩; refine tla ?_; refine nq ?_; refine tc_seq ?_; refine sr ?_; refine tv (o_fieldAddr (o := 0) Tryz.underlying45 rfl rfl sz3 rfl) ?_; refine tv (by first | exact o_load p3 rfl (by repeat (first | with_reducible exact has_here | with_reducible exact has_pt | apply has_left)) rfl | exact o_loadC p3 rfl (by assumption)) ?_; refine tv (o_lss rfl rfl) ?_; refine tlm ?_; refine tl_bool (d := 14) rfl (fun h => ?_) (fun h => ?_)
  · try simp only [lv1, lv2, lv3, lv4, lv5, lv6, Bool.not_true, Bool.not_false] at h
    refine tk ?_; refine tk ?_; refine tk ?_; refine tv (o_pick_t rfl (by conv => lhs; whnf)) ?_; refine nq ?_; refine tc_cond_t rfl ?_; refine sr ?_; refine tla ?_; refine nq ?_; refine tc_ret ?_; refine q_then_r ?_; exact ⟨.slice none 0 0, A, res1 rfl rfl, Dr.sat (by repeat (first | with_reducible exact dr_refl | apply dr_keep | apply dr_drop)), rfl, rfl⟩
  · try simp only [lv1, lv2, lv3, lv4, lv5, lv6, Bool.not_true, Bool.not_false] at h
    refine tv (o_fieldAddr (o := 0) Tryz.underlying45 rfl rfl sz3 rfl) ?_; refine tv (by first | exact o_load p3 rfl (by repeat (first | with_reducible exact has_here | with_reducible exact has_pt | apply has_left)) rfl | exact o_loadC p3 rfl (by assumption)) ?_; refine tv (o_gtr rfl rfl) ?_; refine tv (o_pick_f rfl (by conv => lhs; whnf)) ?_; refine nq ?_; refine tc_cond rfl (fun h => ?_) (fun h => ?_)
    · try simp only [lv1, lv2, lv3, lv4, lv5, lv6, Bool.not_true, Bool.not_false] at h
      refine sr ?_; refine tla ?_; refine nq ?_; refine tc_ret ?_; refine q_then_r ?_; exact ⟨.slice none 0 0, A, res1 rfl rfl, Dr.sat (by repeat (first | with_reducible exact dr_refl | apply dr_keep | apply dr_drop)), rfl, rfl⟩
    · exfalso; simp at h; omega
set_option maxRecDepth 20000 in
set_option maxHeartbeats 2000000 in
theorem ImBytes_ok {A : SP} {n : Nat} {tn : Int} {fl hcp : Nat} {ha : Option Addr} {hd : List Nat} {rt : Bool} (hrh : Rs A ha (bys hd)) (hhb : ∀ x ∈ hd, x < 256) (hfl : fl < 256) (hht : -9223372036854775808 ≤ tn ∧ tn ≤ 9223372036854775807) (hn : n ≤ 4194368) (hhl : hd.length ≤ 140737488351232) :
    Fn Tryz.prog 66 #[.agg ([.int .i64 (n : Int), .int .u8 (fl : Nat), .slice ha hd.length hcp, .bool rt, .int .i64 tn] : List Value).toArray] (A) (fun r B => ∃ a c xs, r = .slice a n c ∧ n ≤ c ∧ xs.length = n ∧ (∀ x ∈ xs, x < 256) ∧ B = A * Sl 1 (.slice a n c) n (bys xs)) := by
  refine fn_enterW (args := [.agg ([.int .i64 (n : Int), .int .u8 (fl : Nat), .slice ha hd.length hcp, .bool rt, .int .i64 tn] : List Value).toArray]) Tryz.func66 rfl Tryz.ntmps66 (by simp) ?_; refine sr ?_; refine tl_x rfl (o_box rfl rfl) ?_; rintro _ _ ⟨b1, rfl, rfl⟩; refine tla ?_; refine nq ?_; refine tc_seq ?_; refine sr ?_; refine tv (o_fieldAddr (o := 0) Tryz.underlying45 rfl rfl sz3 rfl) ?_; refine tv (by first | exact o_load p3 rfl (by repeat (first | with_reducible exact has_here | with_reducible exact has_pt | apply has_left)) rfl | exact o_loadC p3 rfl (by assumption)) ?_; refine tv (o_lss rfl rfl) ?_; refine tlm ?_; refine tl_bool (d := 14) rfl (fun h => ?_) (fun h => ?_)
  · exfalso; simp at h; omega
  · try simp only [lv1, lv2, lv3, lv4, lv5, lv6, Bool.not_true, Bool.not_false] at h
    refine tv (o_fieldAddr (o := 0) Tryz.underlying45 rfl rfl sz3 rfl) ?_; refine tv (by first | exact o_load p3 rfl (by repeat (first | with_reducible exact has_here | with_reducible exact has_pt | apply has_left)) rfl | exact o_loadC p3 rfl (by assumption)) ?_; refine tv (o_gtr rfl rfl) ?_; refine tv (o_pick_f rfl (by conv => lhs; whnf)) ?_; refine nq ?_; refine tc_cond rfl (fun h => ?_) (fun h => ?_)
    · exfalso; simp at h; omega
    · try simp only [lv1, lv2, lv3, lv4, lv5, lv6, Bool.not_true, Bool.not_false] at h
      refine tc_skip ?_; refine q_then_n ?_; refine sr ?_; refine tv (o_fieldAddr (o := 0) Tryz.underlying45 rfl rfl sz3 rfl) ?_; refine tv (by first | exact o_load p3 rfl (by repeat (first | with_reducible exact has_here | with_reducible exact has_pt | apply has_left)) rfl | exact o_loadC p3 rfl (by assumption)) ?_; refine tl_x rfl (o_makeSlice (len := n) (cap := n) Tryz.underlying32 sz5 by5 z5 rfl rfl rfl (by omega) (by omega) (by omega)) ?_; rintro _ _ ⟨b21, rfl, rfl⟩; refine tl_pre (fun _ _ h => sl_new (k := 1) (n := n) (cap := n) (xs := bys (List.replicate n 0)) h (by omega) (by simp) (by rw [Nat.mul_one, List.take_of_length_le (by simp)]; unfold bys; rw [List.map_replicate]; rfl)) ?_; refine tla ?_; refine nq ?_; refine tc_seq ?_; refine sr ?_; refine tla ?_; refine nq ?_; refine tc_block ?_; refine tc_loop (fun kk ρ BB => ∃ (i : Nat) (xs : List Nat), (i ≤ n) ∧ (xs.length = n) ∧ (∀ x ∈ xs, x < 256) ∧ kk = n - i ∧ ρ 4 = .int .i64 (i : Nat) ∧ ρ 1 = .pointer (some ⟨b1, 0, none⟩) ∧ ρ 3 = .slice (some ⟨b21, 0, none⟩) n n ∧ BB = A * pt b1 (cl [.int .i64 (n : Int), .int .u8 (fl : Nat), .slice ha hd.length hcp, .bool rt, .int .i64 tn] 45) * Sl 1 (.slice (some ⟨b21, 0, none⟩) n n) n (bys xs)) (m := n - (0)) ?_ ?_
      · exact ⟨0, List.replicate n 0, Nat.zero_le _, by simp, fun x hx => by have := List.eq_of_mem_replicate hx; omega, rfl, rfl, rfl, rfl, rfl⟩
      · intro k ρ B hI
        obtain ⟨i, xs, hp0, hp1, hp2, hkk1, hE4, hE1, hE3, rfl⟩ := hI
        refine tc_env (d := 4) hE4 ?_; refine tc_env (d := 1) hE1 ?_; refine tc_env (d := 3) hE3 ?_
        clear hE4 hE1 hE3
        refine tc_seq ?_; refine sr ?_; refine tlm ?_; refine tlm ?_; refine tv (o_len Tryz.underlying32 rfl) ?_; refine tv (o_lss rfl rfl) ?_; refine nq ?_; refine tc_cond rfl (fun h => ?_) (fun h => ?_)
        · have hi : i < n := by simpa using h
          refine tc_skip ?_; refine q_then_n ?_; refine tc_seq ?_; refine tc_block ?_; refine tc_reg ?_; refine tlm ?_; refine tlm ?_; refine tv (o_fieldAddr (o := 1) Tryz.underlying45 rfl rfl sz5 rfl) ?_; refine tv (by first | exact o_load p5 rfl (by repeat (first | with_reducible exact has_here | with_reducible exact has_pt | apply has_left)) rfl | exact o_loadC p5 rfl (by assumption)) ?_; refine tv (o_ixP1 Tryz.underlying32 sz5 rfl rfl (by first | omega | (simp only [bys_length, ints_length, wds_length, bos_length, List.length_append, List.length_take, List.length_drop, List.length_singleton]; omega)) (by repeat (first | exact nn_some | with_reducible exact nn_sl (by decide) | exact nn_rs (by assumption) (fun _ => by first | omega | (simp only [bys_length, ints_length, wds_length, bos_length, List.length_append, List.length_take, List.length_drop, List.length_singleton]; omega)) | apply Nn.left))) ?_; refine tl_u rfl (o_stP (ys := bys (xs.set i fl)) sz5 rfl rfl rfl (by repeat (first | with_reducible exact ct_here | apply ct_left)) (by omega) (bys_set _ _ _)) ?_; refine tl_nil ?_; refine q_block_n (q_then_n ?_); refine tc_reg ?_; refine tlm ?_; refine tv (by first | exact o_addI rfl rfl (by omega) | exact o_add rfl rfl) ?_; refine tla ?_; refine nq ?_; exact ⟨_, by omega, i + 1, xs.set i fl, by omega, by rw [List.length_set]; exact hp1, set_lt hp2 hfl, rfl, rfl, rfl, rfl, rfl⟩
        · try simp only [lv1, lv2, lv3, lv4, lv5, lv6, Bool.not_true, Bool.not_false] at h
          refine tc_exit ?_; refine q_then_e (q_then_e (q_block_x (q_then_n ?_))); refine tc_seq ?_; refine sr ?_; refine tla ?_; refine nq ?_; refine tc_block ?_; refine tc_loop (fun kk ρ BB => ∃ (i : Nat) (xs : List Nat), (i ≤ n) ∧ (xs.length = n) ∧ (∀ x ∈ xs, x < 256) ∧ kk = n - i ∧ ρ 5 = .int .i64 (i : Nat) ∧ ρ 1 = .pointer (some ⟨b1, 0, none⟩) ∧ ρ 3 = .slice (some ⟨b21, 0, none⟩) n n ∧ BB = A * pt b1 (cl [.int .i64 (n : Int), .int .u8 (fl : Nat), .slice ha hd.length hcp, .bool rt, .int .i64 tn] 45) * Sl 1 (.slice (some ⟨b21, 0, none⟩) n n) n (bys xs)) (m := n - (0)) ?_ ?_
          · exact ⟨0, xs, Nat.zero_le _, hp1, hp2, rfl, rfl, rfl, rfl, rfl⟩
          · intro k ρ B hI
            obtain ⟨i, xs, hp0, hp1, hp2, hkk2, hE5, hE1, hE3, rfl⟩ := hI
            refine tc_env (d := 5) hE5 ?_; refine tc_env (d := 1) hE1 ?_; refine tc_env (d := 3) hE3 ?_
            clear hE5 hE1 hE3
            refine tc_seq ?_; refine sr ?_; refine tlm ?_; refine tlm ?_; refine tv (o_len Tryz.underlying32 rfl) ?_; refine tv (o_lss rfl rfl) ?_; refine tlm ?_; refine tl_bool (d := 37) rfl (fun h => ?_) (fun h => ?_)
            · have hin : i < n := by simpa using h
              refine tlm ?_; refine tv (o_fieldAddr (o := 2) Tryz.underlying45 rfl rfl sz32 rfl) ?_; refine tv (by first | exact o_load p32 rfl (by repeat (first | with_reducible exact has_here | with_reducible exact has_pt | apply has_left)) rfl | exact o_loadC p32 rfl (by assumption)) ?_; refine tv (o_len Tryz.underlying32 rfl) ?_; refine tv (o_lss rfl rfl) ?_; refine tv (o_pick_t rfl (by conv => lhs; whnf)) ?_; refine nq ?_; refine tc_cond rfl (fun h => ?_) (fun h => ?_)
              · have hi : i < hd.length := by simp at h; omega
                refine tc_skip ?_; refine q_then_n ?_; refine tc_seq ?_; refine tc_block ?_; refine tc_reg ?_; refine tlm ?_; refine tlm ?_; refine tv (o_fieldAddr (o := 2) Tryz.underlying45 rfl rfl sz32 rfl) ?_; refine tv (by first | exact o_load p32 rfl (by repeat (first | with_reducible exact has_here | with_reducible exact has_pt | apply has_left)) rfl | exact o_loadC p32 rfl (by assumption)) ?_; refine tlm ?_; refine tv (o_ixP1 Tryz.underlying32 sz5 rfl rfl (by omega) (nn_rs (by repeat (first | exact hrh | apply Rs.left)) (fun _ => by rw [bys_length]; omega))) ?_; refine tv (o_ldP p5 rfl (by repeat (first | exact hrh | apply Rs.left)) (bys_at hi)) ?_; refine tv (o_ixP1 Tryz.underlying32 sz5 rfl rfl (by first | omega | (simp only [bys_length, ints_length, wds_length, bos_length, List.length_append, List.length_take, List.length_drop, List.length_singleton]; omega)) (by repeat (first | exact nn_some | with_reducible exact nn_sl (by decide) | exact nn_rs (by assumption) (fun _ => by first | omega | (simp only [bys_length, ints_length, wds_length, bos_length, List.length_append, List.length_take, List.length_drop, List.length_singleton]; omega)) | apply Nn.left))) ?_; refine tl_u rfl (o_stP (ys := bys (xs.set i hd[i])) sz5 rfl rfl rfl (by repeat (first | with_reducible exact ct_here | apply ct_left)) (by omega) (bys_set _ _ _)) ?_
                refine tl_nil ?_; refine q_block_n (q_then_n ?_); refine tc_reg ?_; refine tlm ?_; refine tv (by first | exact o_addI rfl rfl (by omega) | exact o_add rfl rfl) ?_; refine tla ?_; refine nq ?_; exact ⟨_, by omega, i + 1, xs.set i hd[i], by omega, by rw [List.length_set]; exact hp1, set_lt hp2 (hhb _ (List.getElem_mem hi)), rfl, rfl, rfl, rfl, rfl⟩
              · try simp only [lv1, lv2, lv3, lv4, lv5, lv6, Bool.not_true, Bool.not_false] at h
                refine tc_exit ?_; refine q_then_e (q_then_e (q_block_x (q_then_n ?_))); refine tc_seq ?_
                obtain ⟨q0, q1, q2, q3, q4, pe, hpl, hpl4, hpl5⟩ := planT_five (n : Int)
                refine tc_reg ?_; refine tv (o_fieldAddr (o := 0) Tryz.underlying45 rfl rfl sz3 rfl) ?_; refine tv (by first | exact o_load p3 rfl (by repeat (first | with_reducible exact has_here | with_reducible exact has_pt | apply has_left)) rfl | exact o_loadC p3 rfl (by assumption)) ?_; refine tl_c rfl (o_call bd62 rfl (PlanR_q hpl)) ?_; rintro _ _ ⟨rfl, rfl⟩; refine tlm ?_; refine tv (o_extract rfl rfl) ?_; refine tv (o_extract rfl rfl) ?_; refine tl_x rfl (o_alloc z42 rfl) ?_; rintro _ _ ⟨b6, rfl, rfl⟩; refine tl_u rfl (o_stUN (l' := ints [q0, q1, q2, q3, q4]) rfl (by repeat (first | with_reducible exact upd_here | with_reducible exact upd_pt | apply upd_left)) sz42 rfl rfl rfl (by show 5 ≤ 5; decide) rfl) ?_; refine tla ?_; refine nq ?_; refine tc_seq ?_; refine sr ?_; refine tv (o_fieldAddr (o := 3) Tryz.underlying45 rfl rfl sz4 rfl) ?_; refine tv (by first | exact o_load p4 rfl (by repeat (first | with_reducible exact has_here | with_reducible exact has_pt | apply has_left)) rfl | exact o_loadC p4 rfl (by assumption)) ?_; refine tlm ?_; refine tl_bool (d := 62) rfl (fun h => ?_) (fun h => ?_)
                · try simp only [lv1, lv2, lv3, lv4, lv5, lv6, Bool.not_true, Bool.not_false] at h
                  refine tlm ?_; refine tv (o_eqi rfl rfl) ?_; refine tv (o_pick_t rfl (by conv => lhs; whnf)) ?_; refine nq ?_; refine tc_cond rfl (fun h => ?_) (fun h => ?_)
                  · have hpe : pe = 0 := by simp at h; omega
                    subst hpe
                    have hn64 : 64 ≤ n := by have := planT_zero hpl; omega
                    obtain ⟨hL1, hL2⟩ := lineT_len q0 q1 q2 q3 q4
                    refine sr ?_; refine tv (o_loadN (vs := ints [q0, q1, q2, q3, q4]) a42 sz42 rfl (by repeat (first | with_reducible exact has_here | with_reducible exact has_pt | apply has_left)) (by show 5 ≤ 5; decide) rfl) ?_; refine tl_c rfl (o_call bd64 rfl (LineR_u (q0 := q0) (q1 := q1) (q2 := q2) (q3 := q3) (q4 := q4))) ?_; rintro _ _ ⟨a68, c68, rfl, hc68, rfl⟩
                    obtain ⟨L, hL⟩ : ∃ L, L = (lineT q0 q1 q2 q3 q4).1 := ⟨_, rfl⟩
                    rw [← hL] at hL1 hL2 hc68 ⊢
                    refine tlm ?_; refine tv (o_extract rfl rfl) ?_; refine tv (o_extract rfl rfl) ?_; refine tla ?_; refine tla ?_; refine nq ?_; refine tc_seq ?_; refine sr ?_; refine tla ?_; refine nq ?_; refine tc_block ?_; refine tc_loop (fun kk ρ BB => ∃ (i : Nat) (xs : List Nat), (i ≤ L.length) ∧ (xs.length = n) ∧ (∀ x ∈ xs, x < 256) ∧ kk = L.length - i ∧ ρ 10 = .int .i64 (i : Nat) ∧ ρ 1 = .pointer (some ⟨b1, 0, none⟩) ∧ ρ 3 = .slice (some ⟨b21, 0, none⟩) n n ∧ ρ 8 = .slice a68 L.length c68 ∧ BB = A * pt b1 (cl [.int .i64 (n : Int), .int .u8 (fl : Nat), .slice ha hd.length hcp, .bool rt, .int .i64 tn] 45) * Sl 1 (.slice (some ⟨b21, 0, none⟩) n n) n (bys xs) * pt b6 (cl (ints [q0, q1, q2, q3, q4]) 42) * Sl 1 (.slice a68 L.length c68) L.length (bys L)) (m := L.length - (0)) ?_ ?_
                    · exact ⟨0, xs, Nat.zero_le _, hp1, hp2, rfl, rfl, rfl, rfl, rfl, rfl⟩
                    · intro k ρ B hI
                      obtain ⟨i, xs, hp0, hp1, hp2, hkk3, hE10, hE1, hE3, hE8, rfl⟩ := hI
                      refine tc_env (d := 10) hE10 ?_; refine tc_env (d := 1) hE1 ?_; refine tc_env (d := 3) hE3 ?_; refine tc_env (d := 8) hE8 ?_
                      clear hE10 hE1 hE3 hE8
                      refine tc_seq ?_; refine sr ?_; refine tlm ?_; refine tlm ?_; refine tv (o_len Tryz.underlying32 rfl) ?_; refine tv (o_lss rfl rfl) ?_; refine nq ?_; refine tc_cond rfl (fun h => ?_) (fun h => ?_)
                      · have hi : i < L.length := by simpa using h
                        refine tc_skip ?_; refine q_then_n ?_; refine tc_seq ?_; refine tc_block ?_; refine tc_reg ?_; refine tlm ?_; refine tlm ?_; refine tlm ?_; refine tlm ?_; refine tv (o_ixP1 Tryz.underlying32 sz5 rfl rfl (by omega) (nn_rs (by repeat (first | with_reducible exact rs_sl | apply Rs.left)) (fun _ => by rw [bys_length]; omega))) ?_; refine tv (o_ldP p5 rfl (by repeat (first | with_reducible exact rs_sl | apply Rs.left)) (bys_at hi)) ?_; refine tv (o_ixP1 Tryz.underlying32 sz5 rfl rfl (by first | omega | (simp only [bys_length, ints_length, wds_length, bos_length, List.length_append, List.length_take, List.length_drop, List.length_singleton]; omega)) (by repeat (first | exact nn_some | with_reducible exact nn_sl (by decide) | exact nn_rs (by assumption) (fun _ => by first | omega | (simp only [bys_length, ints_length, wds_length, bos_length, List.length_append, List.length_take, List.length_drop, List.length_singleton]; omega)) | apply Nn.left))) ?_; refine tl_u rfl (o_stP (ys := bys (xs.set i L[i])) sz5 rfl rfl rfl (by repeat (first | with_reducible exact ct_here | apply ct_left)) (by omega) (bys_set _ _ _)) ?_; refine tl_nil ?_; refine q_block_n (q_then_n ?_)
                        refine tc_reg ?_; refine tlm ?_; refine tv (by first | exact o_addI rfl rfl (by omega) | exact o_add rfl rfl) ?_; refine tla ?_; refine nq ?_; exact ⟨_, by omega, i + 1, xs.set i L[i], by omega, by rw [List.length_set]; exact hp1, set_lt hp2 (hL2 _ (List.getElem_mem hi)), rfl, rfl, rfl, rfl, rfl, rfl⟩
                      · try simp only [lv1, lv2, lv3, lv4, lv5, lv6, Bool.not_true, Bool.not_false] at h
                        refine tc_exit ?_; refine q_then_e (q_then_e (q_block_x (q_then_n ?_))); refine sr ?_; refine tv (o_fieldAddr (o := 4) Tryz.underlying45 rfl rfl sz3 rfl) ?_; refine tv (by first | exact o_load p3 rfl (by repeat (first | with_reducible exact has_here | with_reducible exact has_pt | apply has_left)) rfl | exact o_loadC p3 rfl (by assumption)) ?_; refine tv (o_gtr rfl rfl) ?_; refine tlm ?_; refine tl_bool (d := 87) rfl (fun h => ?_) (fun h => ?_)
                        · have ht0 : 0 < tn := by simpa using h
                          refine tv (o_fieldAddr (o := 4) Tryz.underlying45 rfl rfl sz3 rfl) ?_; refine tv (by first | exact o_load p3 rfl (by repeat (first | with_reducible exact has_here | with_reducible exact has_pt | apply has_left)) rfl | exact o_loadC p3 rfl (by assumption)) ?_; refine tv (o_leq rfl rfl) ?_; refine tv (o_pick_t rfl (by conv => lhs; whnf)) ?_; refine nq ?_; refine tc_cond rfl (fun h => ?_) (fun h => ?_)
                          · obtain ⟨k, hk, hk5⟩ : ∃ k : Nat, tn - 1 = (k : Int) ∧ k < 512 := ⟨(tn - 1).toNat, by omega, by simp at h; omega⟩
                            have hj8 : k / 8 < xs.length := by omega
                            have hx8 := hp2 _ (List.getElem_mem hj8)
                            have h2p : 2 ^ (k % 8) < 256 := by
                              have : 2 ^ (k % 8) ≤ 2 ^ 7 := Nat.pow_le_pow_right (by decide) (by omega)
                              omega
                            have hx9 : xs[k / 8] ^^^ 2 ^ (k % 8) < 256 := Nat.xor_lt_two_pow (n := 8) (by omega) (by omega)
                            refine tc_regh (S := A * pt b1 (cl [.int .i64 (n : Int), .int .u8 (fl : Nat), .slice ha hd.length hcp, .bool rt, .int .i64 tn] 45)) mo (by repeat (first | with_reducible exact dr_refl | apply dr_keep | apply dr_drop)) ?_
                            show TH _ _ _ _ _ 20 #[ff,ff,ff,ff,ff,ff,ff,ff,ff,ff,ff,ff,ff,ff,ff,ff,ff,ff,ff,ff] _ _
                            refine th_take (i := 0) (listed' := #[tt,ff,ff,ff,ff,ff,ff,ff,ff,ff,ff,ff,ff,ff,ff,ff,ff,ff,ff,ff]) rfl (by kernel_rfl) (by kernel_rfl) (by kernel_rfl) rfl rfl (o_move (by conv => lhs; whnf)) ?_; refine th_take (i := 1) (listed' := #[tt,tt,ff,ff,ff,ff,ff,ff,ff,ff,ff,ff,ff,ff,ff,ff,ff,ff,ff,ff]) rfl (by kernel_rfl) (by kernel_rfl) (by kernel_rfl) rfl rfl (o_fieldAddr (o := 4) Tryz.underlying45 rfl rfl sz3 rfl) ?_; refine th_take (i := 2) (listed' := #[tt,tt,tt,ff,ff,ff,ff,ff,ff,ff,ff,ff,ff,ff,ff,ff,ff,ff,ff,ff]) rfl (by kernel_rfl) (by kernel_rfl) (by kernel_rfl) rfl rfl (by first | exact o_load p3 rfl (by repeat (first | with_reducible exact has_here | with_reducible exact has_pt | apply has_left)) rfl | exact o_loadC p3 rfl (by assumption)) ?_; refine th_take (i := 3) (listed' := #[tt,tt,tt,tt,ff,ff,ff,ff,ff,ff,ff,ff,ff,ff,ff,ff,ff,ff,ff,ff]) rfl (by kernel_rfl) (by kernel_rfl) (by kernel_rfl) rfl rfl (by first | exact o_subI rfl rfl (by omega) | exact o_sub rfl rfl) ?_; refine th_env (d := 95) (v := .int .i64 (k : Nat)) (congrArg (Value.int .i64) hk) ?_; refine th_take (i := 4) (listed' := #[tt,tt,tt,tt,tt,ff,ff,ff,ff,ff,ff,ff,ff,ff,ff,ff,ff,ff,ff,ff]) rfl (by kernel_rfl) (by kernel_rfl) (by kernel_rfl) rfl rfl (o_quoN (b := 8) rfl rfl (by omega)) ?_; refine th_take (i := 5) (listed' := #[tt,tt,tt,tt,tt,tt,ff,ff,ff,ff,ff,ff,ff,ff,ff,ff,ff,ff,ff,ff]) rfl (by kernel_rfl) (by kernel_rfl) (by kernel_rfl) rfl rfl (o_move (by conv => lhs; whnf)) ?_
                            refine th_take (i := 6) (listed' := #[tt,tt,tt,tt,tt,tt,tt,ff,ff,ff,ff,ff,ff,ff,ff,ff,ff,ff,ff,ff]) rfl (by kernel_rfl) (by kernel_rfl) (by kernel_rfl) rfl rfl (o_fieldAddr (o := 4) Tryz.underlying45 rfl rfl sz3 rfl) ?_; refine th_take (i := 7) (listed' := #[tt,tt,tt,tt,tt,tt,tt,tt,ff,ff,ff,ff,ff,ff,ff,ff,ff,ff,ff,ff]) rfl (by kernel_rfl) (by kernel_rfl) (by kernel_rfl) rfl rfl (by first | exact o_load p3 rfl (by repeat (first | with_reducible exact has_here | with_reducible exact has_pt | apply has_left)) rfl | exact o_loadC p3 rfl (by assumption)) ?_; refine th_take (i := 8) (listed' := #[tt,tt,tt,tt,tt,tt,tt,tt,tt,ff,ff,ff,ff,ff,ff,ff,ff,ff,ff,ff]) rfl (by kernel_rfl) (by kernel_rfl) (by kernel_rfl) rfl rfl (by first | exact o_subI rfl rfl (by omega) | exact o_sub rfl rfl) ?_; refine th_env (d := 100) (v := .int .i64 (k : Nat)) (congrArg (Value.int .i64) hk) ?_; refine th_take (i := 9) (listed' := #[tt,tt,tt,tt,tt,tt,tt,tt,tt,tt,ff,ff,ff,ff,ff,ff,ff,ff,ff,ff]) rfl (by kernel_rfl) (by kernel_rfl) (by kernel_rfl) rfl rfl (o_quoN (b := 8) rfl rfl (by omega)) ?_; refine th_take (i := 10) (listed' := #[tt,tt,tt,tt,tt,tt,tt,tt,tt,tt,tt,ff,ff,ff,ff,ff,ff,ff,ff,ff]) rfl (by kernel_rfl) (by kernel_rfl) (by kernel_rfl) rfl rfl (o_ixP1 Tryz.underlying32 sz5 rfl rfl (by first | omega | (simp only [bys_length, ints_length, wds_length, bos_length, List.length_append, List.length_take, List.length_drop, List.length_singleton]; omega)) (by repeat (first | exact nn_some | with_reducible exact nn_sl (by decide) | exact nn_rs (by assumption) (fun _ => by first | omega | (simp only [bys_length, ints_length, wds_length, bos_length, List.length_append, List.length_take, List.length_drop, List.length_singleton]; omega)) | apply Nn.left))) ?_
                            refine th_take (i := 12) (listed' := #[tt,tt,tt,tt,tt,tt,tt,tt,tt,tt,tt,ff,tt,ff,ff,ff,ff,ff,ff,ff]) rfl (by kernel_rfl) (by kernel_rfl) (by kernel_rfl) rfl rfl (o_fieldAddr (o := 4) Tryz.underlying45 rfl rfl sz3 rfl) ?_; refine th_take (i := 13) (listed' := #[tt,tt,tt,tt,tt,tt,tt,tt,tt,tt,tt,ff,tt,tt,ff,ff,ff,ff,ff,ff]) rfl (by kernel_rfl) (by kernel_rfl) (by kernel_rfl) rfl rfl (by first | exact o_load p3 rfl (by repeat (first | with_reducible exact has_here | with_reducible exact has_pt | apply has_left)) rfl | exact o_loadC p3 rfl (by assumption)) ?_; refine th_take (i := 14) (listed' := #[tt,tt,tt,tt,tt,tt,tt,tt,tt,tt,tt,ff,tt,tt,tt,ff,ff,ff,ff,ff]) rfl (by kernel_rfl) (by kernel_rfl) (by kernel_rfl) rfl rfl (by first | exact o_subI rfl rfl (by omega) | exact o_sub rfl rfl) ?_; refine th_env (d := 106) (v := .int .i64 (k : Nat)) (congrArg (Value.int .i64) hk) ?_; refine th_take (i := 15) (listed' := #[tt,tt,tt,tt,tt,tt,tt,tt,tt,tt,tt,ff,tt,tt,tt,tt,ff,ff,ff,ff]) rfl (by kernel_rfl) (by kernel_rfl) (by kernel_rfl) rfl rfl (o_remN (b := 8) rfl rfl (by omega)) ?_; refine th_take (i := 16) (listed' := #[tt,tt,tt,tt,tt,tt,tt,tt,tt,tt,tt,ff,tt,tt,tt,tt,tt,ff,ff,ff]) rfl (by kernel_rfl) (by kernel_rfl) (by kernel_rfl) rfl rfl (o_shlm (a := 1) (b := k % 8) rfl rfl rfl rfl (by show _ ≤ 8; omega)) ?_; refine th_env (d := 108) (v := .int .u8 ((2 ^ (k % 8) : Nat) : Int)) (congrArg (fun z : Nat => Value.int .u8 (z : Int)) (show 1 * 2 ^ (k % 8) % 256 = 2 ^ (k % 8) by omega)) ?_
                            refine th_one (i := 11) (by kernel_rfl) ?_; refine oh_v (i := 11) (listed' := #[tt,tt,tt,tt,tt,tt,tt,tt,tt,tt,tt,tt,tt,tt,tt,tt,tt,ff,ff,ff]) rfl rfl rfl (o_ldP p5 rfl (by repeat (first | with_reducible exact rs_sl | apply Rs.left)) (bys_at hj8)) ?_; refine th_take (i := 17) (listed' := #[tt,tt,tt,tt,tt,tt,tt,tt,tt,tt,tt,tt,tt,tt,tt,tt,tt,tt,ff,ff]) rfl (by kernel_rfl) (by kernel_rfl) (by kernel_rfl) rfl rfl (o_xorN rfl rfl rfl (by show _ < 256; exact hx8) (by show _ < 256; exact h2p)) ?_; refine th_take (i := 18) (listed' := #[tt,tt,tt,tt,tt,tt,tt,tt,tt,tt,tt,tt,tt,tt,tt,tt,tt,tt,tt,ff]) rfl (by kernel_rfl) (by kernel_rfl) (by kernel_rfl) rfl rfl (o_ixP1 Tryz.underlying32 sz5 rfl rfl (by first | omega | (simp only [bys_length, ints_length, wds_length, bos_length, List.length_append, List.length_take, List.length_drop, List.length_singleton]; omega)) (by repeat (first | exact nn_some | with_reducible exact nn_sl (by decide) | exact nn_rs (by assumption) (fun _ => by first | omega | (simp only [bys_length, ints_length, wds_length, bos_length, List.length_append, List.length_take, List.length_drop, List.length_singleton]; omega)) | apply Nn.left))) ?_; refine th_one (i := 19) (by kernel_rfl) ?_; refine oh_u (i := 19) (listed' := #[tt,tt,tt,tt,tt,tt,tt,tt,tt,tt,tt,tt,tt,tt,tt,tt,tt,tt,tt,tt]) rfl rfl rfl (o_stP (ys := bys (xs.set (k / 8) (xs[k / 8] ^^^ 2 ^ (k % 8)))) sz5 rfl rfl rfl (by repeat (first | with_reducible exact ct_here | apply ct_left)) (by omega) (bys_set _ _ _)) (by repeat (first | with_reducible exact dr_refl | apply dr_keep | apply dr_drop)) ?_
                            refine th_done (by kernel_rfl) ?_; refine q_then_n ?_; refine sr ?_; refine tlm ?_; refine tla ?_; refine nq ?_; refine tc_ret ?_
                            first
                            | exact ⟨.slice (some ⟨b21, 0, none⟩) n n, A * Sl 1 (.slice (some ⟨b21, 0, none⟩) n n) n (bys (xs.set (k / 8) (xs[k / 8] ^^^ 2 ^ (k % 8)))), res1 rfl rfl, Dr.sat (by repeat (first | with_reducible exact dr_refl | apply dr_keep | apply dr_drop)), _, _, _, rfl, Nat.le_refl _, by rw [List.length_set]; exact hp1, set_lt hp2 hx9, rfl⟩
                            | exact ⟨.slice (some ⟨b21, 0, none⟩) n n, A * Sl 1 (.slice (some ⟨b21, 0, none⟩) n n) n (bys xs), res1 rfl rfl, Dr.sat (by repeat (first | with_reducible exact dr_refl | apply dr_keep | apply dr_drop)), _, _, _, rfl, Nat.le_refl _, hp1, hp2, rfl⟩
                          · try simp only [lv1, lv2, lv3, lv4, lv5, lv6, Bool.not_true, Bool.not_false] at h
                            refine tc_skip ?_; refine q_then_n ?_; refine sr ?_; refine tlm ?_; refine tla ?_; refine nq ?_; refine tc_ret ?_
                            first
                            | exact ⟨.slice (some ⟨b21, 0, none⟩) n n, A * Sl 1 (.slice (some ⟨b21, 0, none⟩) n n) n (bys (xs.set (k / 8) (xs[k / 8] ^^^ 2 ^ (k % 8)))), res1 rfl rfl, Dr.sat (by repeat (first | with_reducible exact dr_refl | apply dr_keep | apply dr_drop)), _, _, _, rfl, Nat.le_refl _, by rw [List.length_set]; exact hp1, set_lt hp2 hx9, rfl⟩
                            | exact ⟨.slice (some ⟨b21, 0, none⟩) n n, A * Sl 1 (.slice (some ⟨b21, 0, none⟩) n n) n (bys xs), res1 rfl rfl, Dr.sat (by repeat (first | with_reducible exact dr_refl | apply dr_keep | apply dr_drop)), _, _, _, rfl, Nat.le_refl _, hp1, hp2, rfl⟩
                        · try simp only [lv1, lv2, lv3, lv4, lv5, lv6, Bool.not_true, Bool.not_false] at h
                          refine tk ?_; refine tk ?_; refine tk ?_; refine tv (o_pick_f rfl (by conv => lhs; whnf)) ?_; refine nq ?_; refine tc_cond_f rfl ?_; refine tc_skip ?_; refine q_then_n ?_; refine sr ?_; refine tlm ?_; refine tla ?_; refine nq ?_; refine tc_ret ?_
                          first
                          | exact ⟨.slice (some ⟨b21, 0, none⟩) n n, A * Sl 1 (.slice (some ⟨b21, 0, none⟩) n n) n (bys (xs.set (k / 8) (xs[k / 8] ^^^ 2 ^ (k % 8)))), res1 rfl rfl, Dr.sat (by repeat (first | with_reducible exact dr_refl | apply dr_keep | apply dr_drop)), _, _, _, rfl, Nat.le_refl _, by rw [List.length_set]; exact hp1, set_lt hp2 hx9, rfl⟩
                          | exact ⟨.slice (some ⟨b21, 0, none⟩) n n, A * Sl 1 (.slice (some ⟨b21, 0, none⟩) n n) n (bys xs), res1 rfl rfl, Dr.sat (by repeat (first | with_reducible exact dr_refl | apply dr_keep | apply dr_drop)), _, _, _, rfl, Nat.le_refl _, hp1, hp2, rfl⟩
                  · try simp only [lv1, lv2, lv3, lv4, lv5, lv6, Bool.not_true, Bool.not_false] at h
                    refine tc_skip ?_; refine q_then_n ?_; refine sr ?_; refine tlm ?_; refine tla ?_; refine nq ?_; refine tc_ret ?_
                    first
                    | exact ⟨.slice (some ⟨b21, 0, none⟩) n n, A * Sl 1 (.slice (some ⟨b21, 0, none⟩) n n) n (bys (xs.set (k / 8) (xs[k / 8] ^^^ 2 ^ (k % 8)))), res1 rfl rfl, Dr.sat (by repeat (first | with_reducible exact dr_refl | apply dr_keep | apply dr_drop)), _, _, _, rfl, Nat.le_refl _, by rw [List.length_set]; exact hp1, set_lt hp2 hx9, rfl⟩
                    | exact ⟨.slice (some ⟨b21, 0, none⟩) n n, A * Sl 1 (.slice (some ⟨b21, 0, none⟩) n n) n (bys xs), res1 rfl rfl, Dr.sat (by repeat (first | with_reducible exact dr_refl | apply dr_keep | apply dr_drop)), _, _, _, rfl, Nat.le_refl _, hp1, hp2, rfl⟩
                · try simp only [lv1, lv2, lv3, lv4, lv5, lv6, Bool.not_true, Bool.not_false] at h
                  refine tk ?_; refine tk ?_; refine tv (o_pick_f rfl (by conv => lhs; whnf)) ?_; refine nq ?_; refine tc_cond_f rfl ?_; refine tc_skip ?_; refine q_then_n ?_; refine sr ?_; refine tlm ?_; refine tla ?_; refine nq ?_; refine tc_ret ?_
                  first
                  | exact ⟨.slice (some ⟨b21, 0, none⟩) n n, A * Sl 1 (.slice (some ⟨b21, 0, none⟩) n n) n (bys (xs.set (k / 8) (xs[k / 8] ^^^ 2 ^ (k % 8)))), res1 rfl rfl, Dr.sat (by repeat (first | with_reducible exact dr_refl | apply dr_keep | apply dr_drop)), _, _, _, rfl, Nat.le_refl _, by rw [List.length_set]; exact hp1, set_lt hp2 hx9, rfl⟩
                  | exact ⟨.slice (some ⟨b21, 0, none⟩) n n, A * Sl 1 (.slice (some ⟨b21, 0, none⟩) n n) n (bys xs), res1 rfl rfl, Dr.sat (by repeat (first | with_reducible exact dr_refl | apply dr_keep | apply dr_drop)), _, _, _, rfl, Nat.le_refl _, hp1, hp2, rfl⟩
            · try simp only [lv1, lv2, lv3, lv4, lv5, lv6, Bool.not_true, Bool.not_false] at h
              refine tk ?_; refine tk ?_; refine tk ?_; refine tk ?_; refine tk ?_; refine tv (o_pick_f rfl (by conv => lhs; whnf)) ?_; refine nq ?_; refine tc_cond_f rfl ?_; refine tc_exit ?_; refine q_then_e (q_then_e (q_block_x (q_then_n ?_))); refine tc_seq ?_
              obtain ⟨q0, q1, q2, q3, q4, pe, hpl, hpl4, hpl5⟩ := planT_five (n : Int)
              refine tc_reg ?_; refine tv (o_fieldAddr (o := 0) Tryz.underlying45 rfl rfl sz3 rfl) ?_; refine tv (by first | exact o_load p3 rfl (by repeat (first | with_reducible exact has_here | with_reducible exact has_pt | apply has_left)) rfl | exact o_loadC p3 rfl (by assumption)) ?_; refine tl_c rfl (o_call bd62 rfl (PlanR_q hpl)) ?_; rintro _ _ ⟨rfl, rfl⟩; refine tlm ?_; refine tv (o_extract rfl rfl) ?_; refine tv (o_extract rfl rfl) ?_; refine tl_x rfl (o_alloc z42 rfl) ?_; rintro _ _ ⟨b6, rfl, rfl⟩; refine tl_u rfl (o_stUN (l' := ints [q0, q1, q2, q3, q4]) rfl (by repeat (first | with_reducible exact upd_here | with_reducible exact upd_pt | apply upd_left)) sz42 rfl rfl rfl (by show 5 ≤ 5; decide) rfl) ?_; refine tla ?_; refine nq ?_; refine tc_seq ?_; refine sr ?_; refine tv (o_fieldAddr (o := 3) Tryz.underlying45 rfl rfl sz4 rfl) ?_; refine tv (by first | exact o_load p4 rfl (by repeat (first | with_reducible exact has_here | with_reducible exact has_pt | apply has_left)) rfl | exact o_loadC p4 rfl (by assumption)) ?_; refine tlm ?_; refine tl_bool (d := 62) rfl (fun h => ?_) (fun h => ?_)
              · try simp only [lv1, lv2, lv3, lv4, lv5, lv6, Bool.not_true, Bool.not_false] at h
                refine tlm ?_; refine tv (o_eqi rfl rfl) ?_; refine tv (o_pick_t rfl (by conv => lhs; whnf)) ?_; refine nq ?_; refine tc_cond rfl (fun h => ?_) (fun h => ?_)
                · have hpe : pe = 0 := by simp at h; omega
                  subst hpe
                  have hn64 : 64 ≤ n := by have := planT_zero hpl; omega
                  obtain ⟨hL1, hL2⟩ := lineT_len q0 q1 q2 q3 q4
                  refine sr ?_; refine tv (o_loadN (vs := ints [q0, q1, q2, q3, q4]) a42 sz42 rfl (by repeat (first | with_reducible exact has_here | with_reducible exact has_pt | apply has_left)) (by show 5 ≤ 5; decide) rfl) ?_; refine tl_c rfl (o_call bd64 rfl (LineR_u (q0 := q0) (q1 := q1) (q2 := q2) (q3 := q3) (q4 := q4))) ?_; rintro _ _ ⟨a68, c68, rfl, hc68, rfl⟩
                  obtain ⟨L, hL⟩ : ∃ L, L = (lineT q0 q1 q2 q3 q4).1 := ⟨_, rfl⟩
                  rw [← hL] at hL1 hL2 hc68 ⊢
                  refine tlm ?_; refine tv (o_extract rfl rfl) ?_; refine tv (o_extract rfl rfl) ?_; refine tla ?_; refine tla ?_; refine nq ?_; refine tc_seq ?_; refine sr ?_; refine tla ?_; refine nq ?_; refine tc_block ?_; refine tc_loop (fun kk ρ BB => ∃ (i : Nat) (xs : List Nat), (i ≤ L.length) ∧ (xs.length = n) ∧ (∀ x ∈ xs, x < 256) ∧ kk = L.length - i ∧ ρ 10 = .int .i64 (i : Nat) ∧ ρ 1 = .pointer (some ⟨b1, 0, none⟩) ∧ ρ 3 = .slice (some ⟨b21, 0, none⟩) n n ∧ ρ 8 = .slice a68 L.length c68 ∧ BB = A * pt b1 (cl [.int .i64 (n : Int), .int .u8 (fl : Nat), .slice ha hd.length hcp, .bool rt, .int .i64 tn] 45) * Sl 1 (.slice (some ⟨b21, 0, none⟩) n n) n (bys xs) * pt b6 (cl (ints [q0, q1, q2, q3, q4]) 42) * Sl 1 (.slice a68 L.length c68) L.length (bys L)) (m := L.length - (0)) ?_ ?_
                  · exact ⟨0, xs, Nat.zero_le _, hp1, hp2, rfl, rfl, rfl, rfl, rfl, rfl⟩
                  · intro k ρ B hI
                    obtain ⟨i, xs, hp0, hp1, hp2, hkk3, hE10, hE1, hE3, hE8, rfl⟩ := hI
                    refine tc_env (d := 10) hE10 ?_; refine tc_env (d := 1) hE1 ?_; refine tc_env (d := 3) hE3 ?_; refine tc_env (d := 8) hE8 ?_
                    clear hE10 hE1 hE3 hE8
                    refine tc_seq ?_; refine sr ?_; refine tlm ?_; refine tlm ?_; refine tv (o_len Tryz.underlying32 rfl) ?_; refine tv (o_lss rfl rfl) ?_; refine nq ?_; refine tc_cond rfl (fun h => ?_) (fun h => ?_)
                    · have hi : i < L.length := by simpa using h
                      refine tc_skip ?_; refine q_then_n ?_; refine tc_seq ?_; refine tc_block ?_; refine tc_reg ?_; refine tlm ?_; refine tlm ?_; refine tlm ?_; refine tlm ?_; refine tv (o_ixP1 Tryz.underlying32 sz5 rfl rfl (by omega) (nn_rs (by repeat (first | with_reducible exact rs_sl | apply Rs.left)) (fun _ => by rw [bys_length]; omega))) ?_; refine tv (o_ldP p5 rfl (by repeat (first | with_reducible exact rs_sl | apply Rs.left)) (bys_at hi)) ?_; refine tv (o_ixP1 Tryz.underlying32 sz5 rfl rfl (by first | omega | (simp only [bys_length, ints_length, wds_length, bos_length, List.length_append, List.length_take, List.length_drop, List.length_singleton]; omega)) (by repeat (first | exact nn_some | with_reducible exact nn_sl (by decide) | exact nn_rs (by assumption) (fun _ => by first | omega | (simp only [bys_length, ints_length, wds_length, bos_length, List.length_append, List.length_take, List.length_drop, List.length_singleton]; omega)) | apply Nn.left))) ?_; refine tl_u rfl (o_stP (ys := bys (xs.set i L[i])) sz5 rfl rfl rfl (by repeat (first | with_reducible exact ct_here | apply ct_left)) (by omega) (bys_set _ _ _)) ?_; refine tl_nil ?_; refine q_block_n (q_then_n ?_); refine tc_reg ?_
                      refine tlm ?_; refine tv (by first | exact o_addI rfl rfl (by omega) | exact o_add rfl rfl) ?_; refine tla ?_; refine nq ?_; exact ⟨_, by omega, i + 1, xs.set i L[i], by omega, by rw [List.length_set]; exact hp1, set_lt hp2 (hL2 _ (List.getElem_mem hi)), rfl, rfl, rfl, rfl, rfl, rfl⟩
                    · try simp only [lv1, lv2, lv3, lv4, lv5, lv6, Bool.not_true, Bool.not_false] at h
                      refine tc_exit ?_; refine q_then_e (q_then_e (q_block_x (q_then_n ?_))); refine sr ?_; refine tv (o_fieldAddr (o := 4) Tryz.underlying45 rfl rfl sz3 rfl) ?_; refine tv (by first | exact o_load p3 rfl (by repeat (first | with_reducible exact has_here | with_reducible exact has_pt | apply has_left)) rfl | exact o_loadC p3 rfl (by assumption)) ?_; refine tv (o_gtr rfl rfl) ?_; refine tlm ?_; refine tl_bool (d := 87) rfl (fun h => ?_) (fun h => ?_)
                      · have ht0 : 0 < tn := by simpa using h
                        refine tv (o_fieldAddr (o := 4) Tryz.underlying45 rfl rfl sz3 rfl) ?_; refine tv (by first | exact o_load p3 rfl (by repeat (first | with_reducible exact has_here | with_reducible exact has_pt | apply has_left)) rfl | exact o_loadC p3 rfl (by assumption)) ?_; refine tv (o_leq rfl rfl) ?_; refine tv (o_pick_t rfl (by conv => lhs; whnf)) ?_; refine nq ?_; refine tc_cond rfl (fun h => ?_) (fun h => ?_)
                        · obtain ⟨k, hk, hk5⟩ : ∃ k : Nat, tn - 1 = (k : Int) ∧ k < 512 := ⟨(tn - 1).toNat, by omega, by simp at h; omega⟩
                          have hj8 : k / 8 < xs.length := by omega
                          have hx8 := hp2 _ (List.getElem_mem hj8)
                          have h2p : 2 ^ (k % 8) < 256 := by
                            have : 2 ^ (k % 8) ≤ 2 ^ 7 := Nat.pow_le_pow_right (by decide) (by omega)
                            omega
                          have hx9 : xs[k / 8] ^^^ 2 ^ (k % 8) < 256 := Nat.xor_lt_two_pow (n := 8) (by omega) (by omega)
                          refine tc_regh (S := A * pt b1 (cl [.int .i64 (n : Int), .int .u8 (fl : Nat), .slice ha hd.length hcp, .bool rt, .int .i64 tn] 45)) mo (by repeat (first | with_reducible exact dr_refl | apply dr_keep | apply dr_drop)) ?_
                          show TH _ _ _ _ _ 20 #[ff,ff,ff,ff,ff,ff,ff,ff,ff,ff,ff,ff,ff,ff,ff,ff,ff,ff,ff,ff] _ _
                          refine th_take (i := 0) (listed' := #[tt,ff,ff,ff,ff,ff,ff,ff,ff,ff,ff,ff,ff,ff,ff,ff,ff,ff,ff,ff]) rfl (by kernel_rfl) (by kernel_rfl) (by kernel_rfl) rfl rfl (o_move (by conv => lhs; whnf)) ?_; refine th_take (i := 1) (listed' := #[tt,tt,ff,ff,ff,ff,ff,ff,ff,ff,ff,ff,ff,ff,ff,ff,ff,ff,ff,ff]) rfl (by kernel_rfl) (by kernel_rfl) (by kernel_rfl) rfl rfl (o_fieldAddr (o := 4) Tryz.underlying45 rfl rfl sz3 rfl) ?_; refine th_take (i := 2) (listed' := #[tt,tt,tt,ff,ff,ff,ff,ff,ff,ff,ff,ff,ff,ff,ff,ff,ff,ff,ff,ff]) rfl (by kernel_rfl) (by kernel_rfl) (by kernel_rfl) rfl rfl (by first | exact o_load p3 rfl (by repeat (first | with_reducible exact has_here | with_reducible exact has_pt | apply has_left)) rfl | exact o_loadC p3 rfl (by assumption)) ?_; refine th_take (i := 3) (listed' := #[tt,tt,tt,tt,ff,ff,ff,ff,ff,ff,ff,ff,ff,ff,ff,ff,ff,ff,ff,ff]) rfl (by kernel_rfl) (by kernel_rfl) (by kernel_rfl) rfl rfl (by first | exact o_subI rfl rfl (by omega) | exact o_sub rfl rfl) ?_; refine th_env (d := 95) (v := .int .i64 (k : Nat)) (congrArg (Value.int .i64) hk) ?_; refine th_take (i := 4) (listed' := #[tt,tt,tt,tt,tt,ff,ff,ff,ff,ff,ff,ff,ff,ff,ff,ff,ff,ff,ff,ff]) rfl (by kernel_rfl) (by kernel_rfl) (by kernel_rfl) rfl rfl (o_quoN (b := 8) rfl rfl (by omega)) ?_; refine th_take (i := 5) (listed' := #[tt,tt,tt,tt,tt,tt,ff,ff,ff,ff,ff,ff,ff,ff,ff,ff,ff,ff,ff,ff]) rfl (by kernel_rfl) (by kernel_rfl) (by kernel_rfl) rfl rfl (o_move (by conv => lhs; whnf)) ?_
                          refine th_take (i := 6) (listed' := #[tt,tt,tt,tt,tt,tt,tt,ff,ff,ff,ff,ff,ff,ff,ff,ff,ff,ff,ff,ff]) rfl (by kernel_rfl) (by kernel_rfl) (by kernel_rfl) rfl rfl (o_fieldAddr (o := 4) Tryz.underlying45 rfl rfl sz3 rfl) ?_; refine th_take (i := 7) (listed' := #[tt,tt,tt,tt,tt,tt,tt,tt,ff,ff,ff,ff,ff,ff,ff,ff,ff,ff,ff,ff]) rfl (by kernel_rfl) (by kernel_rfl) (by kernel_rfl) rfl rfl (by first | exact o_load p3 rfl (by repeat (first | with_reducible exact has_here | with_reducible exact has_pt | apply has_left)) rfl | exact o_loadC p3 rfl (by assumption)) ?_; refine th_take (i := 8) (listed' := #[tt,tt,tt,tt,tt,tt,tt,tt,tt,ff,ff,ff,ff,ff,ff,ff,ff,ff,ff,ff]) rfl (by kernel_rfl) (by kernel_rfl) (by kernel_rfl) rfl rfl (by first | exact o_subI rfl rfl (by omega) | exact o_sub rfl rfl) ?_; refine th_env (d := 100) (v := .int .i64 (k : Nat)) (congrArg (Value.int .i64) hk) ?_; refine th_take (i := 9) (listed' := #[tt,tt,tt,tt,tt,tt,tt,tt,tt,tt,ff,ff,ff,ff,ff,ff,ff,ff,ff,ff]) rfl (by kernel_rfl) (by kernel_rfl) (by kernel_rfl) rfl rfl (o_quoN (b := 8) rfl rfl (by omega)) ?_; refine th_take (i := 10) (listed' := #[tt,tt,tt,tt,tt,tt,tt,tt,tt,tt,tt,ff,ff,ff,ff,ff,ff,ff,ff,ff]) rfl (by kernel_rfl) (by kernel_rfl) (by kernel_rfl) rfl rfl (o_ixP1 Tryz.underlying32 sz5 rfl rfl (by first | omega | (simp only [bys_length, ints_length, wds_length, bos_length, List.length_append, List.length_take, List.length_drop, List.length_singleton]; omega)) (by repeat (first | exact nn_some | with_reducible exact nn_sl (by decide) | exact nn_rs (by assumption) (fun _ => by first | omega | (simp only [bys_length, ints_length, wds_length, bos_length, List.length_append, List.length_take, List.length_drop, List.length_singleton]; omega)) | apply Nn.left))) ?_
                          refine th_take (i := 12) (listed' := #[tt,tt,tt,tt,tt,tt,tt,tt,tt,tt,tt,ff,tt,ff,ff,ff,ff,ff,ff,ff]) rfl (by kernel_rfl) (by kernel_rfl) (by kernel_rfl) rfl rfl (o_fieldAddr (o := 4) Tryz.underlying45 rfl rfl sz3 rfl) ?_; refine th_take (i := 13) (listed' := #[tt,tt,tt,tt,tt,tt,tt,tt,tt,tt,tt,ff,tt,tt,ff,ff,ff,ff,ff,ff]) rfl (by kernel_rfl) (by kernel_rfl) (by kernel_rfl) rfl rfl (by first | exact o_load p3 rfl (by repeat (first | with_reducible exact has_here | with_reducible exact has_pt | apply has_left)) rfl | exact o_loadC p3 rfl (by assumption)) ?_; refine th_take (i := 14) (listed' := #[tt,tt,tt,tt,tt,tt,tt,tt,tt,tt,tt,ff,tt,tt,tt,ff,ff,ff,ff,ff]) rfl (by kernel_rfl) (by kernel_rfl) (by kernel_rfl) rfl rfl (by first | exact o_subI rfl rfl (by omega) | exact o_sub rfl rfl) ?_; refine th_env (d := 106) (v := .int .i64 (k : Nat)) (congrArg (Value.int .i64) hk) ?_; refine th_take (i := 15) (listed' := #[tt,tt,tt,tt,tt,tt,tt,tt,tt,tt,tt,ff,tt,tt,tt,tt,ff,ff,ff,ff]) rfl (by kernel_rfl) (by kernel_rfl) (by kernel_rfl) rfl rfl (o_remN (b := 8) rfl rfl (by omega)) ?_; refine th_take (i := 16) (listed' := #[tt,tt,tt,tt,tt,tt,tt,tt,tt,tt,tt,ff,tt,tt,tt,tt,tt,ff,ff,ff]) rfl (by kernel_rfl) (by kernel_rfl) (by kernel_rfl) rfl rfl (o_shlm (a := 1) (b := k % 8) rfl rfl rfl rfl (by show _ ≤ 8; omega)) ?_; refine th_env (d := 108) (v := .int .u8 ((2 ^ (k % 8) : Nat) : Int)) (congrArg (fun z : Nat => Value.int .u8 (z : Int)) (show 1 * 2 ^ (k % 8) % 256 = 2 ^ (k % 8) by omega)) ?_
                          refine th_one (i := 11) (by kernel_rfl) ?_; refine oh_v (i := 11) (listed' := #[tt,tt,tt,tt,tt,tt,tt,tt,tt,tt,tt,tt,tt,tt,tt,tt,tt,ff,ff,ff]) rfl rfl rfl (o_ldP p5 rfl (by repeat (first | with_reducible exact rs_sl | apply Rs.left)) (bys_at hj8)) ?_; refine th_take (i := 17) (listed' := #[tt,tt,tt,tt,tt,tt,tt,tt,tt,tt,tt,tt,tt,tt,tt,tt,tt,tt,ff,ff]) rfl (by kernel_rfl) (by kernel_rfl) (by kernel_rfl) rfl rfl (o_xorN rfl rfl rfl (by show _ < 256; exact hx8) (by show _ < 256; exact h2p)) ?_; refine th_take (i := 18) (listed' := #[tt,tt,tt,tt,tt,tt,tt,tt,tt,tt,tt,tt,tt,tt,tt,tt,tt,tt,tt,ff]) rfl (by kernel_rfl) (by kernel_rfl) (by kernel_rfl) rfl rfl (o_ixP1 Tryz.underlying32 sz5 rfl rfl (by first | omega | (simp only [bys_length, ints_length, wds_length, bos_length, List.length_append, List.length_take, List.length_drop, List.length_singleton]; omega)) (by repeat (first | exact nn_some | with_reducible exact nn_sl (by decide) | exact nn_rs (by assumption) (fun _ => by first | omega | (simp only [bys_length, ints_length, wds_length, bos_length, List.length_append, List.length_take, List.length_drop, List.length_singleton]; omega)) | apply Nn.left))) ?_; refine th_one (i := 19) (by kernel_rfl) ?_; refine oh_u (i := 19) (listed' := #[tt,tt,tt,tt,tt,tt,tt,tt,tt,tt,tt,tt,tt,tt,tt,tt,tt,tt,tt,tt]) rfl rfl rfl (o_stP (ys := bys (xs.set (k / 8) (xs[k / 8] ^^^ 2 ^ (k % 8)))) sz5 rfl rfl rfl (by repeat (first | with_reducible exact ct_here | apply ct_left)) (by omega) (bys_set _ _ _)) (by repeat (first | with_reducible exact dr_refl | apply dr_keep | apply dr_drop)) ?_
                          refine th_done (by kernel_rfl) ?_; refine q_then_n ?_; refine sr ?_; refine tlm ?_; refine tla ?_; refine nq ?_; refine tc_ret ?_
                          first
                          | exact ⟨.slice (some ⟨b21, 0, none⟩) n n, A * Sl 1 (.slice (some ⟨b21, 0, none⟩) n n) n (bys (xs.set (k / 8) (xs[k / 8] ^^^ 2 ^ (k % 8)))), res1 rfl rfl, Dr.sat (by repeat (first | with_reducible exact dr_refl | apply dr_keep | apply dr_drop)), _, _, _, rfl, Nat.le_refl _, by rw [List.length_set]; exact hp1, set_lt hp2 hx9, rfl⟩
                          | exact ⟨.slice (some ⟨b21, 0, none⟩) n n, A * Sl 1 (.slice (some ⟨b21, 0, none⟩) n n) n (bys xs), res1 rfl rfl, Dr.sat (by repeat (first | with_reducible exact dr_refl | apply dr_keep | apply dr_drop)), _, _, _, rfl, Nat.le_refl _, hp1, hp2, rfl⟩
                        · try simp only [lv1, lv2, lv3, lv4, lv5, lv6, Bool.not_true, Bool.not_false] at h
                          refine tc_skip ?_; refine q_then_n ?_; refine sr ?_; refine tlm ?_; refine tla ?_; refine nq ?_; refine tc_ret ?_
                          first
                          | exact ⟨.slice (some ⟨b21, 0, none⟩) n n, A * Sl 1 (.slice (some ⟨b21, 0, none⟩) n n) n (bys (xs.set (k / 8) (xs[k / 8] ^^^ 2 ^ (k % 8)))), res1 rfl rfl, Dr.sat (by repeat (first | with_reducible exact dr_refl | apply dr_keep | apply dr_drop)), _, _, _, rfl, Nat.le_refl _, by rw [List.length_set]; exact hp1, set_lt hp2 hx9, rfl⟩
                          | exact ⟨.slice (some ⟨b21, 0, none⟩) n n, A * Sl 1 (.slice (some ⟨b21, 0, none⟩) n n) n (bys xs), res1 rfl rfl, Dr.sat (by repeat (first | with_reducible exact dr_refl | apply dr_keep | apply dr_drop)), _, _, _, rfl, Nat.le_refl _, hp1, hp2, rfl⟩
                      · try simp only [lv1, lv2, lv3, lv4, lv5, lv6, Bool.not_true, Bool.not_false] at h
                        refine tk ?_; refine tk ?_; refine tk ?_; refine tv (o_pick_f rfl (by conv => lhs; whnf)) ?_; refine nq ?_; refine tc_cond_f rfl ?_; refine tc_skip ?_; refine q_then_n ?_; refine sr ?_; refine tlm ?_; refine tla ?_; refine nq ?_; refine tc_ret ?_
                        first
                        | exact ⟨.slice (some ⟨b21, 0, none⟩) n n, A * Sl 1 (.slice (some ⟨b21, 0, none⟩) n n) n (bys (xs.set (k / 8) (xs[k / 8] ^^^ 2 ^ (k % 8)))), res1 rfl rfl, Dr.sat (by repeat (first | with_reducible exact dr_refl | apply dr_keep | apply dr_drop)), _, _, _, rfl, Nat.le_refl _, by rw [List.length_set]; exact hp1, set_lt hp2 hx9, rfl⟩
                        | exact ⟨.slice (some ⟨b21, 0, none⟩) n n, A * Sl 1 (.slice (some ⟨b21, 0, none⟩) n n) n (bys xs), res1 rfl rfl, Dr.sat (by repeat (first | with_reducible exact dr_refl | apply dr_keep | apply dr_drop)), _, _, _, rfl, Nat.le_refl _, hp1, hp2, rfl⟩
                · try simp only [lv1, lv2, lv3, lv4, lv5, lv6, Bool.not_true, Bool.not_false] at h
                  refine tc_skip ?_; refine q_then_n ?_; refine sr ?_; refine tlm ?_; refine tla ?_; refine nq ?_; refine tc_ret ?_
                  first
                  | exact ⟨.slice (some ⟨b21, 0, none⟩) n n, A * Sl 1 (.slice (some ⟨b21, 0, none⟩) n n) n (bys (xs.set (k / 8) (xs[k / 8] ^^^ 2 ^ (k % 8)))), res1 rfl rfl, Dr.sat (by repeat (first | with_reducible exact dr_refl | apply dr_keep | apply dr_drop)), _, _, _, rfl, Nat.le_refl _, by rw [List.length_set]; exact hp1, set_lt hp2 hx9, rfl⟩
                  | exact ⟨.slice (some ⟨b21, 0, none⟩) n n, A * Sl 1 (.slice (some ⟨b21, 0, none⟩) n n) n (bys xs), res1 rfl rfl, Dr.sat (by repeat (first | with_reducible exact dr_refl | apply dr_keep | apply dr_drop)), _, _, _, rfl, Nat.le_refl _, hp1, hp2, rfl⟩
              · try simp only [lv1, lv2, lv3, lv4, lv5, lv6, Bool.not_true, Bool.not_false] at h
                refine tk ?_; refine tk ?_; refine tv (o_pick_f rfl (by conv => lhs; whnf)) ?_; refine nq ?_; refine tc_cond_f rfl ?_; refine tc_skip ?_; refine q_then_n ?_; refine sr ?_; refine tlm ?_; refine tla ?_; refine nq ?_; refine tc_ret ?_
                first
                | exact ⟨.slice (some ⟨b21, 0, none⟩) n n, A * Sl 1 (.slice (some ⟨b21, 0, none⟩) n n) n (bys (xs.set (k / 8) (xs[k / 8] ^^^ 2 ^ (k % 8)))), res1 rfl rfl, Dr.sat (by repeat (first | with_reducible exact dr_refl | apply dr_keep | apply dr_drop)), _, _, _, rfl, Nat.le_refl _, by rw [List.length_set]; exact hp1, set_lt hp2 hx9, rfl⟩
                | exact ⟨.slice (some ⟨b21, 0, none⟩) n n, A * Sl 1 (.slice (some ⟨b21, 0, none⟩) n n) n (bys xs), res1 rfl rfl, Dr.sat (by repeat (first | with_reducible exact dr_refl | apply dr_keep | apply dr_drop)), _, _, _, rfl, Nat.le_refl _, hp1, hp2, rfl⟩
theorem zero_c {A : SP} {a : Option Addr} {c m : Nat} {xs : List Nat} (hr : Rs A a (bys xs) := by repeat (first | assumption | with_reducible exact rs_sl | with_reducible exact rs_pt0 | exact rs_none | apply Rs.left)) (hm : xs.length = m := by first | assumption | rfl) (hl : m ≤ 140737488351232 := by omega) :
    Fn Tryz.prog 71 #[.slice a m c] (A) (fun r B => r = .bool (decide (∀ x ∈ xs, x = 0)) ∧ A = B) := by
  refine fn_enterW (args := [.slice a m c]) Tryz.func71 rfl Tryz.ntmps71 (by simp) ?_; refine sr ?_; refine tla ?_; refine nq ?_; refine tc_seq ?_; refine sr ?_; refine tla ?_; refine nq ?_; refine tc_block ?_; refine tc_loop (fun kk ρ BB => ∃ (i : Nat), (i ≤ m) ∧ (∀ x ∈ xs.take i, x = 0) ∧ kk = m - i ∧ ρ 3 = .int .i64 (i : Nat) ∧ ρ 0 = .slice a m c ∧ BB = A) (m := m - (0)) ?_ ?_
  · exact ⟨0, Nat.zero_le _, by simp, rfl, rfl, rfl, rfl⟩
  · intro k ρ B hI
    obtain ⟨i, hp0, hp1, hkk1, hE3, hE0, hBA⟩ := hI
    obtain rfl := hBA.symm
    refine tc_env (d := 3) hE3 ?_; refine tc_env (d := 0) hE0 ?_
    clear hE3 hE0
    refine tc_seq ?_; refine sr ?_; refine tlm ?_; refine tlm ?_; refine tv (o_len Tryz.underlying32 rfl) ?_; refine tv (o_lss rfl rfl) ?_; refine nq ?_; refine tc_cond rfl (fun h => ?_) (fun h => ?_)
    · have hi : i < xs.length := by simp at h; omega
      refine tc_skip ?_; refine q_then_n ?_; refine tc_seq ?_; refine tc_block ?_; refine sr ?_; refine tlm ?_; refine tlm ?_; refine tv (o_ixP1 Tryz.underlying32 sz5 rfl rfl (by omega) (nn_rs hr (fun _ => by rw [bys_length]; omega))) ?_; refine tv (o_ldP p5 rfl hr (bys_at hi)) ?_; refine tv (o_nei rfl rfl) ?_; refine nq ?_; refine tc_cond rfl (fun h => ?_) (fun h => ?_)
      · have hz : xs[i] ≠ 0 := by simp at h; omega
        have hq : decide (∀ x ∈ xs, x = 0) = false := decide_eq_false fun e => hz (e _ (List.getElem_mem hi))
        refine sr ?_; refine tla ?_; refine nq ?_; refine tc_ret ?_; refine q_block_r (q_then_r (q_then_r (q_block_r (q_then_r ?_))))
        first | exact ⟨.bool true, A, res1 rfl rfl, fun _ _ h => h, by rw [hq], rfl⟩ | exact ⟨.bool false, A, res1 rfl rfl, fun _ _ h => h, by rw [hq], rfl⟩
      · have hz : xs[i] = 0 := by simp at h; omega
        refine tc_skip ?_; refine q_block_n (q_then_n ?_); refine tc_reg ?_; refine tlm ?_; refine tv (by first | exact o_addI rfl rfl (by omega) | exact o_add rfl rfl) ?_; refine tla ?_; refine nq ?_; exact ⟨_, by omega, i + 1, by omega, by rw [List.take_succ_eq_append_getElem hi]; intro x hx; rcases List.mem_append.1 hx with h1 | h1; exact hp1 x h1; rw [List.mem_singleton] at h1; rw [h1]; exact hz, rfl, rfl, rfl, rfl⟩
    · obtain rfl : i = m := by simp at h; omega
      have hq : decide (∀ x ∈ xs, x = 0) = true := decide_eq_true (by rw [List.take_of_length_le (by omega)] at hp1; exact hp1)
      refine tc_exit ?_; refine q_then_e (q_then_e (q_block_x (q_then_n ?_))); refine sr ?_; refine tla ?_; refine nq ?_; refine tc_ret ?_
      first | exact ⟨.bool true, A, res1 rfl rfl, fun _ _ h => h, by rw [hq], rfl⟩ | exact ⟨.bool false, A, res1 rfl rfl, fun _ _ h => h, by rw [hq], rfl⟩
end Go.Vl

set_option linter.unusedVariables false
set_option linter.unusedSimpArgs false
namespace Go.Vl
open Go Go.Proofs
theorem goes_map (kp : List Int) (s : DevS) : (goesS kp s).ls.map seenL = s.ls.mapIdx (fun i l => l.st.getD (kOf kp i l.st.length) []) := by
  apply List.ext_getElem?
  intro j
  simp only [goesS, goPart, List.getElem?_map, List.getElem?_mapIdx]
  cases e : s.ls[j]? with
  | none => rfl
  | some l =>
    have hj : j < s.ls.length := (List.getElem?_eq_some_iff.1 e).1
    simp only [Option.map_some, Option.some.injEq]
    rw [if_pos hj]; simp [goL, seenL]
theorem seen_single {l : LineS} (h : l.st.length = 1) {k : Nat} (hk : k < 1) : l.st.getD k [] = seenL l := by
  obtain rfl : k = 0 := by omega
  unfold seenL; rw [h]
theorem goes_single {kp : List Int} {s : DevS} (h : ∀ l ∈ s.ls, l.st.length = 1) : imgS (goesS kp s) = imgS s := by
  refine img_seen ?_
  rw [goes_map]
  apply List.ext_getElem?
  intro j
  simp only [List.getElem?_map, List.getElem?_mapIdx]
  cases e : s.ls[j]? with
  | none => rfl
  | some l =>
    have hl := h l (List.mem_of_getElem? e)
    simp only [Option.map_some, Option.some.injEq]
    exact seen_single hl (by rw [hl]; exact kOf_lt (by decide))
end Go.Vl

set_option linter.unusedVariables false
set_option linter.unusedSimpArgs false
namespace Go.Vl
open Go Go.Proofs
def zz : List Nat := List.replicate 64 0
theorem zz_len : zz.length = 64 := by simp [zz]
theorem zz_lt : ∀ x ∈ zz, x < 256 := fun x hx => by have := List.eq_of_mem_replicate hx; omega
theorem zz_at {i : Nat} (h : i < 64) : zz[i]? = some 0 := by unfold zz; rw [List.getElem?_replicate, if_pos h]
theorem chunk_get {q r : Nat} {I : List Nat} (hr : r < 64) : (chunk q I)[r]? = I[q * 64 + r]? := by unfold chunk; rw [List.getElem?_take, if_pos hr, List.getElem?_drop]
theorem chunk_zero (I : List Nat) : chunk 0 I = I.take 64 := by unfold chunk; rw [Nat.zero_mul, List.drop_zero]
theorem of_chunks {I J : List Nat} {a k : Nat} (hI : I.length = k * 64) (hJ : J.length = k * 64) (h : ∀ q, a ≤ q → q < k → chunk q I = chunk q J) : I.drop (a * 64) = J.drop (a * 64) := by
  apply List.ext_getElem?
  intro i
  rw [List.getElem?_drop, List.getElem?_drop]
  by_cases hx : a * 64 + i < k * 64
  · have := congrArg (fun l => l[(a * 64 + i) % 64]?) (h ((a * 64 + i) / 64) (by omega) (by omega))
    rw [chunk_get (by omega), chunk_get (by omega), show (a * 64 + i) / 64 * 64 + (a * 64 + i) % 64 = a * 64 + i by omega] at this
    exact this
  · rw [List.getElem?_eq_none (by omega), List.getElem?_eq_none (by omega)]
theorem cln_room {s : DevS} (h : Cln s) : Room 1000 s := fun l hl => by have := h l hl; omega
theorem cln_from (n : Nat) (xs : List Nat) : Cln (fromS n xs) := fun l h => by
  obtain ⟨j, hj, rfl⟩ := List.mem_iff_getElem.1 h
  simp [fromS, lineF]
theorem fmt_ce {t : Nat × List Nat} {l : List (Nat × List Nat)} {s s2 : DevS} (h : bytesP (t.1 : Int) t.2 s = (5, s2)) : fmtF (t :: l) s = (5, s2) := by unfold fmtF; rw [h, if_pos (show (5 : Int) ≠ 0 by decide)]
theorem fmt_co {t : Nat × List Nat} {l : List (Nat × List Nat)} {s s2 : DevS} (h : bytesP (t.1 : Int) t.2 s = (0, s2)) : fmtF (t :: l) s = fmtF l s2 := by
  conv => lhs; unfold fmtF
  rw [h, if_neg (by simp)]
theorem spl_in' {I b : List Nat} {p i : Nat} (hp : p + b.length ≤ I.length) (h : p ≤ i ∧ i < p + b.length) : (spl I p b)[i]? = b[i - p]? := by rw [spl_at hp, if_pos h]
theorem spl_out {I b : List Nat} {p i : Nat} (hp : p + b.length ≤ I.length) (h : i < p ∨ p + b.length ≤ i) : (spl I p b)[i]? = I[i]? := by rw [spl_at hp, if_neg (by omega)]
theorem sb_ne {n : Nat} {ns c : List Nat} (h : c[0]? = some 0) : c ≠ sbB (n :: ns) := fun e => by
  obtain ⟨r, hr⟩ := sbB_head n ns
  rw [e, hr] at h
  simp [magicB] at h
def LostI (n : Nat) (xs I : List Nat) : Prop := I.length = n ∧ I.drop 192 = xs.drop 192 ∧ (I.take 192 = xs.take 192 ∨ I.take 64 ≠ sbB [n, 128, 32768, 32896, (n - 32896) / 256, 0] ∨ (I.drop 64).take 128 = List.replicate 128 0)
def DoneI (n : Nat) (xs I : List Nat) : Prop := I.length = n ∧ I.drop 192 = xs.drop 192 ∧ I.take 64 = sbB [n, 128, 32768, 32896, (n - 32896) / 256, 0] ∧ (I.drop 64).take 128 = List.replicate 128 0
theorem zeros_of {I : List Nat} {n : Nat} (hl : I.length = n) (h192 : 192 ≤ n) (h : ∀ i, 64 ≤ i → i < 192 → I[i]? = some 0) : (I.drop 64).take 128 = List.replicate 128 0 := by
  apply List.ext_getElem?
  intro i
  rw [List.getElem?_take, List.getElem?_replicate]
  by_cases hi : i < 128
  · rw [if_pos hi, if_pos hi, List.getElem?_drop]; exact h _ (by omega) (by omega)
  · rw [if_neg hi, if_neg hi]
/-- A Format, wherever the power goes. -/
theorem super_law {n k : Nat} {xs : List Nat} {s : DevS} (hk : n = k * 64) (hn : 36992 ≤ n) (hx : xs.length = n) (hw : WfD s) (hoff : s.off = false) (hc : Cln s) (hls : s.ls.length = k) (hI : imgS s = xs) :
    ∃ e s2, fmtF (fst4 n) s = (e, s2) ∧ WfD s2 ∧ Cln s2 ∧ s2.ls.length = k ∧ ((e = 0 ∧ s2.off = false ∧ DoneI n xs (imgS s2)) ∨ (e = 5 ∧ s2.off = true ∧ LostI n xs (imgS s2))) := by
  have hz := zz_len
  obtain ⟨S, hS⟩ : ∃ S, S = sbB [n, 128, 32768, 32896, (n - 32896) / 256, 0] := ⟨_, rfl⟩
  have hSl : S.length = 64 := by rw [hS]; exact sbB_len rfl
  have hSb : ∀ x ∈ S, x < 256 := by rw [hS]; exact (fst4_wf n (0, sbB [n, 128, 32768, 32896, (n - 32896) / 256, 0]) (by simp [fst4])).2.1
  have hf4 : fst4 n = [(0, zz), (64, zz), (128, zz), (0, S)] := by rw [hS]; rfl
  rw [hf4]
  have imgl : ∀ t : DevS, WfD t → t.ls.length = k → (imgS t).length = n := fun t ht hl => by rw [imgS_len ht, hl, hk]
  -- the first line of zeros
  obtain ⟨e1, s1, r1, q1⟩ := bytes_loss (X := fun q c => (q = 0 → c = chunk 0 xs ∨ c[0]? = some 0) ∧ (0 < q → c = chunk q xs)) (p := 0) (b := zz) hw hoff hc zz_lt (by rw [hz]; decide) (by rw [hz]; omega) (by rw [hz]; exact room_le (cln_room hc) (by decide))
    (fun q hq => by rw [hI]; exact ⟨fun h => by subst h; exact .inl rfl, fun _ => rfl⟩)
    (fun j q hj hj2 _ hq => by
      have hle : (zz.take j).length = j := by rw [List.length_take]; omega
      rw [hI]
      refine ⟨fun h => .inr ?_, fun h => chunk_spl (by omega) (by omega)⟩
      subst h
      rw [chunk_get (by decide), spl_in' (by omega) (by omega), List.getElem?_take, if_pos (by omega), zz_at (by omega)])
  rcases q1 with ⟨rfl, o1, w1, c1, l1, i1⟩ | ⟨rfl, o1, w1, c1, p1, l1⟩
  rotate_left
  · refine ⟨5, s1, fmt_ce r1, w1, c1, by omega, .inr ⟨rfl, o1, imgl _ w1 (by omega), ?_, ?_⟩⟩
    · exact of_chunks (a := 3) (by rw [imgl _ w1 (by omega), hk]) (by omega) fun q h1 h2 => (poss_img w1 p1 (by omega)).2 (by omega)
    · rcases (poss_img w1 p1 (q := 0) (by omega)).1 rfl with h | h
      · left
        have : (imgS s1).drop (0 * 64) = xs.drop (0 * 64) := of_chunks (a := 0) (k := k) (by rw [imgl _ w1 (by omega), hk]) (by omega) fun q h1 h2 => by
          by_cases h0 : q = 0
          · rw [h0]; exact h
          · exact (poss_img w1 p1 (by omega)).2 (by omega)
        rw [Nat.zero_mul, List.drop_zero, List.drop_zero] at this
        rw [this]
      · right; left
        rw [← chunk_zero]
        exact sb_ne h
  rw [show fmtF [(0, zz), (64, zz), (128, zz), (0, S)] s = fmtF [(64, zz), (128, zz), (0, S)] s1 from fmt_co r1]
  rw [hI] at i1
  have hl1 := imgl s1 w1 (by omega)
  have a1 : ∀ i, i < 64 → (imgS s1)[i]? = some 0 := fun i hi => by rw [i1, spl_in' (by omega) (by omega), zz_at (by omega)]
  have b1 : ∀ q, 0 < q → chunk q (imgS s1) = chunk q xs := fun q hq => by rw [i1]; exact chunk_spl (by omega) (by omega)
  -- the second and the third
  have mid : ∀ (p : Nat) (t : DevS), (p = 64 ∨ p = 128) → WfD t → t.off = false → Cln t → t.ls.length = k → (∀ i, i < 64 → (imgS t)[i]? = some 0) → (∀ q, 3 ≤ q → chunk q (imgS t) = chunk q xs) →
      ∃ e t2, bytesP ((p : Nat) : Int) zz t = (e, t2) ∧ WfD t2 ∧ Cln t2 ∧ t2.ls.length = k ∧ ((e = 0 ∧ t2.off = false ∧ imgS t2 = spl (imgS t) p zz) ∨ (e = 5 ∧ t2.off = true ∧ LostI n xs (imgS t2))) := by
    intro p t hp ht ho htc htl ha hb
    have htI := imgl t ht htl
    obtain ⟨e2, s2, r2, q2⟩ := bytes_loss (X := fun q c => (q = 0 → c[0]? = some 0) ∧ (3 ≤ q → c = chunk q xs)) (p := p) (b := zz) ht ho htc zz_lt (by rw [hz]; decide) (by rw [hz]; omega) (by rw [hz]; exact room_le (cln_room htc) (by decide))
      (fun q hq => ⟨fun h => by subst h; rw [chunk_get (by decide)]; exact ha _ (by omega), hb q⟩)
      (fun j q hj hj2 _ hq => by
        have hle : (zz.take j).length = j := by rw [List.length_take]; omega
        refine ⟨fun h => ?_, fun h => by rw [chunk_spl (by omega) (by omega)]; exact hb q h⟩
        subst h
        rw [chunk_get (by decide), spl_out (by omega) (by omega)]; exact ha _ (by omega))
    refine ⟨e2, s2, r2, ?_⟩
    rcases q2 with ⟨rfl, o2, w2, c2, l2, i2⟩ | ⟨rfl, o2, w2, c2, p2, l2⟩
    · exact ⟨w2, c2, by omega, .inl ⟨rfl, o2, i2⟩⟩
    · refine ⟨w2, c2, by omega, .inr ⟨rfl, o2, imgl _ w2 (by omega), ?_, .inr (.inl ?_)⟩⟩
      · exact of_chunks (a := 3) (by rw [imgl _ w2 (by omega), hk]) (by omega) fun q h1 h2 => (poss_img w2 p2 (by omega)).2 (by omega)
      · rw [← chunk_zero]; exact sb_ne ((poss_img w2 p2 (q := 0) (by omega)).1 rfl)
  obtain ⟨e2, s2, r2, w2, c2, l2, q2⟩ := mid 64 s1 (.inl rfl) w1 o1 c1 (by omega) a1 (fun q hq => b1 q (by omega))
  rcases q2 with ⟨rfl, o2, i2⟩ | ⟨rfl, o2, L⟩
  rotate_left
  · exact ⟨5, s2, fmt_ce r2, w2, c2, l2, .inr ⟨rfl, o2, L⟩⟩
  rw [show fmtF [(64, zz), (128, zz), (0, S)] s1 = fmtF [(128, zz), (0, S)] s2 from fmt_co r2]
  have hl2 := imgl s2 w2 l2
  have a2 : ∀ i, i < 128 → (imgS s2)[i]? = some 0 := fun i hi => by
    rw [i2]
    by_cases h : i < 64
    · rw [spl_out (by omega) (by omega)]; exact a1 i h
    · rw [spl_in' (by omega) (by omega), zz_at (by omega)]
  have b2 : ∀ q, 3 ≤ q → chunk q (imgS s2) = chunk q xs := fun q hq => by rw [i2, chunk_spl (by omega) (by omega)]; exact b1 q (by omega)
  obtain ⟨e3, s3, r3, w3, c3, l3, q3⟩ := mid 128 s2 (.inr rfl) w2 o2 c2 l2 (fun i hi => a2 i (by omega)) b2
  rcases q3 with ⟨rfl, o3, i3⟩ | ⟨rfl, o3, L⟩
  rotate_left
  · exact ⟨5, s3, fmt_ce r3, w3, c3, l3, .inr ⟨rfl, o3, L⟩⟩
  rw [show fmtF [(128, zz), (0, S)] s2 = fmtF [(0, S)] s3 from fmt_co r3]
  have hl3 := imgl s3 w3 l3
  have a3 : ∀ i, i < 192 → (imgS s3)[i]? = some 0 := fun i hi => by
    rw [i3]
    by_cases h : i < 128
    · rw [spl_out (by omega) (by omega)]; exact a2 i h
    · rw [spl_in' (by omega) (by omega), zz_at (by omega)]
  have b3 : ∀ q, 3 ≤ q → chunk q (imgS s3) = chunk q xs := fun q hq => by rw [i3, chunk_spl (by omega) (by omega)]; exact b2 q hq
  -- the superblock
  obtain ⟨e4, s4, r4, q4⟩ := bytes_loss (X := fun q c => (0 < q → q < 3 → ∀ r, r < 64 → c[r]? = some 0) ∧ (3 ≤ q → c = chunk q xs)) (p := 0) (b := S) w3 o3 c3 hSb (by omega) (by omega) (by rw [hSl]; exact room_le (cln_room c3) (by decide))
    (fun q hq => ⟨fun h0 h1 r hr => by rw [chunk_get hr]; exact a3 _ (by omega), b3 q⟩)
    (fun j q hj hj2 _ hq => by
      have hle : (S.take j).length = j := by rw [List.length_take]; omega
      exact ⟨fun h0 h1 r hr => by rw [chunk_get hr, spl_out (by omega) (by omega)]; exact a3 _ (by omega), fun h => by rw [chunk_spl (by omega) (by omega)]; exact b3 q h⟩)
  rcases q4 with ⟨rfl, o4, w4, c4, l4, i4⟩ | ⟨rfl, o4, w4, c4, p4, l4⟩
  · have hl4 := imgl s4 w4 (by omega)
    refine ⟨0, s4, (fmt_co r4).trans rfl, w4, c4, by omega, .inl ⟨rfl, o4, hl4, ?_, ?_, ?_⟩⟩
    · exact of_chunks (a := 3) (k := k) (by omega) (by omega) fun q h1 h2 => by rw [i4, chunk_spl (by omega) (by omega)]; exact b3 q h1
    · rw [i4, ← hS]
      unfold spl
      rw [List.take_zero, List.nil_append, ← hSl, List.take_left]
    · exact zeros_of hl4 (by omega) fun i h1 h2 => by rw [i4, spl_out (by omega) (by omega)]; exact a3 i h2
  · have hl4 := imgl s4 w4 (by omega)
    refine ⟨5, s4, fmt_ce r4, w4, c4, by omega, .inr ⟨rfl, o4, hl4, ?_, .inr (.inr ?_)⟩⟩
    · exact of_chunks (a := 3) (k := k) (by omega) (by omega) fun q h1 h2 => (poss_img w4 p4 (by omega)).2 (by omega)
    · refine zeros_of hl4 (by omega) fun i h1 h2 => ?_
      have := (poss_img w4 p4 (q := i / 64) (by omega)).1 (by omega) (by omega) (i % 64) (by omega)
      rw [chunk_get (by omega), show i / 64 * 64 + i % 64 = i by omega] at this
      exact this
/-- What is read then. -/
theorem rd_is {n k : Nat} {s : DevS} (hk : n = k * 64) (hn : 36992 ≤ n) (hoff : s.off = false) (hl : s.ls.length = k) : rdA s = rdT n (imgS s) := by
  unfold rdA; rw [if_neg (by rw [hoff]; decide), if_pos (by omega), hl, ← hk]
theorem nm_zeros : nm ((List.replicate 128 0).take 8) = 0 := by decide
theorem root_t {n k : Nat} {s : DevS} (hk : n = k * 64) (hn : 36992 ≤ n) (hoff : s.off = false) (hl : s.ls.length = k) (h : (imgS s).take 64 = sbB [n, 128, 32768, 32896, (n - 32896) / 256, 0]) (hz : ((imgS s).drop 64).take 128 = List.replicate 128 0) : rootA s = (0, 0) := by
  have hr : rdA s = ([(n : Int), ((128 : Nat) : Int), ((32768 : Nat) : Int), ((32896 : Nat) : Int), (((n - 32896) / 256 : Nat) : Int)], 0) := by rw [rd_is hk hn hoff hl, rdT_t h]
  unfold rootA wordP loadP
  rw [hr, if_neg (by simp), if_neg (by rw [hoff]; decide), if_neg (by decide), hoff, rdy_ok (by decide) (by decide) (by omega), if_neg (by simp)]
  have e : ((imgS s).drop (64 : Int).toNat).take 8 = (List.replicate 128 0).take 8 := by rw [← hz, List.take_take]; rfl
  rw [e, nm_zeros]
theorem root_f {n k : Nat} {s : DevS} (hk : n = k * 64) (hn : 36992 ≤ n) (hoff : s.off = false) (hl : s.ls.length = k) (h : (imgS s).take 64 ≠ sbB [n, 128, 32768, 32896, (n - 32896) / 256, 0]) : rdA s = ([0, 0, 0, 0, 0], 100) ∧ rootA s = (0, 100) := by
  have hr : rdA s = ([0, 0, 0, 0, 0], 100) := by rw [rd_is hk hn hoff hl, rdT_f h]
  refine ⟨hr, ?_⟩
  unfold rootA
  rw [hr, if_pos (show (100 : Int) ≠ 0 by decide)]
theorem lost_rd {n k : Nat} {xs : List Nat} {s : DevS} (hk : n = k * 64) (hn : 36992 ≤ n) (hoff : s.off = false) (hl : s.ls.length = k) (h : LostI n xs (imgS s)) :
    (imgS s).take 192 = xs.take 192 ∨ (rdA s = ([0, 0, 0, 0, 0], 100) ∧ rootA s = (0, 100)) ∨ (rdA s = ([(n : Int), ((128 : Nat) : Int), ((32768 : Nat) : Int), ((32896 : Nat) : Int), (((n - 32896) / 256 : Nat) : Int)], 0) ∧ rootA s = (0, 0) ∧ ((imgS s).drop 64).take 128 = List.replicate 128 0) := by
  rcases h.2.2 with h | h | h
  · exact .inl h
  · exact .inr (.inl (root_f hk hn hoff hl h))
  · by_cases c : (imgS s).take 64 = sbB [n, 128, 32768, 32896, (n - 32896) / 256, 0]
    · exact .inr (.inr ⟨by rw [rd_is hk hn hoff hl, rdT_t c], root_t hk hn hoff hl c h, h⟩)
    · exact .inr (.inl (root_f hk hn hoff hl c))
end Go.Vl

set_option linter.unusedVariables false
set_option linter.unusedSimpArgs false
namespace Go.Vl
open Go Go.Proofs
theorem img_offL (s : DevS) : imgS { s with off := false } = imgS s := rfl
theorem from_live (n : Nat) (xs : List Nat) : (fromS n xs).off = false ∧ (fromS n xs).arms = [] := ⟨rfl, rfl⟩
theorem from_lslen (n : Nat) (xs : List Nat) : (fromS n xs).ls.length = n := by simp [fromS, newS]
theorem armS_cases {af : Int} {kp : List Int} {s s2 : DevS} {e : Int} (ho : s.off = false) (ha : s.arms = []) (h : armS [(af, kp)] s = (e, s2)) (he : e = 0) : s2.off = false ∧ s2.ls = s.ls := by
  unfold armS at h
  rw [if_neg (by rw [ho]; decide)] at h
  split at h
  · simp only [Prod.mk.injEq] at h; omega
  · split at h
    · simp only [Prod.mk.injEq] at h; omega
    · simp only [Prod.mk.injEq] at h; rw [← h.2]; exact ⟨ho, rfl⟩
attribute [local irreducible] crk crL crc Sl pt ro mbs sbB planT Dev imgS lineT fromS
set_option maxRecDepth 20000 in
set_option maxHeartbeats 4000000 in
theorem SuperLost_n1 (A : SP) {sz tn af : Int} {fl hcp kc : Nat} {ha ka : Option Addr} {hd : List Nat} {kp : List Int} {rt : Bool} (hrh : Rs A ha (bys hd)) (hhb : ∀ x ∈ hd, x < 256) (hfl : fl < 256) (hht : -9223372036854775808 ≤ tn ∧ tn ≤ 9223372036854775807) (hhl : hd.length ≤ 140737488351232) (hrk : Rs A ka (ints kp)) (hkl : kp.length ≤ 17592186043904) (hkb : ∀ k ∈ kp, k ≤ 9223372036854775807) (hs : sz < 0 ∨ 4194368 < sz) :
    Fn Tryz.prog 13 #[.agg ([.int .i64 sz, .int .u8 (fl : Nat), .slice ha hd.length hcp, .bool rt, .int .i64 tn] : List Value).toArray, .int .i64 af, .slice ka kp.length kc] (A) (fun r B => r = .bool true ∧ B = A) := by
  refine fn_enterW (args := [.agg ([.int .i64 sz, .int .u8 (fl : Nat), .slice ha hd.length hcp, .bool rt, .int .i64 tn] : List Value).toArray, .int .i64 af, .slice ka kp.length kc]) Tryz.func13 rfl Tryz.ntmps13 (by simp) ?_; refine sr ?_; refine tl_x rfl (o_box rfl rfl) ?_; rintro _ _ ⟨b3, rfl, rfl⟩; refine tla ?_; refine nq ?_; refine sr ?_; refine tv (o_loadN (vs := [.int .i64 sz, .int .u8 (fl : Nat), .slice ha hd.length hcp, .bool rt, .int .i64 tn]) a45 sz45 rfl (by repeat (first | with_reducible exact has_here | with_reducible exact has_pt | apply has_left)) (by show 5 ≤ 5; decide) rfl) ?_; refine tl_c rfl (o_call bd66 rfl (ImBytes_no (hrh := (by repeat (first | exact hrh | apply Rs.left))) (hhb := hhb) (hfl := hfl) (hht := hht) (hs := hs))) ?_; rintro _ _ ⟨rfl, rfl⟩; refine tla ?_; refine nq ?_; refine sr ?_; refine tlm ?_; refine tl_c rfl (o_call bd35 rfl (CopyBytes_c (xs := []) (hr := rs_nil) (hm := rfl))) ?_; rintro _ _ ⟨a23, c23, rfl, hc23, rfl⟩; refine tl_c rfl (o_call bd67 rfl (FromNo_c (hno := by decide))) ?_; rintro _ _ ⟨rfl, rfl⟩; refine tlm ?_; refine tv (o_extract rfl rfl) ?_; refine tv (o_extract rfl rfl) ?_; refine tla ?_; refine tla ?_; refine nq ?_; refine tc_seq ?_; refine sr ?_; refine tlm ?_; refine tv (o_nei rfl rfl) ?_; refine nq ?_; refine tc_cond rfl (fun h => ?_) (fun h => ?_)
  · try simp only [lv1, lv2, lv3, lv4, lv5, lv6, Bool.not_true, Bool.not_false] at h
    refine sr ?_; refine tl_c rfl (o_call bd19 rfl (works_c)) ?_; rintro _ _ ⟨rfl, rfl⟩; refine tla ?_; refine nq ?_; refine tc_ret ?_; refine q_then_r ?_; exact ⟨.bool true, A, res1 rfl rfl, Dr.sat (by repeat (first | with_reducible exact dr_refl | apply dr_keep | apply dr_drop)), rfl, rfl⟩
  · exfalso; simp at h
set_option maxRecDepth 20000 in
set_option maxHeartbeats 4000000 in
theorem SuperLost_n2 (A : SP) {n : Nat} {tn af : Int} {fl hcp kc : Nat} {ha ka : Option Addr} {hd : List Nat} {kp : List Int} {rt : Bool} (hrh : Rs A ha (bys hd)) (hhb : ∀ x ∈ hd, x < 256) (hfl : fl < 256) (hht : -9223372036854775808 ≤ tn ∧ tn ≤ 9223372036854775807) (hhl : hd.length ≤ 140737488351232) (hrk : Rs A ka (ints kp)) (hkl : kp.length ≤ 17592186043904) (hkb : ∀ k ∈ kp, k ≤ 9223372036854775807) (hn : n ≤ 4194368) (hno : fitsB (n : Nat) = false) :
    Fn Tryz.prog 13 #[.agg ([.int .i64 (n : Int), .int .u8 (fl : Nat), .slice ha hd.length hcp, .bool rt, .int .i64 tn] : List Value).toArray, .int .i64 af, .slice ka kp.length kc] (A) (fun r B => r = .bool true ∧ B = A) := by
  refine fn_enterW (args := [.agg ([.int .i64 (n : Int), .int .u8 (fl : Nat), .slice ha hd.length hcp, .bool rt, .int .i64 tn] : List Value).toArray, .int .i64 af, .slice ka kp.length kc]) Tryz.func13 rfl Tryz.ntmps13 (by simp) ?_; refine sr ?_; refine tl_x rfl (o_box rfl rfl) ?_; rintro _ _ ⟨b3, rfl, rfl⟩; refine tla ?_; refine nq ?_; refine sr ?_; refine tv (o_loadN (vs := [.int .i64 (n : Int), .int .u8 (fl : Nat), .slice ha hd.length hcp, .bool rt, .int .i64 tn]) a45 sz45 rfl (by repeat (first | with_reducible exact has_here | with_reducible exact has_pt | apply has_left)) (by show 5 ≤ 5; decide) rfl) ?_; refine tl_c rfl (o_call bd66 rfl (ImBytes_ok (hrh := (by repeat (first | exact hrh | apply Rs.left))) (hhb := hhb) (hfl := hfl) (hht := hht) (hn := by omega) (hhl := hhl))) ?_; rintro _ _ ⟨a20, c20, xs, rfl, hc20, hxl, hxb, rfl⟩; refine tla ?_; refine nq ?_; refine sr ?_; refine tlm ?_; refine tl_c rfl (o_call bd35 rfl (CopyBytes_c (xs := xs))) ?_; rintro _ _ ⟨u23, c23, rfl, hc23, rfl⟩; refine tl_c rfl (o_call bd67 rfl (FromNo_c (m := n) (hno := hno))) ?_; rintro _ _ ⟨rfl, rfl⟩; refine tlm ?_; refine tv (o_extract rfl rfl) ?_; refine tv (o_extract rfl rfl) ?_; refine tla ?_; refine tla ?_; refine nq ?_; refine tc_seq ?_; refine sr ?_; refine tlm ?_; refine tv (o_nei rfl rfl) ?_; refine tl_nil ?_
  refine q_then_n ?_; refine tc_cond rfl (fun h => ?_) (fun h => ?_)
  · try simp only [lv1, lv2, lv3, lv4, lv5, lv6, Bool.not_true, Bool.not_false] at h
    refine sr ?_; refine tl_c rfl (o_call bd19 rfl (works_c)) ?_; rintro _ _ ⟨rfl, rfl⟩; refine tla ?_; refine nq ?_; refine tc_ret ?_; refine q_then_r ?_; exact ⟨.bool true, A, res1 rfl rfl, Dr.sat (by repeat (first | with_reducible exact dr_refl | apply dr_keep | apply dr_drop)), rfl, rfl⟩
  · exfalso; simp at h
theorem Format_no {A R : SP} {C : SP → SP} {d : Nat} {s : DevS} (hc : Ct A (Dev d s) R C := by repeat (first | with_reducible exact ct_here | apply ct_left)) {n : Nat} (hoff : s.off = false) (hlen : s.ls.length * 64 = n) (hn : ¬ (36992 ≤ (n : Int) ∧ (n : Int) ≤ 4194304 ∧ (n : Int) % 64 = 0)) :
    Fn Tryz.prog 15 #[.pointer (some ⟨d, 0, none⟩)] (A) (fun r B => r = .tuple #[.agg (ints [0, 0, 0, 0, 0]).toArray, .int .i64 80] ∧ A = B) := by
  refine fn_enterW (args := [.pointer (some ⟨d, 0, none⟩)]) Tryz.func15 rfl Tryz.ntmps15 (by simp) ?_
  have hst : stE s = 0 := by unfold stE; rw [hoff]; rfl
  obtain ⟨rfl, hC⟩ := hc
  refine sr ?_; refine tl_x rfl (o_alloc z42 rfl) ?_; rintro _ _ ⟨b2, rfl, rfl⟩; refine tla ?_; refine nq ?_; refine tc_seq ?_; refine sr ?_; refine tlm ?_; refine tl_c rfl (o_call bd72 rfl (state_c (s := s))) ?_; rintro _ _ ⟨rfl, rfl⟩; refine tl_env (d := 11) (v := .int .i64 0) (congrArg (Value.int .i64) hst) ?_; refine tla ?_; refine nq ?_; refine sr ?_; refine tlm ?_; refine tv (o_nei rfl rfl) ?_; refine nq ?_; refine tc_cond rfl (fun h => ?_) (fun h => ?_)
  · exfalso; simp at h
  · try simp only [lv1, lv2, lv3, lv4, lv5, lv6, Bool.not_true, Bool.not_false] at h
    refine tc_skip ?_; refine q_then_n ?_; refine sr ?_; refine tlm ?_; refine tl_c rfl (o_call bd51 rfl (Size_c (s := s))) ?_; rintro _ _ ⟨rfl, rfl⟩; refine tl_env (d := 18) (v := .int .i64 (n : Int)) (congrArg (Value.int .i64) (by omega)) ?_; refine tl_c rfl (o_call bd61 rfl (Plan_q (planT_f hn))) ?_; rintro _ _ ⟨rfl, rfl⟩; refine tlm ?_; refine tv (o_extract rfl rfl) ?_; refine tv (o_extract rfl rfl) ?_; refine tl_x rfl (o_alloc z42 rfl) ?_; rintro _ _ ⟨b5, rfl, rfl⟩; refine tl_u rfl (o_stUN (l' := ints [0, 0, 0, 0, 0]) rfl (by repeat (first | with_reducible exact upd_here | with_reducible exact upd_pt | apply upd_left)) sz42 rfl rfl rfl (by show 5 ≤ 5; decide) rfl) ?_; refine tla ?_; refine nq ?_; refine tc_seq ?_; refine sr ?_; refine tlm ?_; refine tv (o_nei rfl rfl) ?_; refine nq ?_; refine tc_cond rfl (fun h => ?_) (fun h => ?_)
    · try simp only [lv1, lv2, lv3, lv4, lv5, lv6, Bool.not_true, Bool.not_false] at h
      refine sr ?_; refine tv (o_bS (l := ints [0, 0, 0, 0, 0]) pv_nil Tryz.underlying42 z42 (pl42 Tryz.underlying42) rfl) ?_; refine tlm ?_; refine tl_u rfl (o_stUN (l' := ints [0, 0, 0, 0, 0]) rfl (by repeat (first | with_reducible exact upd_here | with_reducible exact upd_pt | apply upd_left)) sz42 rfl rfl rfl (by show 5 ≤ 5; decide) rfl) ?_; refine tla ?_; refine nq ?_; refine tc_ret ?_; refine q_then_r ?_; exact ⟨.tuple #[.agg (ints [0, 0, 0, 0, 0]).toArray, .int .i64 80], R * Dev d s, resA2 rfl (rv_cell a42 sz42 rfl (by repeat (first | with_reducible exact has_here | with_reducible exact has_pt | apply has_left)) (by show 5 ≤ 5; decide) rfl) (rv_tmp rfl), Dr.sat (by repeat (first | with_reducible exact dr_refl | apply dr_keep | apply dr_drop)), rfl, rfl⟩
    · exfalso; simp at h
set_option maxRecDepth 20000 in
set_option maxHeartbeats 4000000 in
theorem SuperLost_s (A : SP) {n : Nat} {tn af : Int} {fl hcp kc : Nat} {ha ka : Option Addr} {hd : List Nat} {kp : List Int} {rt : Bool} (hrh : Rs A ha (bys hd)) (hhb : ∀ x ∈ hd, x < 256) (hfl : fl < 256) (hht : -9223372036854775808 ≤ tn ∧ tn ≤ 9223372036854775807) (hhl : hd.length ≤ 140737488351232) (hrk : Rs A ka (ints kp)) (hkl : kp.length ≤ 17592186043904) (hkb : ∀ k ∈ kp, k ≤ 9223372036854775807) {k : Nat} (hk : n = k * 64) (hk0 : 0 < k) (hn : n < 36992) (hkc : kp.length ≤ kc) :
    Fn Tryz.prog 13 #[.agg ([.int .i64 (n : Int), .int .u8 (fl : Nat), .slice ha hd.length hcp, .bool rt, .int .i64 tn] : List Value).toArray, .int .i64 af, .slice ka kp.length kc] (A) (fun r B => r = .bool true ∧ B = A) := by
  refine fn_enterW (args := [.agg ([.int .i64 (n : Int), .int .u8 (fl : Nat), .slice ha hd.length hcp, .bool rt, .int .i64 tn] : List Value).toArray, .int .i64 af, .slice ka kp.length kc]) Tryz.func13 rfl Tryz.ntmps13 (by simp) ?_; refine sr ?_; refine tl_x rfl (o_box rfl rfl) ?_; rintro _ _ ⟨b3, rfl, rfl⟩; refine tla ?_; refine nq ?_; refine sr ?_; refine tv (o_loadN (vs := [.int .i64 (n : Int), .int .u8 (fl : Nat), .slice ha hd.length hcp, .bool rt, .int .i64 tn]) a45 sz45 rfl (by repeat (first | with_reducible exact has_here | with_reducible exact has_pt | apply has_left)) (by show 5 ≤ 5; decide) rfl) ?_; refine tl_c rfl (o_call bd66 rfl (ImBytes_ok (hrh := (by repeat (first | exact hrh | apply Rs.left))) (hhb := hhb) (hfl := hfl) (hht := hht) (hn := by omega) (hhl := hhl))) ?_; rintro _ _ ⟨a20, c20, xs, rfl, hc20, hxl, hxb, rfl⟩; refine tla ?_; refine nq ?_; refine sr ?_; refine tlm ?_; refine tl_c rfl (o_call bd35 rfl (CopyBytes_c (xs := xs))) ?_; rintro _ _ ⟨u23, c23, rfl, hc23, rfl⟩; refine tl_c rfl (o_call bd67 rfl (From_c (n := k) (xs := xs))) ?_; rintro _ _ ⟨d24, rfl, rfl⟩; refine tlm ?_; refine tv (o_extract rfl rfl) ?_; refine tv (o_extract rfl rfl) ?_; refine tla ?_; refine tla ?_; refine nq ?_; refine tc_seq ?_; refine sr ?_; refine tlm ?_; refine tv (o_nei rfl rfl) ?_; refine tl_nil ?_
  refine q_then_n ?_; refine tc_cond rfl (fun h => ?_) (fun h => ?_)
  · exfalso; simp at h
  · try simp only [lv1, lv2, lv3, lv4, lv5, lv6, Bool.not_true, Bool.not_false] at h
    refine tc_skip ?_; refine q_then_n ?_; refine tc_seq ?_; refine tc_cut (fun ρ BB => ∃ (s42 : DevS), (s42.off = false ∧ s42.ls = (fromS k xs).ls) ∧ ρ 2 = .slice ka kp.length kc ∧ ρ 7 = .slice a20 n c20 ∧ ρ 8 = .pointer (some ⟨d24, 0, none⟩) ∧ Dr BB (A * Sl 1 (.slice a20 n c20) n (bys xs) * Dev d24 s42)) ?_ ?_
    · skip
      refine sr ?_; refine tlm ?_; refine tv (o_gtr rfl rfl) ?_; refine tlm ?_; refine tl_bool (d := 32) rfl (fun h => ?_) (fun h => ?_)
      · have haf1 : 0 < af := by simpa using h
        refine tlm ?_; refine tv (o_lss rfl rfl) ?_; refine tv (o_pick_t rfl (by conv => lhs; whnf)) ?_; refine tlm ?_; refine tl_bool (d := 36) rfl (fun h => ?_) (fun h => ?_)
        · have haf2 : 0 < af ∧ af < 60 := by first | omega | (simp at h; omega)
          refine tlm ?_; refine tlm ?_; refine tlm ?_; refine tv (o_bS (l := [.int .i64 af, .slice ka kp.length kc]) (pv_cons (by conv => lhs; whnf) (pv_cons (by conv => lhs; whnf) pv_nil)) Tryz.underlying79 z79 (pl79 Tryz.underlying79) rfl) ?_; refine tl_x rfl (o_buildSliceK (k := 2) (l := [.int .i64 af, .slice ka kp.length kc]) Tryz.underlying48 sz79 z79 rfl rfl (by decide)) ?_; rintro _ _ ⟨b41, rfl, rfl⟩; refine tl_c rfl (o_call bd41 rfl (Arm_c (s := fromS k xs) (kvs := [.slice ka kp.length kc]) (ars := [(af, kp)]) (hm := rfl) (hr := ⟨by repeat (first | assumption | exact rs_sl | exact rs_pt0 | exact rs_none | apply Rs.left), rfl, fun i h => by have h0 : i = 0 := (by simpa using h); subst h0; exact ⟨_, _, rfl, (by show kp.length ≤ _; exact hkc), (by repeat (first | exact hrk | apply Rs.left))⟩⟩) (hk := fun x hx => by simp only [List.mem_singleton] at hx; subst hx; exact ⟨by constructor <;> (show _ ≤ _) <;> omega, by show kp.length ≤ _; omega, hkb⟩))) ?_; rintro _ _ ⟨e42, s42, hs42, rfl, rfl⟩; refine tv (o_nei rfl rfl) ?_; refine tv (o_pick_t rfl (by conv => lhs; whnf)) ?_; refine nq ?_; refine tc_cond rfl (fun h => ?_) (fun h => ?_)
          · try simp only [lv1, lv2, lv3, lv4, lv5, lv6, Bool.not_true, Bool.not_false] at h
            refine sr ?_; refine tl_c rfl (o_call bd19 rfl (works_c)) ?_; rintro _ _ ⟨rfl, rfl⟩; refine tla ?_; refine nq ?_; refine tc_ret ?_; refine q_then_r ?_; exact ⟨.bool true, A, res1 rfl rfl, Dr.sat (by repeat (first | with_reducible exact dr_refl | apply dr_keep | apply dr_drop)), rfl, rfl⟩
          · try simp only [lv1, lv2, lv3, lv4, lv5, lv6, Bool.not_true, Bool.not_false] at h
            refine tc_skip ?_; exact ⟨s42, (by first | exact ha0 | exact ⟨ha0.1, rfl⟩ | exact armS_cases (from_live k xs).1 (from_live k xs).2 hs42 (by simpa using h)), rfl, rfl, rfl, (by repeat (first | with_reducible exact dr_refl | apply dr_keep | apply dr_drop))⟩
        · obtain ⟨s42, hs42q⟩ : ∃ s, s = fromS k xs := ⟨_, rfl⟩
          rw [← hs42q]
          have ha0 : s42.off = false ∧ s42.ls = (fromS k xs).ls := by rw [hs42q]; exact ⟨(from_live k xs).1, rfl⟩
          refine tk ?_; refine tk ?_; refine tk ?_; refine tk ?_; refine tk ?_; refine tk ?_; refine tk ?_; refine tv (o_pick_f rfl (by conv => lhs; whnf)) ?_; refine nq ?_; refine tc_cond_f rfl ?_; refine tc_skip ?_; exact ⟨s42, (by first | exact ha0 | exact ⟨ha0.1, rfl⟩ | exact armS_cases (from_live k xs).1 (from_live k xs).2 hs42 (by simpa using h)), rfl, rfl, rfl, (by repeat (first | with_reducible exact dr_refl | apply dr_keep | apply dr_drop))⟩
      · obtain ⟨s42, hs42q⟩ : ∃ s, s = fromS k xs := ⟨_, rfl⟩
        rw [← hs42q]
        have ha0 : s42.off = false ∧ s42.ls = (fromS k xs).ls := by rw [hs42q]; exact ⟨(from_live k xs).1, rfl⟩
        refine tk ?_; refine tk ?_; refine tv (o_pick_f rfl (by conv => lhs; whnf)) ?_; refine tlm ?_; refine tk ?_; refine tk ?_; refine tk ?_; refine tk ?_; refine tk ?_; refine tk ?_; refine tk ?_; refine tv (o_pick_f rfl (by conv => lhs; whnf)) ?_; refine nq ?_; refine tc_cond_f rfl ?_; refine tc_skip ?_; exact ⟨s42, (by first | exact ha0 | exact ⟨ha0.1, rfl⟩ | exact armS_cases (from_live k xs).1 (from_live k xs).2 hs42 (by simpa using h)), rfl, rfl, rfl, (by repeat (first | with_reducible exact dr_refl | apply dr_keep | apply dr_drop))⟩
    · intro ρ B hI
      obtain ⟨s42, hj0, hE2, hE7, hE8, hBA⟩ := hI
      refine q_then_n ?_; refine tc_pre hBA.sat ?_
      clear hBA
      refine tc_env (d := 2) hE2 ?_; refine tc_env (d := 7) hE7 ?_; refine tc_env (d := 8) hE8 ?_
      clear hE2 hE7 hE8
      refine tc_seq ?_
      have hs42 := hj0
      have hl42 : s42.ls.length = k := by rw [hs42.2]; exact from_lslen k xs
      refine tc_reg ?_; refine tlm ?_; refine tl_c rfl (o_call bd15 rfl (Format_no (s := s42) (n := n) (hoff := hs42.1) (hlen := by omega) (hn := by omega))) ?_; rintro _ _ ⟨rfl, rfl⟩; refine tlm ?_; refine tv (o_extract rfl rfl) ?_; refine tv (o_extract rfl rfl) ?_; refine tl_x rfl (o_alloc z42 rfl) ?_; rintro _ _ ⟨b10, rfl, rfl⟩; refine tl_u rfl (o_stUN (l' := ints [0, 0, 0, 0, 0]) rfl (by repeat (first | with_reducible exact upd_here | with_reducible exact upd_pt | apply upd_left)) sz42 rfl rfl rfl (by show 5 ≤ 5; decide) rfl) ?_; refine tla ?_; refine nq ?_; refine sr ?_; refine tlm ?_; refine tv (o_len Tryz.underlying32 rfl) ?_; refine tl_c rfl (o_call bd61 rfl (Plan_q (n := (n : Int)) (planT_f (by omega)))) ?_; rintro _ _ ⟨rfl, rfl⟩; refine tlm ?_; refine tv (o_extract rfl rfl) ?_; refine tv (o_extract rfl rfl) ?_; refine tl_x rfl (o_alloc z42 rfl) ?_; rintro _ _ ⟨b11, rfl, rfl⟩; refine tl_u rfl (o_stUN (l' := ints [0, 0, 0, 0, 0]) rfl (by repeat (first | with_reducible exact upd_here | with_reducible exact upd_pt | apply upd_left)) sz42 rfl rfl rfl (by show 5 ≤ 5; decide) rfl) ?_; refine tla ?_; refine nq ?_; refine tc_seq ?_; refine sr ?_; refine tlm ?_; refine tv (o_nei rfl rfl) ?_; refine nq ?_
      refine tc_cond rfl (fun h => ?_) (fun h => ?_)
      · try simp only [lv1, lv2, lv3, lv4, lv5, lv6, Bool.not_true, Bool.not_false] at h
        refine sr ?_; refine tlm ?_; refine tlm ?_; refine tv (o_eqi rfl rfl) ?_; refine tlm ?_; refine tl_bool (d := 62) rfl (fun h => ?_) (fun h => ?_)
        · try simp only [lv1, lv2, lv3, lv4, lv5, lv6, Bool.not_true, Bool.not_false] at h
          refine tl_c rfl (o_call bd19 rfl (works_c)) ?_; rintro _ _ ⟨rfl, rfl⟩; refine tv (o_pick_t rfl (by conv => lhs; whnf)) ?_; refine tla ?_; refine nq ?_; refine tc_ret ?_; refine q_then_r ?_; exact ⟨.bool true, A, res1 rfl rfl, Dr.sat (by repeat (first | with_reducible exact dr_refl | apply dr_keep | apply dr_drop)), rfl, rfl⟩
        · (exfalso; first | (revert h; simp; done) | (simp at h; done) | (revert h; simp; omega) | (simp at h; omega) | omega)
      · exfalso; simp at h
theorem img_ls {s t : DevS} (h : s.ls = t.ls) : imgS s = imgS t := by unfold imgS; rw [h]
theorem fmA_len (n : Nat) (s : DevS) : (fmA n s).1.length = 5 := by unfold fmA; split <;> rfl
theorem fmA_0 {n : Nat} {s s2 : DevS} (h : fmtF (fst4 n) s = (0, s2)) : (fmA n s).1 = [(n : Int), ((128 : Nat) : Int), ((32768 : Nat) : Int), ((32896 : Nat) : Int), (((n - 32896) / 256 : Nat) : Int)] := by unfold fmA; rw [h, if_neg (by simp)]
theorem zero_rep {n : Nat} : (decide (∀ x ∈ List.replicate n 0, x = 0)) = true := decide_eq_true fun x hx => List.eq_of_mem_replicate hx
theorem lost_off {n : Nat} {xs : List Nat} {s : DevS} (h : LostI n xs (imgS s)) : LostI n xs (imgS { s with off := false }) := by rw [img_offL]; exact h
theorem wf_off {s : DevS} (h : WfD s) : WfD { s with off := false } := ⟨h.pos, h.top, h.line, h.arms, h.after, h.keeps⟩
theorem done_goes {n : Nat} {xs : List Nat} {kp : List Int} {s : DevS} (hc : Cln s) (h : DoneI n xs (imgS s)) : DoneI n xs (imgS { goesS kp s with off := false }) := by
  have : imgS { goesS kp s with off := false } = imgS s := (img_offL _).trans (goes_single hc)
  rw [this]; exact h
theorem cr_ok {kp : List Int} {s s2 : DevS} {e : Int} (ho : s.off = false) (h : crS kp s = (e, s2)) (he : e = 0) : s2 = goesS kp s := by
  unfold crS at h
  rw [if_neg (by rw [ho]; decide)] at h
  split at h
  · simp only [Prod.mk.injEq] at h; omega
  · simp only [Prod.mk.injEq] at h; exact h.2.symm
theorem goes_len (kp : List Int) (s : DevS) : (goesS kp s).ls.length = s.ls.length := by simp only [goesS, goPart_length]
theorem Root_5 {A R : SP} {C : SP → SP} {d : Nat} {s : DevS} {w : Nat} {e : Int} (hc : Ct A (Dev d s) R C) (hr : rootA s = (w, e)) : Fn Tryz.prog 17 #[.pointer (some ⟨d, 0, none⟩)] A (fun r B => r = .tuple #[.int .u64 ((w : Nat) : Int), .int .i64 e] ∧ A = B) := by
  have := Root_c hc; rw [hr] at this; exact this
set_option maxRecDepth 20000 in
set_option maxHeartbeats 4000000 in
theorem SuperLost_ok (A : SP) {n : Nat} {tn af : Int} {fl hcp kc : Nat} {ha ka : Option Addr} {hd : List Nat} {kp : List Int} {rt : Bool} (hrh : Rs A ha (bys hd)) (hhb : ∀ x ∈ hd, x < 256) (hfl : fl < 256) (hht : -9223372036854775808 ≤ tn ∧ tn ≤ 9223372036854775807) (hhl : hd.length ≤ 140737488351232) (hrk : Rs A ka (ints kp)) (hkl : kp.length ≤ 17592186043904) (hkb : ∀ k ∈ kp, k ≤ 9223372036854775807) {k : Nat} (hk : n = k * 64) (hn : 36992 ≤ n) (hn2 : n ≤ 4194304) (hkc : kp.length ≤ kc) :
    Fn Tryz.prog 13 #[.agg ([.int .i64 (n : Int), .int .u8 (fl : Nat), .slice ha hd.length hcp, .bool rt, .int .i64 tn] : List Value).toArray, .int .i64 af, .slice ka kp.length kc] (A) (fun r B => r = .bool true ∧ B = A) := by
  refine fn_enterW (args := [.agg ([.int .i64 (n : Int), .int .u8 (fl : Nat), .slice ha hd.length hcp, .bool rt, .int .i64 tn] : List Value).toArray, .int .i64 af, .slice ka kp.length kc]) Tryz.func13 rfl Tryz.ntmps13 (by simp) ?_; refine sr ?_; refine tl_x rfl (o_box rfl rfl) ?_; rintro _ _ ⟨b3, rfl, rfl⟩; refine tla ?_; refine nq ?_; refine sr ?_; refine tv (o_loadN (vs := [.int .i64 (n : Int), .int .u8 (fl : Nat), .slice ha hd.length hcp, .bool rt, .int .i64 tn]) a45 sz45 rfl (by repeat (first | with_reducible exact has_here | with_reducible exact has_pt | apply has_left)) (by show 5 ≤ 5; decide) rfl) ?_; refine tl_c rfl (o_call bd66 rfl (ImBytes_ok (hrh := (by repeat (first | exact hrh | apply Rs.left))) (hhb := hhb) (hfl := hfl) (hht := hht) (hn := by omega) (hhl := hhl))) ?_; rintro _ _ ⟨a20, c20, xs, rfl, hc20, hxl, hxb, rfl⟩; refine tla ?_; refine nq ?_; refine sr ?_; refine tlm ?_; refine tl_c rfl (o_call bd35 rfl (CopyBytes_c (xs := xs))) ?_; rintro _ _ ⟨u23, c23, rfl, hc23, rfl⟩; refine tl_c rfl (o_call bd67 rfl (From_c (n := k) (xs := xs))) ?_; rintro _ _ ⟨d24, rfl, rfl⟩; refine tlm ?_; refine tv (o_extract rfl rfl) ?_; refine tv (o_extract rfl rfl) ?_; refine tla ?_; refine tla ?_; refine nq ?_; refine tc_seq ?_; refine sr ?_; refine tlm ?_; refine tv (o_nei rfl rfl) ?_; refine tl_nil ?_
  refine q_then_n ?_; refine tc_cond rfl (fun h => ?_) (fun h => ?_)
  · exfalso; simp at h
  · try simp only [lv1, lv2, lv3, lv4, lv5, lv6, Bool.not_true, Bool.not_false] at h
    refine tc_skip ?_; refine q_then_n ?_; refine tc_seq ?_; refine tc_cut (fun ρ BB => ∃ (s42 : DevS), (s42.off = false ∧ s42.ls = (fromS k xs).ls) ∧ ρ 2 = .slice ka kp.length kc ∧ ρ 7 = .slice a20 n c20 ∧ ρ 8 = .pointer (some ⟨d24, 0, none⟩) ∧ Dr BB (A * Sl 1 (.slice a20 n c20) n (bys xs) * Dev d24 s42)) ?_ ?_
    · skip
      refine sr ?_; refine tlm ?_; refine tv (o_gtr rfl rfl) ?_; refine tlm ?_; refine tl_bool (d := 32) rfl (fun h => ?_) (fun h => ?_)
      · have haf1 : 0 < af := by simpa using h
        refine tlm ?_; refine tv (o_lss rfl rfl) ?_; refine tv (o_pick_t rfl (by conv => lhs; whnf)) ?_; refine tlm ?_; refine tl_bool (d := 36) rfl (fun h => ?_) (fun h => ?_)
        · have haf2 : 0 < af ∧ af < 60 := by first | omega | (simp at h; omega)
          refine tlm ?_; refine tlm ?_; refine tlm ?_; refine tv (o_bS (l := [.int .i64 af, .slice ka kp.length kc]) (pv_cons (by conv => lhs; whnf) (pv_cons (by conv => lhs; whnf) pv_nil)) Tryz.underlying79 z79 (pl79 Tryz.underlying79) rfl) ?_; refine tl_x rfl (o_buildSliceK (k := 2) (l := [.int .i64 af, .slice ka kp.length kc]) Tryz.underlying48 sz79 z79 rfl rfl (by decide)) ?_; rintro _ _ ⟨b41, rfl, rfl⟩; refine tl_c rfl (o_call bd41 rfl (Arm_c (s := fromS k xs) (kvs := [.slice ka kp.length kc]) (ars := [(af, kp)]) (hm := rfl) (hr := ⟨by repeat (first | assumption | exact rs_sl | exact rs_pt0 | exact rs_none | apply Rs.left), rfl, fun i h => by have h0 : i = 0 := (by simpa using h); subst h0; exact ⟨_, _, rfl, (by show kp.length ≤ _; exact hkc), (by repeat (first | exact hrk | apply Rs.left))⟩⟩) (hk := fun x hx => by simp only [List.mem_singleton] at hx; subst hx; exact ⟨by constructor <;> (show _ ≤ _) <;> omega, by show kp.length ≤ _; omega, hkb⟩))) ?_; rintro _ _ ⟨e42, s42, hs42, rfl, rfl⟩; refine tv (o_nei rfl rfl) ?_; refine tv (o_pick_t rfl (by conv => lhs; whnf)) ?_; refine nq ?_; refine tc_cond rfl (fun h => ?_) (fun h => ?_)
          · try simp only [lv1, lv2, lv3, lv4, lv5, lv6, Bool.not_true, Bool.not_false] at h
            refine sr ?_; refine tl_c rfl (o_call bd19 rfl (works_c)) ?_; rintro _ _ ⟨rfl, rfl⟩; refine tla ?_; refine nq ?_; refine tc_ret ?_; refine q_then_r ?_; exact ⟨.bool true, A, res1 rfl rfl, Dr.sat (by repeat (first | with_reducible exact dr_refl | apply dr_keep | apply dr_drop)), rfl, rfl⟩
          · try simp only [lv1, lv2, lv3, lv4, lv5, lv6, Bool.not_true, Bool.not_false] at h
            refine tc_skip ?_; exact ⟨s42, (by first | exact ha0 | exact ⟨ha0.1, rfl⟩ | exact armS_cases (from_live k xs).1 (from_live k xs).2 hs42 (by simpa using h)), rfl, rfl, rfl, (by repeat (first | with_reducible exact dr_refl | apply dr_keep | apply dr_drop))⟩
        · obtain ⟨s42, hs42q⟩ : ∃ s, s = fromS k xs := ⟨_, rfl⟩
          rw [← hs42q]
          have ha0 : s42.off = false ∧ s42.ls = (fromS k xs).ls := by rw [hs42q]; exact ⟨(from_live k xs).1, rfl⟩
          refine tk ?_; refine tk ?_; refine tk ?_; refine tk ?_; refine tk ?_; refine tk ?_; refine tk ?_; refine tv (o_pick_f rfl (by conv => lhs; whnf)) ?_; refine nq ?_; refine tc_cond_f rfl ?_; refine tc_skip ?_; exact ⟨s42, (by first | exact ha0 | exact ⟨ha0.1, rfl⟩ | exact armS_cases (from_live k xs).1 (from_live k xs).2 hs42 (by simpa using h)), rfl, rfl, rfl, (by repeat (first | with_reducible exact dr_refl | apply dr_keep | apply dr_drop))⟩
      · obtain ⟨s42, hs42q⟩ : ∃ s, s = fromS k xs := ⟨_, rfl⟩
        rw [← hs42q]
        have ha0 : s42.off = false ∧ s42.ls = (fromS k xs).ls := by rw [hs42q]; exact ⟨(from_live k xs).1, rfl⟩
        refine tk ?_; refine tk ?_; refine tv (o_pick_f rfl (by conv => lhs; whnf)) ?_; refine tlm ?_; refine tk ?_; refine tk ?_; refine tk ?_; refine tk ?_; refine tk ?_; refine tk ?_; refine tk ?_; refine tv (o_pick_f rfl (by conv => lhs; whnf)) ?_; refine nq ?_; refine tc_cond_f rfl ?_; refine tc_skip ?_; exact ⟨s42, (by first | exact ha0 | exact ⟨ha0.1, rfl⟩ | exact armS_cases (from_live k xs).1 (from_live k xs).2 hs42 (by simpa using h)), rfl, rfl, rfl, (by repeat (first | with_reducible exact dr_refl | apply dr_keep | apply dr_drop))⟩
    · intro ρ B hI
      obtain ⟨s42, hj0, hE2, hE7, hE8, hBA⟩ := hI
      refine q_then_n ?_; refine tc_pre hBA.sat ?_
      clear hBA
      refine tc_env (d := 2) hE2 ?_; refine tc_env (d := 7) hE7 ?_; refine tc_env (d := 8) hE8 ?_
      clear hE2 hE7 hE8
      refine tc_seq ?_
      have hs42 := hj0
      have hl42 : s42.ls.length = k := by rw [hs42.2]; exact from_lslen k xs
      have hc42 : Cln s42 := fun l hl => by rw [hs42.2] at hl; exact cln_from k xs l hl
      have hi42 : imgS s42 = xs := (img_ls hs42.2).trans (img_from hxb (by omega))
      refine tc_reg ?_; refine tlm ?_; refine tl_have (fun _ _ h => ct_wf2 (d := d24) (s := s42) (by repeat (first | with_reducible exact ct_here | apply ct_left)) h) fun hw42 => ?_; refine tl_c rfl (o_call bd15 rfl (Format_ok (s := s42) (n := n) (hoff := hs42.1) (hlen := by omega) (hn := by omega) (hroom := room_le (cln_room hc42) (by decide)))) ?_; rintro _ _ ⟨e48, s48, hs48, rfl, rfl⟩
      obtain ⟨e', s', hq1, hw48, hc48, hl48, hcase⟩ := super_law hk hn hxl hw42 hs42.1 hc42 hl42 hi42
      obtain ⟨rfl, rfl⟩ : e48 = e' ∧ s48 = s' := by rw [hs48] at hq1; simpa using hq1
      obtain ⟨m0, m1, m2, m3, m4, hfm⟩ := five_i (fmA_len n s42)
      rw [hfm]
      refine tlm ?_; refine tv (o_extract rfl rfl) ?_; refine tv (o_extract rfl rfl) ?_; refine tl_x rfl (o_alloc z42 rfl) ?_; rintro _ _ ⟨b10, rfl, rfl⟩; refine tl_u rfl (o_stUN (l' := ints [m0, m1, m2, m3, m4]) rfl (by repeat (first | with_reducible exact upd_here | with_reducible exact upd_pt | apply upd_left)) sz42 rfl rfl rfl (by show 5 ≤ 5; decide) rfl) ?_; refine tla ?_; refine nq ?_; refine sr ?_; refine tlm ?_; refine tv (o_len Tryz.underlying32 rfl) ?_; refine tl_c rfl (o_call bd61 rfl (Plan_ok (n := n) (by omega))) ?_; rintro _ _ ⟨rfl, rfl⟩; refine tlm ?_; refine tv (o_extract rfl rfl) ?_; refine tv (o_extract rfl rfl) ?_; refine tl_x rfl (o_alloc z42 rfl) ?_; rintro _ _ ⟨b11, rfl, rfl⟩; refine tl_u rfl (o_stUN (l' := ints [(n : Int), ((128 : Nat) : Int), ((32768 : Nat) : Int), ((32896 : Nat) : Int), (((n - 32896) / 256 : Nat) : Int)]) rfl (by repeat (first | with_reducible exact upd_here | with_reducible exact upd_pt | apply upd_left)) sz42 rfl rfl rfl (by show 5 ≤ 5; decide) rfl) ?_; refine tla ?_; refine nq ?_; refine tc_seq ?_; refine sr ?_; refine tlm ?_; refine tv (o_nei rfl rfl) ?_; refine nq ?_; refine tc_cond rfl (fun h => ?_) (fun h => ?_)
      · exfalso; simp at h
      · try simp only [lv1, lv2, lv3, lv4, lv5, lv6, Bool.not_true, Bool.not_false] at h
        refine tc_skip ?_; refine q_then_n ?_; refine tc_seq ?_; refine sr ?_; refine tlm ?_; refine tv (o_eqi rfl rfl) ?_; refine tlm ?_; refine tl_bool (d := 67) rfl (fun h => ?_) (fun h => ?_)
        · obtain rfl : e48 = 0 := by simpa using h
          obtain ⟨_, ho48, hD⟩ := hcase.resolve_right (fun h => by have := h.1; omega)
          have hm : [m0, m1, m2, m3, m4] = [(n : Int), ((128 : Nat) : Int), ((32768 : Nat) : Int), ((32896 : Nat) : Int), (((n - 32896) / 256 : Nat) : Int)] := by rw [← hfm]; exact fmA_0 hs48
          simp only [List.cons.injEq, and_true] at hm
          obtain ⟨rfl, rfl, rfl, rfl, rfl⟩ := hm
          refine tv (o_loadN (vs := ints [(n : Int), ((128 : Nat) : Int), ((32768 : Nat) : Int), ((32896 : Nat) : Int), (((n - 32896) / 256 : Nat) : Int)]) a42 sz42 rfl (by repeat (first | with_reducible exact has_here | with_reducible exact has_pt | apply has_left)) (by show 5 ≤ 5; decide) rfl) ?_; refine tv (o_loadN (vs := ints [(n : Int), ((128 : Nat) : Int), ((32768 : Nat) : Int), ((32896 : Nat) : Int), (((n - 32896) / 256 : Nat) : Int)]) a42 sz42 rfl (by repeat (first | with_reducible exact has_here | with_reducible exact has_pt | apply has_left)) (by show 5 ≤ 5; decide) rfl) ?_; refine tv (o_nest (k := 5) (l := [(n : Int), ((128 : Nat) : Int), ((32768 : Nat) : Int), ((32896 : Nat) : Int), (((n - 32896) / 256 : Nat) : Int)]) (m := [(n : Int), ((128 : Nat) : Int), ((32768 : Nat) : Int), ((32896 : Nat) : Int), (((n - 32896) / 256 : Nat) : Int)]) Tryz.underlying42 (by kernel_rfl) (by kernel_rfl) (by kernel_rfl) rfl rfl rfl rfl) ?_; refine tv (o_pick_t rfl (by conv => lhs; whnf)) ?_; refine nq ?_; refine tc_cond rfl (fun h => ?_) (fun h => ?_)
          · exfalso; simp at h
          · try simp only [lv1, lv2, lv3, lv4, lv5, lv6, Bool.not_true, Bool.not_false] at h
            refine tc_skip ?_; refine q_then_n ?_; refine tc_seq ?_; refine sr ?_; refine tlm ?_; refine tv (o_eqi rfl rfl) ?_; refine tlm ?_; refine tl_bool (d := 74) rfl (fun h => ?_) (fun h => ?_)
            · try simp only [lv1, lv2, lv3, lv4, lv5, lv6, Bool.not_true, Bool.not_false] at h
              refine tlm ?_; refine tlm ?_; refine tl_c rfl (o_call bd43 rfl (Crash_c (s := s48) (keep := kp) (hr := (by repeat (first | exact hrk | apply Rs.left))) (hk := hkb) (hm := rfl))) ?_; rintro _ _ ⟨e77, s77, hs77, rfl, rfl⟩; refine tv (o_nei rfl rfl) ?_; refine tv (o_pick_t rfl (by conv => lhs; whnf)) ?_; refine nq ?_; refine tc_cond rfl (fun h => ?_) (fun h => ?_)
              · try simp only [lv1, lv2, lv3, lv4, lv5, lv6, Bool.not_true, Bool.not_false] at h
                refine sr ?_; refine tl_c rfl (o_call bd19 rfl (works_c)) ?_; rintro _ _ ⟨rfl, rfl⟩; refine tla ?_; refine nq ?_; refine tc_ret ?_; refine q_then_r ?_; exact ⟨.bool true, A, res1 rfl rfl, Dr.sat (by repeat (first | with_reducible exact dr_refl | apply dr_keep | apply dr_drop)), rfl, rfl⟩
              · obtain rfl : s77 = goesS kp s48 := cr_ok ho48 hs77 (by simpa using h)
                refine tc_skip ?_; refine q_then_n ?_; refine tc_seq ?_; refine sr ?_; refine tlm ?_; refine tl_c rfl (o_call bd45 rfl (Wake_c)) ?_; rintro _ _ ⟨rfl, rfl⟩; refine tl_env (d := 82) (v := .int .i64 0) (rfl) ?_; refine tv (o_nei rfl rfl) ?_; refine nq ?_; refine tc_cond rfl (fun h => ?_) (fun h => ?_)
                · exfalso; simp at h
                · try simp only [lv1, lv2, lv3, lv4, lv5, lv6, Bool.not_true, Bool.not_false] at h
                  refine tc_skip ?_; refine q_then_n ?_; refine tc_seq ?_
                  obtain ⟨s3, hs3⟩ : ∃ s3, s3 = { goesS kp s48 with off := false } := ⟨_, rfl⟩
                  rw [← hs3]
                  have ho3 : s3.off = false := by rw [hs3]
                  have hl3 : s3.ls.length = k := by rw [hs3]; exact (goes_len kp s48).trans hl48
                  have hw3 : WfD s3 := by rw [hs3]; exact wf_off (goesS_wf hw48)
                  have hD3 : DoneI n xs (imgS s3) := by rw [hs3]; exact done_goes hc48 hD
                  have hdr : (imgS s3).drop 192 = xs.drop 192 := hD3.2.1
                  have hi3 : (imgS s3).length = n := hD3.1
                  have hl3n : s3.ls.length * 64 = n := by omega
                  obtain ⟨q0, q1, q2, q3, q4, hq⟩ := five_i (rdA_len s3)
                  obtain ⟨e0, he0⟩ : ∃ e0, e0 = (rdA s3).2 := ⟨_, rfl⟩
                  have hrd : rdA s3 = ([q0, q1, q2, q3, q4], e0) := by rw [← hq, he0]
                  obtain ⟨w6, hw6⟩ : ∃ w6, w6 = (rootA s3).1 := ⟨_, rfl⟩
                  obtain ⟨e6, he6⟩ : ∃ e6, e6 = (rootA s3).2 := ⟨_, rfl⟩
                  have hroot : rootA s3 = (w6, e6) := by rw [hw6, he6]
                  refine tc_reg ?_; refine tlm ?_; refine tl_c rfl (o_call bd54 rfl (Image_c (s := s3))) ?_; rintro _ _ ⟨a85, c85, rfl, hc85, rfl⟩
                  rw [hl3n] at hc85 ⊢
                  refine tla ?_; refine nq ?_; refine sr ?_; refine tlm ?_; refine tl_c rfl (o_call bd16 rfl (Read_5 (s := s3) (by repeat (first | with_reducible exact ct_here | apply ct_left)) hrd)) ?_; rintro _ _ ⟨rfl, rfl⟩; refine tlm ?_; refine tv (o_extract rfl rfl) ?_; refine tv (o_extract rfl rfl) ?_; refine tl_x rfl (o_alloc z42 rfl) ?_; rintro _ _ ⟨b14, rfl, rfl⟩; refine tl_u rfl (o_stUN (l' := ints [q0, q1, q2, q3, q4]) rfl (by repeat (first | with_reducible exact upd_here | with_reducible exact upd_pt | apply upd_left)) sz42 rfl rfl rfl (by show 5 ≤ 5; decide) rfl) ?_; refine tla ?_; refine nq ?_; refine sr ?_; refine tlm ?_; refine tl_c rfl (o_call bd17 rfl (Root_5 (s := s3) (by repeat (first | with_reducible exact ct_here | apply ct_left)) hroot)) ?_; rintro _ _ ⟨rfl, rfl⟩; refine tlm ?_; refine tv (o_extract rfl rfl) ?_; refine tv (o_extract rfl rfl) ?_; refine tla ?_; refine tla ?_; refine nq ?_
                  refine tc_seq ?_; refine tc_seq ?_; refine tc_regq mo (by kernel_rfl) ?_; refine ql_v rfl (o_move (by conv => lhs; whnf)) ?_; refine ql_v rfl (o_len Tryz.underlying32 rfl) ?_; refine ql_v rfl (o_move (by conv => lhs; whnf)) ?_; refine ql_v rfl (o_len Tryz.underlying32 rfl) ?_; refine ql_v rfl (o_nei rfl rfl) ?_; refine ql_v rfl (o_move (by conv => lhs; whnf)) ?_; refine ql_bool (d := 101) rfl (fun h => ?_) (fun h => ?_)
                  · exfalso; simp at h
                  · try simp only [lv1, lv2, lv3, lv4, lv5, lv6, Bool.not_true, Bool.not_false] at h
                    refine ql_v rfl (o_move (by conv => lhs; whnf)) ?_; refine ql_v rfl (o_slice (l := 192) Tryz.underlying32 sz5 rfl (bnd_nat rfl) bnd_none (by omega) (by omega)) ?_; refine ql_v rfl (o_move (by conv => lhs; whnf)) ?_; refine ql_v rfl (o_slice (l := 192) Tryz.underlying32 sz5 rfl (bnd_nat rfl) bnd_none (by omega) (by omega)) ?_; refine ql_c rfl (fun w => exec_call bd53 rfl) (EqBytes_c (xs := (imgS s3).drop 192) (ys := xs.drop 192) (h1 := rs_cutC (by repeat (first | with_reducible exact rs_sl | apply Rs.left)) (by omega)) (h2 := rs_cutC (by repeat (first | with_reducible exact rs_sl | apply Rs.left)) (by omega)) (hx := by rw [List.length_drop]; omega) (hy := by rw [List.length_drop]; omega)) ?_; refine ql_env (d := 106) (v := .bool true) (congrArg Value.bool (decide_eq_true hdr)) ?_; refine ql_v rfl (o_not rfl) ?_; refine ql_v rfl (o_pick_f rfl (by conv => lhs; whnf)) ?_; refine ql_nil ?_; refine q_then_n ?_; refine tc_cond rfl (fun h => ?_) (fun h => ?_)
                    · exfalso; simp at h
                    · try simp only [lv1, lv2, lv3, lv4, lv5, lv6, Bool.not_true, Bool.not_false] at h
                      refine tc_skip ?_; refine q_then_n ?_; refine tc_seq ?_; refine sr ?_; refine tlm ?_; refine tv (o_eqi rfl rfl) ?_; refine nq ?_; refine tc_cond rfl (fun h => ?_) (fun h => ?_)
                      · obtain ⟨hx1, hx2⟩ : [q0, q1, q2, q3, q4] = [(n : Int), ((128 : Nat) : Int), ((32768 : Nat) : Int), ((32896 : Nat) : Int), (((n - 32896) / 256 : Nat) : Int)] ∧ e0 = 0 := by have := (rd_is hk hn ho3 hl3).trans (rdT_t hD3.2.2.1); rw [hrd] at this; simpa using this
                        simp only [List.cons.injEq, and_true] at hx1
                        obtain ⟨rfl, rfl, rfl, rfl, rfl⟩ := hx1
                        obtain ⟨hx3, hx4⟩ : w6 = 0 ∧ e6 = 0 := by have := root_t hk hn ho3 hl3 hD3.2.2.1 hD3.2.2.2; rw [hroot] at this; simpa using this
                        subst hx2 hx3 hx4
                        refine sr ?_; refine tlm ?_; refine tv (o_eqi rfl rfl) ?_; refine tlm ?_; refine tl_bool (d := 113) rfl (fun h => ?_) (fun h => ?_)
                        · try simp only [lv1, lv2, lv3, lv4, lv5, lv6, Bool.not_true, Bool.not_false] at h
                          refine tv (o_loadN (vs := ints [(n : Int), ((128 : Nat) : Int), ((32768 : Nat) : Int), ((32896 : Nat) : Int), (((n - 32896) / 256 : Nat) : Int)]) a42 sz42 rfl (by repeat (first | with_reducible exact has_here | with_reducible exact has_pt | apply has_left)) (by show 5 ≤ 5; decide) rfl) ?_; refine tv (o_loadN (vs := ints [(n : Int), ((128 : Nat) : Int), ((32768 : Nat) : Int), ((32896 : Nat) : Int), (((n - 32896) / 256 : Nat) : Int)]) a42 sz42 rfl (by repeat (first | with_reducible exact has_here | with_reducible exact has_pt | apply has_left)) (by show 5 ≤ 5; decide) rfl) ?_; refine tv (o_eqst (k := 5) (l := [(n : Int), ((128 : Nat) : Int), ((32768 : Nat) : Int), ((32896 : Nat) : Int), (((n - 32896) / 256 : Nat) : Int)]) (m := [(n : Int), ((128 : Nat) : Int), ((32768 : Nat) : Int), ((32896 : Nat) : Int), (((n - 32896) / 256 : Nat) : Int)]) Tryz.underlying42 (by kernel_rfl) (by kernel_rfl) (by kernel_rfl) rfl rfl rfl rfl) ?_; refine tv (o_pick_t rfl (by conv => lhs; whnf)) ?_; refine tlm ?_; refine tl_bool (d := 118) rfl (fun h => ?_) (fun h => ?_)
                          · try simp only [lv1, lv2, lv3, lv4, lv5, lv6, Bool.not_true, Bool.not_false] at h
                            refine tlm ?_; refine tv (o_eqi rfl rfl) ?_; refine tv (o_pick_t rfl (by conv => lhs; whnf)) ?_; refine tlm ?_; refine tl_bool (d := 122) rfl (fun h => ?_) (fun h => ?_)
                            · try simp only [lv1, lv2, lv3, lv4, lv5, lv6, Bool.not_true, Bool.not_false] at h
                              refine tlm ?_; refine tv (o_eqi rfl rfl) ?_; refine tv (o_pick_t rfl (by conv => lhs; whnf)) ?_; refine tlm ?_; refine tl_bool (d := 126) rfl (fun h => ?_) (fun h => ?_)
                              · try simp only [lv1, lv2, lv3, lv4, lv5, lv6, Bool.not_true, Bool.not_false] at h
                                refine tlm ?_; refine tv (o_slice (l := 64) (h := 192) Tryz.underlying32 sz5 rfl (bnd_nat rfl) (bnd_nat rfl) (by omega) (by omega)) ?_; refine tl_c rfl (o_call bd71 rfl (zero_c (xs := ((imgS s3).drop 64).take 128) (hr := rs_mid (by repeat (first | with_reducible exact rs_sl | apply Rs.left)) (by omega)) (hm := by rw [List.length_take, List.length_drop]; omega))) ?_; rintro _ _ ⟨rfl, rfl⟩; refine tl_env (d := 129) (v := .bool true) (congrArg Value.bool (show decide (∀ x ∈ ((imgS s3).drop 64).take 128, x = 0) = true by rw [hD3.2.2.2]; exact zero_rep)) ?_; refine tv (o_pick_t rfl (by conv => lhs; whnf)) ?_; refine tlm ?_; refine tl_bool (d := 131) rfl (fun h => ?_) (fun h => ?_)
                                · try simp only [lv1, lv2, lv3, lv4, lv5, lv6, Bool.not_true, Bool.not_false] at h
                                  refine tl_c rfl (o_call bd19 rfl (works_c)) ?_; rintro _ _ ⟨rfl, rfl⟩; refine tv (o_pick_t rfl (by conv => lhs; whnf)) ?_; refine tla ?_; refine nq ?_; refine tc_ret ?_; refine q_then_r ?_; exact ⟨.bool true, A, res1 rfl rfl, Dr.sat (by repeat (first | with_reducible exact dr_refl | apply dr_keep | apply dr_drop)), rfl, rfl⟩
                                · (exfalso; first | (revert h; simp; done) | (simp at h; done) | (revert h; simp; omega) | (simp at h; omega) | omega)
                              · (exfalso; first | (revert h; simp; done) | (simp at h; done) | (revert h; simp; omega) | (simp at h; omega) | omega)
                            · (exfalso; first | (revert h; simp; done) | (simp at h; done) | (revert h; simp; omega) | (simp at h; omega) | omega)
                          · (exfalso; first | (revert h; simp; done) | (simp at h; done) | (revert h; simp; omega) | (simp at h; omega) | omega)
                        · (exfalso; first | (revert h; simp; done) | (simp at h; done) | (revert h; simp; omega) | (simp at h; omega) | omega)
                      · exfalso; simp at h
            · (exfalso; first | (revert h; simp; done) | (simp at h; done) | (revert h; simp; omega) | (simp at h; omega) | omega)
        · have hne : e48 ≠ 0 := by simpa using h
          obtain ⟨rfl, ho48, hL⟩ := hcase.resolve_left (fun h => hne h.1)
          refine tk ?_; refine tk ?_; refine tk ?_; refine tv (o_pick_f rfl (by conv => lhs; whnf)) ?_; refine nq ?_; refine tc_cond_f rfl ?_; refine tc_skip ?_; refine q_then_n ?_; refine tc_seq ?_; refine sr ?_; refine tlm ?_; refine tv (o_eqi rfl rfl) ?_; refine tlm ?_; refine tl_bool (d := 74) rfl (fun h => ?_) (fun h => ?_)
          · (exfalso; first | (revert h; simp; done) | (simp at h; done) | (revert h; simp; omega) | (simp at h; omega) | omega)
          · try simp only [lv1, lv2, lv3, lv4, lv5, lv6, Bool.not_true, Bool.not_false] at h
            refine tk ?_; refine tk ?_; refine tk ?_; refine tk ?_; refine tv (o_pick_f rfl (by conv => lhs; whnf)) ?_; refine nq ?_; refine tc_cond_f rfl ?_; refine tc_skip ?_; refine q_then_n ?_; refine tc_seq ?_; refine sr ?_; refine tlm ?_; refine tl_c rfl (o_call bd45 rfl (Wake_c)) ?_; rintro _ _ ⟨rfl, rfl⟩; refine tl_env (d := 82) (v := .int .i64 0) (by rw [ho48]; rfl) ?_; refine tv (o_nei rfl rfl) ?_; refine nq ?_; refine tc_cond rfl (fun h => ?_) (fun h => ?_)
            · exfalso; simp at h
            · try simp only [lv1, lv2, lv3, lv4, lv5, lv6, Bool.not_true, Bool.not_false] at h
              refine tc_skip ?_; refine q_then_n ?_; refine tc_seq ?_
              obtain ⟨s3, hs3⟩ : ∃ s3, s3 = { s48 with off := false } := ⟨_, rfl⟩
              rw [← hs3]
              have ho3 : s3.off = false := by rw [hs3]
              have hl3 : s3.ls.length = k := by rw [hs3]; exact hl48
              have hw3 : WfD s3 := by rw [hs3]; exact wf_off hw48
              have hL3 : LostI n xs (imgS s3) := by rw [hs3]; exact lost_off hL
              have hdr : (imgS s3).drop 192 = xs.drop 192 := hL3.2.1
              have hi3 : (imgS s3).length = n := hL3.1
              have hl3n : s3.ls.length * 64 = n := by omega
              obtain ⟨q0, q1, q2, q3, q4, hq⟩ := five_i (rdA_len s3)
              obtain ⟨e0, he0⟩ : ∃ e0, e0 = (rdA s3).2 := ⟨_, rfl⟩
              have hrd : rdA s3 = ([q0, q1, q2, q3, q4], e0) := by rw [← hq, he0]
              obtain ⟨w6, hw6⟩ : ∃ w6, w6 = (rootA s3).1 := ⟨_, rfl⟩
              obtain ⟨e6, he6⟩ : ∃ e6, e6 = (rootA s3).2 := ⟨_, rfl⟩
              have hroot : rootA s3 = (w6, e6) := by rw [hw6, he6]
              refine tc_reg ?_; refine tlm ?_; refine tl_c rfl (o_call bd54 rfl (Image_c (s := s3))) ?_; rintro _ _ ⟨a85, c85, rfl, hc85, rfl⟩
              rw [hl3n] at hc85 ⊢
              refine tla ?_; refine nq ?_; refine sr ?_; refine tlm ?_; refine tl_c rfl (o_call bd16 rfl (Read_5 (s := s3) (by repeat (first | with_reducible exact ct_here | apply ct_left)) hrd)) ?_; rintro _ _ ⟨rfl, rfl⟩; refine tlm ?_; refine tv (o_extract rfl rfl) ?_; refine tv (o_extract rfl rfl) ?_; refine tl_x rfl (o_alloc z42 rfl) ?_; rintro _ _ ⟨b14, rfl, rfl⟩; refine tl_u rfl (o_stUN (l' := ints [q0, q1, q2, q3, q4]) rfl (by repeat (first | with_reducible exact upd_here | with_reducible exact upd_pt | apply upd_left)) sz42 rfl rfl rfl (by show 5 ≤ 5; decide) rfl) ?_; refine tla ?_; refine nq ?_; refine sr ?_; refine tlm ?_; refine tl_c rfl (o_call bd17 rfl (Root_5 (s := s3) (by repeat (first | with_reducible exact ct_here | apply ct_left)) hroot)) ?_; rintro _ _ ⟨rfl, rfl⟩; refine tlm ?_; refine tv (o_extract rfl rfl) ?_; refine tv (o_extract rfl rfl) ?_; refine tla ?_; refine tla ?_; refine nq ?_; refine tc_seq ?_; refine tc_seq ?_; refine tc_regq mo (by kernel_rfl) ?_
              refine ql_v rfl (o_move (by conv => lhs; whnf)) ?_; refine ql_v rfl (o_len Tryz.underlying32 rfl) ?_; refine ql_v rfl (o_move (by conv => lhs; whnf)) ?_; refine ql_v rfl (o_len Tryz.underlying32 rfl) ?_; refine ql_v rfl (o_nei rfl rfl) ?_; refine ql_v rfl (o_move (by conv => lhs; whnf)) ?_; refine ql_bool (d := 101) rfl (fun h => ?_) (fun h => ?_)
              · exfalso; simp at h
              · try simp only [lv1, lv2, lv3, lv4, lv5, lv6, Bool.not_true, Bool.not_false] at h
                refine ql_v rfl (o_move (by conv => lhs; whnf)) ?_; refine ql_v rfl (o_slice (l := 192) Tryz.underlying32 sz5 rfl (bnd_nat rfl) bnd_none (by omega) (by omega)) ?_; refine ql_v rfl (o_move (by conv => lhs; whnf)) ?_; refine ql_v rfl (o_slice (l := 192) Tryz.underlying32 sz5 rfl (bnd_nat rfl) bnd_none (by omega) (by omega)) ?_; refine ql_c rfl (fun w => exec_call bd53 rfl) (EqBytes_c (xs := (imgS s3).drop 192) (ys := xs.drop 192) (h1 := rs_cutC (by repeat (first | with_reducible exact rs_sl | apply Rs.left)) (by omega)) (h2 := rs_cutC (by repeat (first | with_reducible exact rs_sl | apply Rs.left)) (by omega)) (hx := by rw [List.length_drop]; omega) (hy := by rw [List.length_drop]; omega)) ?_; refine ql_env (d := 106) (v := .bool true) (congrArg Value.bool (decide_eq_true hdr)) ?_; refine ql_v rfl (o_not rfl) ?_; refine ql_v rfl (o_pick_f rfl (by conv => lhs; whnf)) ?_; refine ql_nil ?_; refine q_then_n ?_; refine tc_cond rfl (fun h => ?_) (fun h => ?_)
                · exfalso; simp at h
                · try simp only [lv1, lv2, lv3, lv4, lv5, lv6, Bool.not_true, Bool.not_false] at h
                  refine tc_skip ?_; refine q_then_n ?_; refine tc_seq ?_; refine sr ?_; refine tlm ?_; refine tv (o_eqi rfl rfl) ?_; refine nq ?_; refine tc_cond rfl (fun h => ?_) (fun h => ?_)
                  · exfalso; simp at h
                  · try simp only [lv1, lv2, lv3, lv4, lv5, lv6, Bool.not_true, Bool.not_false] at h
                    refine tc_skip ?_; refine q_then_n ?_; refine tc_seq ?_; refine tc_regq mo (by kernel_rfl) ?_; refine ql_v rfl (o_move (by conv => lhs; whnf)) ?_; refine ql_v rfl (o_slice (h := 192) Tryz.underlying32 sz5 rfl bnd_none (bnd_nat rfl) (by omega) (by omega)) ?_; refine ql_env (d := 135) (v := .slice a85 192 c85) (by show Value.slice (cutAddr a85 c85 0 1) (192 - 0) (c85 - 0) = _; rw [cut_none]; rfl) ?_; refine ql_v rfl (o_move (by conv => lhs; whnf)) ?_; refine ql_v rfl (o_slice (h := 192) Tryz.underlying32 sz5 rfl bnd_none (bnd_nat rfl) (by omega) (by omega)) ?_; refine ql_env (d := 137) (v := .slice a20 192 c20) (by show Value.slice (cutAddr a20 c20 0 1) (192 - 0) (c20 - 0) = _; rw [cut_none]; rfl) ?_; refine ql_c rfl (fun w => exec_call bd53 rfl) (EqBytes_c (xs := (imgS s3).take 192) (ys := xs.take 192) (h1 := by rw [← bys_take]; exact Rs.sub (by repeat (first | with_reducible exact rs_sl | apply Rs.left)) _) (h2 := by rw [← bys_take]; exact Rs.sub (by repeat (first | with_reducible exact rs_sl | apply Rs.left)) _) (hx := by rw [List.length_take]; omega) (hy := by rw [List.length_take]; omega)) ?_; refine ql_v rfl (o_assign (by conv => lhs; whnf)) ?_; refine ql_nil ?_; refine q_then_n ?_; refine tc_seq ?_
                    have hfin := lost_rd hk hn ho3 hl3 hL3
                    rw [hrd, hroot] at hfin
                    refine tc_reg ?_; refine tlm ?_; refine tv (o_eqi rfl rfl) ?_; refine tlm ?_; refine tl_bool (d := 141) rfl (fun h => ?_) (fun h => ?_)
                    · try simp only [lv1, lv2, lv3, lv4, lv5, lv6, Bool.not_true, Bool.not_false] at h
                      refine tlm ?_; refine tlm ?_; refine tl_bool (d := 143) rfl (fun h => ?_) (fun h => ?_)
                      · try simp only [lv1, lv2, lv3, lv4, lv5, lv6, Bool.not_true, Bool.not_false] at h
                        refine tk ?_; refine tk ?_; refine tk ?_; refine tk ?_; refine tk ?_; refine tk ?_; refine tv (o_pick_t rfl (by conv => lhs; whnf)) ?_; refine tlm ?_; refine tk ?_; refine tk ?_; refine tk ?_; refine tk ?_; refine tk ?_; refine tk ?_; refine tk ?_; refine tk ?_; refine tk ?_; refine tk ?_; refine tk ?_; refine tk ?_; refine tk ?_; refine tk ?_; refine tk ?_; refine tk ?_; refine tv (o_pick_t rfl (by conv => lhs; whnf)) ?_; refine tv (o_pick_t rfl (by conv => lhs; whnf)) ?_; refine tlm ?_; refine tl_c rfl (o_call bd19 rfl (works_c)) ?_; rintro _ _ ⟨rfl, rfl⟩; refine tv (o_pick_t rfl (by conv => lhs; whnf)) ?_; refine tla ?_
                        refine nq ?_; refine tc_ret ?_; exact ⟨.bool true, A, res1 rfl rfl, Dr.sat (by repeat (first | with_reducible exact dr_refl | apply dr_keep | apply dr_drop)), rfl, rfl⟩
                      · have hfin := hfin.resolve_left (by simpa using h)
                        simp only [Prod.mk.injEq] at hfin
                        refine tlm ?_; refine tv (o_eqi rfl rfl) ?_; refine tlm ?_; refine tl_bool (d := 146) rfl (fun h => ?_) (fun h => ?_)
                        · have he0v : e0 = 100 := by simpa using h
                          have he6v : e6 = 100 := by rcases hfin with h | h <;> omega
                          subst he6v
                          refine tlm ?_; refine tv (o_eqi rfl rfl) ?_; refine tv (o_pick_t rfl (by conv => lhs; whnf)) ?_; refine tv (o_pick_f rfl (by conv => lhs; whnf)) ?_; refine tlm ?_; refine tl_bool (d := 151) rfl (fun h => ?_) (fun h => ?_)
                          · try simp only [lv1, lv2, lv3, lv4, lv5, lv6, Bool.not_true, Bool.not_false] at h
                            refine tk ?_; refine tk ?_; refine tk ?_; refine tk ?_; refine tk ?_; refine tk ?_; refine tk ?_; refine tk ?_; refine tk ?_; refine tk ?_; refine tk ?_; refine tk ?_; refine tk ?_; refine tk ?_; refine tk ?_; refine tk ?_; refine tv (o_pick_t rfl (by conv => lhs; whnf)) ?_; refine tv (o_pick_t rfl (by conv => lhs; whnf)) ?_; refine tlm ?_; refine tl_c rfl (o_call bd19 rfl (works_c)) ?_; rintro _ _ ⟨rfl, rfl⟩; refine tv (o_pick_t rfl (by conv => lhs; whnf)) ?_; refine tla ?_; refine nq ?_; refine tc_ret ?_; exact ⟨.bool true, A, res1 rfl rfl, Dr.sat (by repeat (first | with_reducible exact dr_refl | apply dr_keep | apply dr_drop)), rfl, rfl⟩
                          · exfalso; simp at h
                        · have he0v : e0 ≠ 100 := by simpa using h
                          obtain ⟨⟨hx1, hx2⟩, ⟨hx3, hx4⟩, hx5⟩ := hfin.resolve_left (fun h => he0v h.1.2)
                          simp only [List.cons.injEq, and_true] at hx1
                          obtain ⟨rfl, rfl, rfl, rfl, rfl⟩ := hx1
                          subst hx2 hx3 hx4
                          refine tk ?_; refine tk ?_; refine tv (o_pick_f rfl (by conv => lhs; whnf)) ?_; refine tv (o_pick_f rfl (by conv => lhs; whnf)) ?_; refine tlm ?_; refine tlm ?_; refine tv (o_eqi rfl rfl) ?_; refine tlm ?_; refine tl_bool (d := 154) rfl (fun h => ?_) (fun h => ?_)
                          · try simp only [lv1, lv2, lv3, lv4, lv5, lv6, Bool.not_true, Bool.not_false] at h
                            refine tv (o_loadN (vs := ints [(n : Int), ((128 : Nat) : Int), ((32768 : Nat) : Int), ((32896 : Nat) : Int), (((n - 32896) / 256 : Nat) : Int)]) a42 sz42 rfl (by repeat (first | with_reducible exact has_here | with_reducible exact has_pt | apply has_left)) (by show 5 ≤ 5; decide) rfl) ?_; refine tv (o_loadN (vs := ints [(n : Int), ((128 : Nat) : Int), ((32768 : Nat) : Int), ((32896 : Nat) : Int), (((n - 32896) / 256 : Nat) : Int)]) a42 sz42 rfl (by repeat (first | with_reducible exact has_here | with_reducible exact has_pt | apply has_left)) (by show 5 ≤ 5; decide) rfl) ?_; refine tv (o_eqst (k := 5) (l := [(n : Int), ((128 : Nat) : Int), ((32768 : Nat) : Int), ((32896 : Nat) : Int), (((n - 32896) / 256 : Nat) : Int)]) (m := [(n : Int), ((128 : Nat) : Int), ((32768 : Nat) : Int), ((32896 : Nat) : Int), (((n - 32896) / 256 : Nat) : Int)]) Tryz.underlying42 (by kernel_rfl) (by kernel_rfl) (by kernel_rfl) rfl rfl rfl rfl) ?_; refine tv (o_pick_t rfl (by conv => lhs; whnf)) ?_; refine tlm ?_; refine tl_bool (d := 159) rfl (fun h => ?_) (fun h => ?_)
                            · try simp only [lv1, lv2, lv3, lv4, lv5, lv6, Bool.not_true, Bool.not_false] at h
                              refine tlm ?_; refine tv (o_eqi rfl rfl) ?_; refine tv (o_pick_t rfl (by conv => lhs; whnf)) ?_; refine tlm ?_; refine tl_bool (d := 163) rfl (fun h => ?_) (fun h => ?_)
                              · try simp only [lv1, lv2, lv3, lv4, lv5, lv6, Bool.not_true, Bool.not_false] at h
                                refine tlm ?_; refine tv (o_slice (l := 64) (h := 192) Tryz.underlying32 sz5 rfl (bnd_nat rfl) (bnd_nat rfl) (by omega) (by omega)) ?_; refine tl_c rfl (o_call bd71 rfl (zero_c (xs := ((imgS s3).drop 64).take 128) (hr := rs_mid (by repeat (first | with_reducible exact rs_sl | apply Rs.left)) (by omega)) (hm := by rw [List.length_take, List.length_drop]; omega))) ?_; rintro _ _ ⟨rfl, rfl⟩; refine tl_env (d := 166) (v := .bool true) (congrArg Value.bool (show decide (∀ x ∈ ((imgS s3).drop 64).take 128, x = 0) = true by rw [hx5]; exact zero_rep)) ?_; refine tv (o_pick_t rfl (by conv => lhs; whnf)) ?_; refine tv (o_pick_f rfl (by conv => lhs; whnf)) ?_; refine tv (o_pick_t rfl (by conv => lhs; whnf)) ?_; refine tlm ?_; refine tl_bool (d := 170) rfl (fun h => ?_) (fun h => ?_)
                                · try simp only [lv1, lv2, lv3, lv4, lv5, lv6, Bool.not_true, Bool.not_false] at h
                                  refine tl_c rfl (o_call bd19 rfl (works_c)) ?_; rintro _ _ ⟨rfl, rfl⟩; refine tv (o_pick_t rfl (by conv => lhs; whnf)) ?_; refine tla ?_; refine nq ?_; refine tc_ret ?_; exact ⟨.bool true, A, res1 rfl rfl, Dr.sat (by repeat (first | with_reducible exact dr_refl | apply dr_keep | apply dr_drop)), rfl, rfl⟩
                                · (exfalso; first | (revert h; simp; done) | (simp at h; done) | (revert h; simp; omega) | (simp at h; omega) | omega)
                              · (exfalso; first | (revert h; simp; done) | (simp at h; done) | (revert h; simp; omega) | (simp at h; omega) | omega)
                            · (exfalso; first | (revert h; simp; done) | (simp at h; done) | (revert h; simp; omega) | (simp at h; omega) | omega)
                          · (exfalso; first | (revert h; simp; done) | (simp at h; done) | (revert h; simp; omega) | (simp at h; omega) | omega)
                    · (exfalso; first | (revert h; simp; done) | (simp at h; done) | (revert h; simp; omega) | (simp at h; omega) | omega)
end Go.Vl

set_option linter.unusedVariables false
set_option linter.unusedSimpArgs false
namespace Go.Vl
open Go Go.Proofs
def PSteps (A : SP) (cs : List Value) (ss : List StepC) : Prop := ∃ a cap, cs = [.slice a ss.length cap] ∧ ss.length ≤ cap ∧ ss.length ≤ 1353245080300 ∧ Rs A a (scs ss) ∧ ∀ t ∈ ss, t.v < 18446744073709551616
end Go.Vl

set_option linter.unusedVariables false
set_option linter.unusedSimpArgs false
namespace Go.Vl
open Go Go.Proofs
structure ImC where
  sz : Int
  fl : Int
  ha : Option Addr
  hcp : Nat
  hd : List Nat
  rt : Bool
  tn : Int
def ImC.cells (t : ImC) : List Value := [.int .i64 t.sz, .int .u8 t.fl, .slice t.ha t.hd.length t.hcp, .bool t.rt, .int .i64 t.tn]
def PImg (A : SP) (cs : List Value) (t : ImC) : Prop := cs = t.cells ∧ Rs A t.ha (bys t.hd) ∧ (∀ x ∈ t.hd, x < 256) ∧ t.hd.length ≤ t.hcp ∧ t.hd.length ≤ 140737488351232 ∧ (0 ≤ t.fl ∧ t.fl < 256) ∧ (-9223372036854775808 ≤ t.tn ∧ t.tn ≤ 9223372036854775807) ∧ (-9223372036854775808 ≤ t.sz ∧ t.sz ≤ 9223372036854775807)
theorem img_cells {t : ImC} (h : 0 ≤ t.fl) : t.cells = [.int .i64 t.sz, .int .u8 ((t.fl.toNat : Nat) : Int), .slice t.ha t.hd.length t.hcp, .bool t.rt, .int .i64 t.tn] := by unfold ImC.cells; rw [Int.toNat_of_nonneg h]
theorem SuperLost_L (F : SP) (cs : Array Value) (t : ImC) (h : PImg F cs.toList t) (v2 : Value) (af : Int) (haf : PInt .i64 [v2] af) (v3 : Value) (kp : List Int) (hkp : PInts F [v3] kp) :
    Fn Tryz.prog 13 #[.agg cs, v2, v3] F (fun r B => r = .bool true ∧ B = F) := by
  obtain ⟨e, h1, h2, h3, h4, h5, h6, h7⟩ := h
  obtain ⟨e2, _⟩ := haf
  obtain ⟨ka, kc, e3, k1, k2, k3, k4⟩ := hkp
  simp only [List.cons.injEq, and_true] at e2 e3
  subst e2 e3
  have ecs : cs = t.cells.toArray := by rw [← e]
  rw [ecs, img_cells h5.1]
  by_cases c : t.sz < 0 ∨ 4194368 < t.sz
  · exact SuperLost_n1 F h1 h2 (by omega) h6 h4 k3 k2 (fun k hk => (k4 k hk).2) c
  · obtain ⟨n, hn⟩ : ∃ n : Nat, t.sz = (n : Int) := ⟨t.sz.toNat, by omega⟩
    rw [hn]
    by_cases hf : fitsB (n : Nat) = true
    · have hf' : 64 ≤ (n : Int) ∧ (n : Int) ≤ 4194304 ∧ (n : Int) % 64 = 0 := by unfold fitsB at hf; simpa using hf
      by_cases hs : n < 36992
      · exact SuperLost_s F h1 h2 (by omega) h6 h4 k3 k2 (fun k hk => (k4 k hk).2) (k := n / 64) (by omega) (by omega) hs k1
      · exact SuperLost_ok F h1 h2 (by omega) h6 h4 k3 k2 (fun k hk => (k4 k hk).2) (k := n / 64) (by omega) (by omega) (by omega) k1
    · exact SuperLost_n2 F h1 h2 (by omega) h6 h4 k3 k2 (fun k hk => (k4 k hk).2) (by omega) (by simpa using hf)
end Go.Vl

set_option linter.unusedVariables false
set_option linter.unusedSimpArgs false
namespace Go.Vl
open Go Go.Proofs
/-- A line: where its contents' list lies, where each content lies and its words; the mark. -/
structure RL where
  v : Value
  rows : List (Value × List Nat)
  mark : Int
def RL.l (x : RL) : LineS := ⟨x.rows.map Prod.snd, x.mark⟩
def rcl (x : RL) : List Value := [x.v, .int .i64 x.mark]
theorem rcl_len (l : List RL) : ∀ a ∈ l, (rcl a).length = 2 := fun _ _ => rfl
def rowR (p : Value × List Nat) : SP := SlR 1 p.1 64 (bys (lb p.2))
def rlR (x : RL) : SP := Sl 1 x.v x.rows.length (x.rows.map Prod.fst) * Bs rowR x.rows
def rdcs (lv : Value) (s : DevS) (av : Value) : List Value := [.int .i64 ((s.ls.length * 64 : Nat) : Int), lv, .int .i64 s.ops, av, .int .i64 s.cnt, .bool s.off]
/-- The device, its parts told. -/
def RDevC (r : Nat) (lv : Value) (rls : List RL) (av : Value) (kvs : List Value) (s : DevS) : SP :=
  pt r (cl (rdcs lv s av) 114) * Sl 2 lv s.ls.length (rls.flatMap rcl) * Bs rlR rls * ArmsR av kvs s.arms
/-- The device. -/
def RDev (r : Nat) (s : DevS) : SP := fun h => WfD s ∧ ∃ lv rls av kvs, rls.map RL.l = s.ls ∧ kvs.length = s.arms.length ∧ RDevC r lv rls av kvs s h
theorem rdev_iff {r : Nat} {s : DevS} {R : SP} {g : Gh} {w : World} : sat g w (R * RDev r s) ↔ WfD s ∧ ∃ lv rls av kvs, rls.map RL.l = s.ls ∧ kvs.length = s.arms.length ∧ sat g w (R * RDevC r lv rls av kvs s) := by
  constructor
  · intro hs
    obtain ⟨_, ⟨x, y, hd, rfl, ha, hw, lv, rls, av, kvs, h1, h2, h3⟩, hx⟩ := hs.hp
    exact ⟨hw, lv, rls, av, kvs, h1, h2, hs.os, hs.tape, hs.out, _, ⟨x, y, hd, rfl, ha, h3⟩, hx⟩
  · rintro ⟨hw, lv, rls, av, kvs, h1, h2, hs⟩
    exact hs.mono fun h ⟨x, y, hd, e, ha, hb⟩ => ⟨x, y, hd, e, ha, hw, lv, rls, av, kvs, h1, h2, hb⟩
section
variable {P : Program} {n : Nat} {Q : Post} {ρ : Env} {r : Nat} {s : DevS} {R : SP}
theorem tc_rdev {c : Code} (h : WfD s → ∀ lv rls av kvs, rls.map RL.l = s.ls → kvs.length = s.arms.length → TC P n c Q ρ (R * RDevC r lv rls av kvs s)) : TC P n c Q ρ (R * RDev r s) := fun g a w ha hs => by
  obtain ⟨hw, lv, rls, av, kvs, h1, h2, hs'⟩ := rdev_iff.1 hs
  exact h hw lv rls av kvs h1 h2 g a w ha hs'
end
theorem rdev_back {r : Nat} {s : DevS} {R : SP} {lv av : Value} {rls : List RL} {kvs : List Value} (hw : WfD s) (h1 : rls.map RL.l = s.ls) (h2 : kvs.length = s.arms.length) : ∀ g w, sat g w (R * RDevC r lv rls av kvs s) → sat g w (R * RDev r s) :=
  fun g w hs => rdev_iff.2 ⟨hw, lv, rls, av, kvs, h1, h2, hs⟩
section
variable {r : Nat} {s : DevS} {R F : SP} {lv av : Value} {rls : List RL} {kvs : List Value}
theorem rdevC_r : Has (F * RDevC r lv rls av kvs s) r (cl (rdcs lv s av) 114) := by
  rw [show F * RDevC r lv rls av kvs s = F * Sl 2 lv s.ls.length (rls.flatMap rcl) * Bs rlR rls * ArmsR av kvs s.arms * pt r (cl (rdcs lv s av) 114) by unfold RDevC; ac_rfl]
  exact has_here
theorem rdevC_upd (o c : Int) (f : Bool) : Upd (F * RDevC r lv rls av kvs s) r (cl (rdcs lv s av) 114) (cl (rdcs lv { s with ops := o, cnt := c, off := f } av) 114) (F * RDevC r lv rls av kvs { s with ops := o, cnt := c, off := f }) := by
  have e : ∀ t : DevS, F * RDevC r lv rls av kvs t = F * Sl 2 lv t.ls.length (rls.flatMap rcl) * Bs rlR rls * ArmsR av kvs t.arms * pt r (cl (rdcs lv t av) 114) := fun t => by unfold RDevC; ac_rfl
  rw [e, e]; exact upd_here
/-- What is read of the device. -/
structure RdevR (A : SP) (r : Nat) (lv : Value) (rls : List RL) (av : Value) (s : DevS) : Prop where
  wf : WfD s
  len : rls.length = s.ls.length
  at_ : ∀ i (h : i < rls.length) (h' : i < s.ls.length), rls[i].l = s.ls[i]
  d : Rs A (some ⟨r, 0, none⟩) (rdcs lv s av)
  lv : ∃ b o c, lv = .slice (some ⟨b, o, none⟩) s.ls.length c ∧ s.ls.length ≤ c ∧ Rs A (some ⟨b, o, none⟩) (rls.flatMap rcl)
  all : ∀ i (h : i < rls.length), ∃ b o c, rls[i].v = .slice (some ⟨b, o, none⟩) rls[i].rows.length c ∧ rls[i].rows.length ≤ c ∧ Rs A (some ⟨b, o, none⟩) (rls[i].rows.map Prod.fst)
  row : ∀ i (h : i < rls.length) j (h' : j < rls[i].rows.length), ∃ b o c, rls[i].rows[j].1 = .slice (some ⟨b, o, none⟩) 64 c ∧ 64 ≤ c ∧ Rs A (some ⟨b, o, none⟩) (bys (lb rls[i].rows[j].2))
theorem rs_in {A X R : SP} {a : Option Addr} {xs : List Value} (e : A = R * X) (h : Rs (R * X) a xs) : Rs A a xs := e ▸ h
theorem lb_len {s : List Nat} (h : s.length = 8) : (lb s).length = 64 := by rw [lb_length, h]
theorem rdevR_of (hw : WfD s) (h1 : rls.map RL.l = s.ls) {g : Gh} {w : World} (hs : sat g w (F * RDevC r lv rls av kvs s)) : RdevR (F * RDevC r lv rls av kvs s) r lv rls av s := by
  have hlen : rls.length = s.ls.length := by rw [← h1, List.length_map]
  have hat : ∀ i (h : i < rls.length) (h' : i < s.ls.length), rls[i].l = s.ls[i] := fun i h h' => by
    have : (rls.map RL.l)[i]? = some rls[i].l := by simp [h]
    rw [h1, List.getElem?_eq_getElem h'] at this
    exact (Option.some.inj this).symm
  have hrne : ∀ i (h : i < rls.length), 0 < rls[i].rows.length := fun i h => by
    have hl := hw.line _ (List.getElem_mem (show i < s.ls.length by omega))
    rw [← hat i h (by omega)] at hl
    have := List.length_pos_iff.2 hl.ne
    simpa [RL.l] using this
  refine ⟨hw, hlen, hat, ?_, ?_, ?_, ?_⟩
  · refine rs_in (R := F * Sl 2 lv s.ls.length (rls.flatMap rcl) * Bs rlR rls * ArmsR av kvs s.arms) (X := pt r (cl (rdcs lv s av) 114)) (by unfold RDevC; ac_rfl) rs_pt0
  · have e : F * RDevC r lv rls av kvs s = F * pt r (cl (rdcs lv s av) 114) * Bs rlR rls * ArmsR av kvs s.arms * Sl 2 lv s.ls.length (rls.flatMap rcl) := by unfold RDevC; ac_rfl
    have hpos := hw.pos
    obtain ⟨a, c, e1, e2, e3, e4⟩ := sl_have' e hs
    obtain ⟨b, o, rfl, hc⟩ := e4.some (by rw [e3]; omega)
    exact ⟨b, o, c, e1, e2, rs_rd (rd_cells hc)⟩
  · intro i h
    obtain ⟨R, hR, _⟩ := bs_get (f := rlR) h
    have e : F * RDevC r lv rls av kvs s = F * pt r (cl (rdcs lv s av) 114) * Sl 2 lv s.ls.length (rls.flatMap rcl) * R * Bs rowR rls[i].rows * ArmsR av kvs s.arms * Sl 1 rls[i].v rls[i].rows.length (rls[i].rows.map Prod.fst) := by unfold RDevC; rw [hR]; unfold rlR; ac_rfl
    have hpos := hrne i h
    obtain ⟨a, c, e1, e2, e3, e4⟩ := sl_have' e hs
    obtain ⟨b, o, rfl, hc⟩ := e4.some (by rw [e3]; omega)
    exact ⟨b, o, c, e1, e2, rs_rd (rd_cells hc)⟩
  · intro i h j h'
    obtain ⟨R, hR, _⟩ := bs_get (f := rlR) h
    obtain ⟨R', hR', _⟩ := bs_get (f := rowR) h'
    have e : F * RDevC r lv rls av kvs s = F * pt r (cl (rdcs lv s av) 114) * Sl 2 lv s.ls.length (rls.flatMap rcl) * R * Sl 1 rls[i].v rls[i].rows.length (rls[i].rows.map Prod.fst) * R' * ArmsR av kvs s.arms * SlR 1 rls[i].rows[j].1 64 (bys (lb rls[i].rows[j].2)) := by
      unfold RDevC; rw [hR]; unfold rlR; rw [hR']; unfold rowR; ac_rfl
    obtain ⟨a, c, e1, e2, e3, e4⟩ := slR_have e hs
    obtain ⟨b, o, rfl, hc⟩ := e4.some (by rw [e3]; omega)
    exact ⟨b, o, c, e1, e2, rs_rd (rd_cells hc)⟩
theorem RdevR.left {A X : SP} (h : RdevR A r lv rls av s) : RdevR (A * X) r lv rls av s :=
  ⟨h.wf, h.len, h.at_, h.d.left, let ⟨b, o, c, e1, e2, e3⟩ := h.lv; ⟨b, o, c, e1, e2, e3.left⟩, fun i hi => let ⟨b, o, c, e1, e2, e3⟩ := h.all i hi; ⟨b, o, c, e1, e2, e3.left⟩,
    fun i hi j hj => let ⟨b, o, c, e1, e2, e3⟩ := h.row i hi j hj; ⟨b, o, c, e1, e2, e3.left⟩⟩
theorem RdevR.rows {A : SP} (h : RdevR A r lv rls av s) {i : Nat} (hi : i < rls.length) (hi' : i < s.ls.length) : rls[i].rows.length = s.ls[i].st.length := by
  rw [← h.at_ i hi hi']; simp [RL.l]
theorem RdevR.snd {A : SP} (h : RdevR A r lv rls av s) {i j : Nat} (hi : i < rls.length) (hi' : i < s.ls.length) (hj : j < rls[i].rows.length) : rls[i].rows[j].2 = s.ls[i].st[j]'(by rw [← h.rows hi hi']; exact hj) := by
  have := h.at_ i hi hi'
  have e : s.ls[i].st = rls[i].rows.map Prod.snd := by rw [← this]; rfl
  simp only [e, List.getElem_map]
theorem RdevR.mark {A : SP} (h : RdevR A r lv rls av s) {i : Nat} (hi : i < rls.length) (hi' : i < s.ls.length) : rls[i].mark = s.ls[i].mark := by rw [← h.at_ i hi hi']; rfl
theorem RdevR.lvR {A : SP} {b o n c : Nat} (h : RdevR A r (.slice (some ⟨b, o, none⟩) n c) rls av s) : Rs A (some ⟨b, o, none⟩) (rls.flatMap rcl) := by
  obtain ⟨b', o', c', e, _, h1⟩ := h.lv
  simp only [Value.slice.injEq, Option.some.injEq, Addr.mk.injEq] at e
  obtain ⟨⟨rfl, rfl, _⟩, _, _⟩ := e
  exact h1
/-- One line, told by itself. -/
theorem rdevC_focus {i n : Nat} (hi : i < rls.length) (hn : s.ls.length = n) : ∃ R, (∀ F, F * RDevC r lv rls av kvs s = F * R * pt r (cl (rdcs lv s av) 114) * Bs rowR rls[i].rows * Sl 1 rls[i].v rls[i].rows.length (rls[i].rows.map Prod.fst) * Sl 2 lv n (rls.flatMap rcl)) ∧
    ∀ F x (t : DevS), t.ls.length = n → t.arms = s.arms → t.ops = s.ops → t.cnt = s.cnt → t.off = s.off → F * R * pt r (cl (rdcs lv s av) 114) * Bs rowR x.rows * Sl 1 x.v x.rows.length (x.rows.map Prod.fst) * Sl 2 lv n ((rls.set i x).flatMap rcl) = F * RDevC r lv (rls.set i x) av kvs t := by
  subst hn
  obtain ⟨R, hR, hS⟩ := bs_get (f := rlR) hi
  refine ⟨R * ArmsR av kvs s.arms, fun F => ?_, fun F x t ht ha h1 h2 h3 => ?_⟩
  · unfold RDevC; rw [hR]; unfold rlR; ac_rfl
  · have e : rdcs lv s av = rdcs lv t av := by unfold rdcs; rw [ht, h1, h2, h3]
    unfold RDevC; rw [hS, ha, ht, e]; unfold rlR; ac_rfl
/-- A line that keeps one content. -/
theorem rdev_line1 {X S2 : SP} {rows : List (Value × List Nat)} {k b : Nat} {v : Value} {xs : List Value} {n : Nat} {E : TypeId} (hk : k < rows.length) {g : Gh} {w : World} (h : sat g w (X * Bs rowR rows * Sl 1 v n xs * S2 * pt b (cl [rows[k].1] E))) :
    sat g w (X * Bs rowR [rows[k]] * Sl 1 (.slice (some ⟨b, 0, none⟩) 1 1) 1 [rows[k].1] * S2) := by
  obtain ⟨R', hR', _⟩ := bs_get (f := rowR) hk
  have h1 : sat g w (X * S2 * rowR rows[k] * pt b (cl [rows[k].1] E) * (R' * Sl 1 v n xs)) := h.perm (by rw [hR']; ac_rfl)
  exact (sl_new (k := 1) (n := 1) (cap := 1) (xs := [rows[k].1]) h1.left (by decide) (Nat.le_refl _) rfl).perm (by rw [bs_cons, bs_nil, emp_star]; ac_rfl)
theorem rdevC_arms {g : Gh} {w : World} (hs : sat g w (F * RDevC r lv rls av kvs s)) :
    ∃ a cap, av = .slice a s.arms.length cap ∧ s.arms.length ≤ cap ∧ (acs kvs s.arms).length = s.arms.length * 2 ∧ Rd (F * RDevC r lv rls av kvs s) a (acs kvs s.arms) :=
  sl_have' (R := F * KeepsR kvs s.arms * Bs rlR rls * Sl 2 lv s.ls.length (rls.flatMap rcl) * pt r (cl (rdcs lv s av) 114)) (by unfold RDevC ArmsR; ac_rfl) hs
theorem rdevC_arms' {n c : Nat} {a : Option Addr} {g : Gh} {w : World} (hs : sat g w (F * RDevC r lv rls (.slice a n c) kvs s)) : Rd (F * RDevC r lv rls (.slice a n c) kvs s) a (acs kvs s.arms) := by
  obtain ⟨a', cap, e, _, _, h⟩ := rdevC_arms hs
  simp only [Value.slice.injEq] at e
  rw [← e.1] at h; exact h
theorem rdevC_eq : F * RDevC r lv rls av kvs s = F * ArmsR av kvs s.arms * Bs rlR rls * Sl 2 lv s.ls.length (rls.flatMap rcl) * pt r (cl (rdcs lv s av) 114) := by unfold RDevC; ac_rfl
theorem rdevC_cut {b o n c : Nat} {kv : Value} {s' : DevS} {arm : Int × List Int} {ar : List (Int × List Int)} (hn : n = s.arms.length) (ha : s.arms = arm :: ar) (hls : s'.ls = s.ls) (har : s'.arms = ar) {g : Gh} {w : World}
    (hs : sat g w (F * ArmsR (.slice (some ⟨b, o, none⟩) n c) (kv :: kvs) s.arms * Bs rlR rls * Sl 2 lv s.ls.length (rls.flatMap rcl) * pt r (cl (rdcs lv s' (.slice (cutAddr (some ⟨b, o, none⟩) c 1 2) (n - 1) (c - 1))) 114))) :
    sat g w (F * SlR 1 kv arm.2.length (ints arm.2) * RDevC r lv rls (.slice (cutAddr (some ⟨b, o, none⟩) c 1 2) (n - 1) (c - 1)) kvs s') := by
  unfold ArmsR at hs
  rw [ha] at hs
  have h1 := sl_cut (l := 1) (hs.perm (B := F * (KeepsR kvs ar * SlR 1 kv arm.2.length (ints arm.2)) * Bs rlR rls * Sl 2 lv s.ls.length (rls.flatMap rcl) * pt r (cl (rdcs lv s' (.slice (cutAddr (some ⟨b, o, none⟩) c 1 2) (n - 1) (c - 1))) 114) * Sl 2 (.slice (some ⟨b, o, none⟩) n c) n (acs (kv :: kvs) (arm :: ar)))
    (by rw [hn, ha]; simp only [KeepsR]; ac_rfl)) (by rw [hn, ha]; simp)
  refine h1.perm ?_
  unfold RDevC ArmsR
  rw [hls, har]
  have : n - 1 = ar.length := by rw [hn, ha]; simp
  rw [this]
  simp only [acs, Nat.one_mul, List.drop_succ_cons, List.drop_zero]
  ac_rfl
end
theorem goP_wf {keep : List Int} {i : Nat} {s : DevS} (h : WfD s) : WfD { s with ls := goPart keep i s.ls } := ⟨by simp only [goPart_length]; exact h.pos, by simp only [goPart_length]; exact h.top, goPart_wf h.line, h.arms, h.after, h.keeps⟩
end Go.Vl

set_option linter.unusedVariables false
set_option linter.unusedSimpArgs false
namespace Go.Vl
open Go Go.Proofs
theorem fn_rdevR0 {P : Program} {f : FuncId} {args : Array Value} {F : SP} {r : Nat} {s : DevS} {q : Value → Prop}
    (h : ∀ A lv rls av, RdevR A r lv rls av s → Fn P f args A fun v B => q v ∧ A = B) :
    Fn P f args (F * RDev r s) fun v B => q v ∧ F * RDev r s = B := fun g w hs => by
  obtain ⟨hw, lv, rls, av, kvs, h1, h2, hs'⟩ := rdev_iff.1 hs
  refine (h _ lv rls av (rdevR_of hw h1 hs') g w hs').mono ?_; rintro e w' ⟨v, B, e1, ⟨hq, rfl⟩, hB⟩; exact ⟨v, F * RDev r s, e1, ⟨hq, rfl⟩, rdev_back hw h1 h2 _ _ hB⟩
theorem fn_rdevR {P : Program} {f : FuncId} {args : Array Value} {F : SP} {r : Nat} {s : DevS} {q : Value → SP → Prop}
    (h : ∀ A lv rls av, RdevR A r lv rls av s → Fn P f args A fun v B => ∃ X, B = A * X ∧ q v X) :
    Fn P f args (F * RDev r s) fun v B => ∃ X, B = F * RDev r s * X ∧ q v X := fun g w hs => by
  obtain ⟨hw, lv, rls, av, kvs, h1, h2, hs'⟩ := rdev_iff.1 hs
  refine (h _ lv rls av (rdevR_of hw h1 hs') g w hs').mono ?_; rintro e w' ⟨v, B, e1, ⟨X, rfl, hq⟩, hB⟩; refine ⟨v, _, e1, ⟨X, rfl, hq⟩, ?_⟩
  have h3 := rdev_back (R := F * X) hw h1 h2 _ _ (hB.perm (star_swap _ _ _))
  exact h3.perm (star_swap _ _ _)
theorem rcl_at0 {l : List RL} {i : Nat} (h : i < l.length) : (l.flatMap rcl)[i * 2 + 0]? = some l[i].v := by rw [fm_atj (rcl_len l) h (by decide) rfl]; rfl
theorem rcl_at1 {l : List RL} {i : Nat} (h : i < l.length) : (l.flatMap rcl)[i * 2 + 1]? = some (.int .i64 l[i].mark) := by rw [fm_atj (rcl_len l) h (by decide) rfl]; rfl
section
variable {A : SP} {r : Nat} {lv av : Value} {rls : List RL} {s : DevS}
theorem RdevR.pos (h : RdevR A r lv rls av s) {i : Nat} (hi : i < rls.length) : 0 < rls[i].rows.length := by
  have h' : i < s.ls.length := by rw [← h.len]; exact hi
  rw [h.rows hi h']
  exact List.length_pos_iff.2 (h.wf.line _ (List.getElem_mem h')).ne
theorem RdevR.small (h : RdevR A r lv rls av s) {i : Nat} (hi : i < rls.length) : rls[i].rows.length ≤ 2199023255552 := by
  have h' : i < s.ls.length := by rw [← h.len]; exact hi
  rw [h.rows hi h']
  exact (h.wf.line _ (List.getElem_mem h')).small
/-- The content that is seen. -/
theorem RdevR.top (h : RdevR A r lv rls av s) {i : Nat} (hi : i < rls.length) (hi' : i < s.ls.length) : ∃ b o c, (rls[i].rows.map Prod.fst)[rls[i].rows.length - 1]? = some (.slice (some ⟨b, o, none⟩) 64 c) ∧ 64 ≤ c ∧ Rs A (some ⟨b, o, none⟩) (bys (lb (seenL s.ls[i]))) := by
  have hp := h.pos hi
  obtain ⟨b, o, c, e1, e2, e3⟩ := h.row i hi (rls[i].rows.length - 1) (by omega)
  refine ⟨b, o, c, ?_, e2, ?_⟩
  · rw [List.getElem?_map, List.getElem?_eq_getElem (by omega)]; simp [e1]
  · rw [h.snd hi hi' (by omega)] at e3
    have e : seenL s.ls[i] = s.ls[i].st[rls[i].rows.length - 1]'(by rw [← h.rows hi hi']; omega) := by
      unfold seenL; simp only [← h.rows hi hi']
      simp [List.getD, show rls[i].rows.length - 1 < s.ls[i].st.length by rw [← h.rows hi hi']; omega]
    rw [e]; exact e3
theorem RdevR.allC (h : RdevR A r lv rls av s) {i : Nat} (hi : i < rls.length) : ∃ b o c, (rls.flatMap rcl)[i * 2 + 0]? = some (.slice (some ⟨b, o, none⟩) rls[i].rows.length c) ∧ rls[i].rows.length ≤ c ∧ Rs A (some ⟨b, o, none⟩) (rls[i].rows.map Prod.fst) := by
  obtain ⟨b, o, c, e1, e2, e3⟩ := h.all i hi
  exact ⟨b, o, c, by rw [rcl_at0 hi, e1], e2, e3⟩
end
attribute [local irreducible] Sl pt ro imgS
theorem rfits_c {A : SP} {p : Int} :
    Fn Tryz.prog 21 #[.int .i64 p] (A) (fun r B => r = .bool (fitsB p) ∧ A = B) := by
  refine fn_enterW (args := [.int .i64 p]) Tryz.func21 rfl Tryz.ntmps21 (by simp) ?_; refine sr ?_; refine tla ?_; refine nq ?_; refine sr ?_; refine tlm ?_; refine tv (o_geq rfl rfl) ?_; refine tlm ?_; refine tl_bool (d := 5) rfl (fun h => ?_) (fun h => ?_)
  · try simp only [lv1, lv2, lv3, lv4, lv5, lv6, Bool.not_true, Bool.not_false] at h
    refine tlm ?_; refine tv (o_leq rfl rfl) ?_; refine tv (o_pick_t rfl (by conv => lhs; whnf)) ?_; refine tlm ?_; refine tl_bool (d := 9) rfl (fun h => ?_) (fun h => ?_)
    · try simp only [lv1, lv2, lv3, lv4, lv5, lv6, Bool.not_true, Bool.not_false] at h
      refine tlm ?_; refine tv (by first | exact o_remI rfl rfl (by omega) | exact o_rem rfl rfl (by omega)) ?_; refine tv (o_eqi rfl rfl) ?_; refine tv (o_pick_t rfl (by conv => lhs; whnf)) ?_; refine tla ?_; refine nq ?_; refine tc_ret ?_; refine ⟨.bool (decide (p % 64 = 0)), _, res1 rfl rfl, ?_, by unfold fitsB; congr 1; rw [decide_eq_decide]; omega, rfl⟩; exact Dr.sat (by repeat (first | with_reducible exact dr_refl | apply dr_keep | apply dr_drop))
    · try simp only [lv1, lv2, lv3, lv4, lv5, lv6, Bool.not_true, Bool.not_false] at h
      refine tk ?_; refine tk ?_; refine tk ?_; refine tv (o_pick_f rfl (by conv => lhs; whnf)) ?_; refine tla ?_; refine nq ?_; refine tc_ret ?_; refine ⟨.bool false, _, res1 rfl rfl, ?_, by unfold fitsB; rw [decide_eq_false (by omega)], rfl⟩; exact Dr.sat (by repeat (first | with_reducible exact dr_refl | apply dr_keep | apply dr_drop))
  · try simp only [lv1, lv2, lv3, lv4, lv5, lv6, Bool.not_true, Bool.not_false] at h
    refine tk ?_; refine tk ?_; refine tv (o_pick_f rfl (by conv => lhs; whnf)) ?_; refine tlm ?_; refine tk ?_; refine tk ?_; refine tk ?_; refine tv (o_pick_f rfl (by conv => lhs; whnf)) ?_; refine tla ?_; refine nq ?_; refine tc_ret ?_; refine ⟨.bool false, _, res1 rfl rfl, ?_, by unfold fitsB; rw [decide_eq_false (by omega)], rfl⟩; exact Dr.sat (by repeat (first | with_reducible exact dr_refl | apply dr_keep | apply dr_drop))
theorem rOps_f (A : SP) {r : Nat} {lv av : Value} {rls : List RL} {s : DevS} (hR : RdevR A r lv rls av s) :
    Fn Tryz.prog 48 #[.pointer (some ⟨r, 0, none⟩)] (A) (fun v B => v = .int .i64 s.ops ∧ A = B) := by
  refine fn_enterW (args := [.pointer (some ⟨r, 0, none⟩)]) Tryz.func48 rfl Tryz.ntmps48 (by simp) ?_; refine sr ?_; refine tla ?_; refine nq ?_; refine sr ?_; refine tlm ?_; refine tv (o_nilCheck rfl) ?_; refine tv (o_fieldAddr (o := 2) Tryz.underlying114 rfl rfl sz3 rfl) ?_; refine tv (o_ldP (a := some ⟨r, 0, none⟩) (i := 2) p3 rfl (by repeat (first | exact hR.d | apply Rs.left)) rfl) ?_; refine tla ?_; refine nq ?_; refine tc_ret ?_; refine ⟨_, _, res1 rfl rfl, ?_, rfl, rfl⟩; exact Dr.sat (by repeat (first | with_reducible exact dr_refl | apply dr_keep | apply dr_drop))
theorem rOff_f (A : SP) {r : Nat} {lv av : Value} {rls : List RL} {s : DevS} (hR : RdevR A r lv rls av s) :
    Fn Tryz.prog 50 #[.pointer (some ⟨r, 0, none⟩)] (A) (fun v B => v = .bool s.off ∧ A = B) := by
  refine fn_enterW (args := [.pointer (some ⟨r, 0, none⟩)]) Tryz.func50 rfl Tryz.ntmps50 (by simp) ?_; refine sr ?_; refine tla ?_; refine nq ?_; refine sr ?_; refine tlm ?_; refine tv (o_nilCheck rfl) ?_; refine tv (o_fieldAddr (o := 5) Tryz.underlying114 rfl rfl sz4 rfl) ?_; refine tv (o_ldP (a := some ⟨r, 0, none⟩) (i := 5) p4 rfl (by repeat (first | exact hR.d | apply Rs.left)) rfl) ?_; refine tla ?_; refine nq ?_; refine tc_ret ?_; refine ⟨_, _, res1 rfl rfl, ?_, rfl, rfl⟩; exact Dr.sat (by repeat (first | with_reducible exact dr_refl | apply dr_keep | apply dr_drop))
theorem rinside_f (A : SP) {r : Nat} {lv av : Value} {rls : List RL} {s : DevS} (hR : RdevR A r lv rls av s) {p m : Int} (hp : -9223372036854775808 ≤ p ∧ p ≤ 9223372036854775807) (hm : -9223372036854775808 ≤ m ∧ m ≤ 9223372036854775807) :
    Fn Tryz.prog 101 #[.pointer (some ⟨r, 0, none⟩), .int .i64 p, .int .i64 m] (A) (fun v B => v = .bool (decide (rdy s.ls.length false p m = 0)) ∧ A = B) := by
  refine fn_enterW (args := [.pointer (some ⟨r, 0, none⟩), .int .i64 p, .int .i64 m]) Tryz.func101 rfl Tryz.ntmps101 (by simp) ?_
  have htop := hR.wf.top
  refine sr ?_; refine tla ?_; refine nq ?_; refine sr ?_; refine tlm ?_; refine tv (o_geq rfl rfl) ?_; refine tlm ?_; refine tl_bool (d := 9) rfl (fun h => ?_) (fun h => ?_)
  · try simp only [lv1, lv2, lv3, lv4, lv5, lv6, Bool.not_true, Bool.not_false] at h
    refine tlm ?_; refine tv (o_geq rfl rfl) ?_; refine tv (o_pick_t rfl (by conv => lhs; whnf)) ?_; refine tlm ?_; refine tl_bool (d := 13) rfl (fun h => ?_) (fun h => ?_)
    · try simp only [lv1, lv2, lv3, lv4, lv5, lv6, Bool.not_true, Bool.not_false] at h
      refine tlm ?_; refine tlm ?_; refine tv (o_nilCheck rfl) ?_; refine tv (o_fieldAddr (o := 0) Tryz.underlying114 rfl rfl sz3 rfl) ?_; refine tv (o_ldP (a := some ⟨r, 0, none⟩) (i := 0) p3 rfl (by repeat (first | exact hR.d | apply Rs.left)) rfl) ?_; refine tv (o_leq rfl rfl) ?_; refine tv (o_pick_t rfl (by conv => lhs; whnf)) ?_; refine tlm ?_; refine tl_bool (d := 21) rfl (fun h => ?_) (fun h => ?_)
      · try simp only [lv1, lv2, lv3, lv4, lv5, lv6, Bool.not_true, Bool.not_false] at h
        refine tlm ?_; refine tlm ?_; refine tv (o_nilCheck rfl) ?_; refine tv (o_fieldAddr (o := 0) Tryz.underlying114 rfl rfl sz3 rfl) ?_; refine tv (o_ldP (a := some ⟨r, 0, none⟩) (i := 0) p3 rfl (by repeat (first | exact hR.d | apply Rs.left)) rfl) ?_; refine tlm ?_; refine tv (by first | exact o_subI rfl rfl (by omega) | exact o_sub rfl rfl) ?_; refine tv (o_leq rfl rfl) ?_; refine tv (o_pick_t rfl (by conv => lhs; whnf)) ?_; refine tla ?_; refine nq ?_; refine tc_ret ?_; refine ⟨.bool (decide (m ≤ ((s.ls.length * 64 : Nat) : Int) - p)), _, res1 rfl rfl, ?_, (by congr 1; rw [decide_eq_decide]; unfold rdy; rw [if_neg (by decide)]; split <;> constructor <;> intro _ <;> omega), rfl⟩; exact Dr.sat (by repeat (first | with_reducible exact dr_refl | apply dr_keep | apply dr_drop))
      · try simp only [lv1, lv2, lv3, lv4, lv5, lv6, Bool.not_true, Bool.not_false] at h
        refine tk ?_; refine tk ?_; refine tk ?_; refine tk ?_; refine tk ?_; refine tk ?_; refine tk ?_; refine tk ?_; refine tv (o_pick_f rfl (by conv => lhs; whnf)) ?_; refine tla ?_; refine nq ?_; refine tc_ret ?_; refine ⟨.bool false, _, res1 rfl rfl, ?_, (by rw [decide_eq_false]; unfold rdy; rw [if_neg (by decide), if_pos (by omega)]; decide), rfl⟩; exact Dr.sat (by repeat (first | with_reducible exact dr_refl | apply dr_keep | apply dr_drop))
    · try simp only [lv1, lv2, lv3, lv4, lv5, lv6, Bool.not_true, Bool.not_false] at h
      refine tk ?_; refine tk ?_; refine tk ?_; refine tk ?_; refine tk ?_; refine tk ?_; refine tv (o_pick_f rfl (by conv => lhs; whnf)) ?_; refine tlm ?_; refine tk ?_; refine tk ?_; refine tk ?_; refine tk ?_; refine tk ?_; refine tk ?_; refine tk ?_; refine tk ?_; refine tv (o_pick_f rfl (by conv => lhs; whnf)) ?_; refine tla ?_; refine nq ?_; refine tc_ret ?_; refine ⟨.bool false, _, res1 rfl rfl, ?_, (by rw [decide_eq_false]; unfold rdy; rw [if_neg (by decide), if_pos (by omega)]; decide), rfl⟩; exact Dr.sat (by repeat (first | with_reducible exact dr_refl | apply dr_keep | apply dr_drop))
  · try simp only [lv1, lv2, lv3, lv4, lv5, lv6, Bool.not_true, Bool.not_false] at h
    refine tk ?_; refine tk ?_; refine tv (o_pick_f rfl (by conv => lhs; whnf)) ?_; refine tlm ?_; refine tk ?_; refine tk ?_; refine tk ?_; refine tk ?_; refine tk ?_; refine tk ?_; refine tv (o_pick_f rfl (by conv => lhs; whnf)) ?_; refine tlm ?_; refine tk ?_; refine tk ?_; refine tk ?_; refine tk ?_; refine tk ?_; refine tk ?_; refine tk ?_; refine tk ?_; refine tv (o_pick_f rfl (by conv => lhs; whnf)) ?_; refine tla ?_; refine nq ?_; refine tc_ret ?_; refine ⟨.bool false, _, res1 rfl rfl, ?_, (by rw [decide_eq_false]; unfold rdy; rw [if_neg (by decide), if_pos (by omega)]; decide), rfl⟩; exact Dr.sat (by repeat (first | with_reducible exact dr_refl | apply dr_keep | apply dr_drop))
theorem rbelow_c {A : SP} {a : Option Addr} {c m : Nat} {xs : List Int} (hr : Rs A a (ints xs) := by repeat (first | assumption | with_reducible exact rs_sl | with_reducible exact rs_pt0 | exact rs_none | apply Rs.left)) (hm : xs.length = m := by first | assumption | rfl) (hml : m ≤ 17592186044416 := by omega) :
    Fn Tryz.prog 108 #[.slice a m c] (A) (fun r B => r = .bool (lowB xs) ∧ A = B) := by
  refine fn_enterW (args := [.slice a m c]) Tryz.func108 rfl Tryz.ntmps108 (by simp) ?_; refine sr ?_; refine tla ?_; refine nq ?_; refine tc_seq ?_; refine sr ?_; refine tla ?_; refine nq ?_; refine tc_block ?_; refine tc_loop (fun kk ρ BB => ∃ (i : Nat), (i ≤ m) ∧ (∀ k (h : k < xs.length), k < i → 0 ≤ xs[k]) ∧ kk = m - i ∧ ρ 3 = .int .i64 (i : Nat) ∧ ρ 0 = .slice a m c ∧ BB = A) (m := m - (0)) ?_ ?_
  · exact ⟨0, by omega, fun k h h0 => by omega, rfl, rfl, rfl, rfl⟩
  · intro k ρ B hI
    obtain ⟨i, hp0, hp1, hkk1, hE3, hE0, hBA⟩ := hI
    obtain rfl := hBA.symm
    refine tc_env (d := 3) hE3 ?_; refine tc_env (d := 0) hE0 ?_
    clear hE3 hE0
    refine tc_seq ?_; refine sr ?_; refine tlm ?_; refine tlm ?_; refine tv (o_len Tryz.underlying34 rfl) ?_; refine tv (o_lss rfl rfl) ?_; refine nq ?_; refine tc_cond rfl (fun h => ?_) (fun h => ?_)
    · have hi : i < xs.length := by simp at h; omega
      refine tc_skip ?_; refine q_then_n ?_; refine tc_seq ?_; refine tc_block ?_; refine sr ?_; refine tlm ?_; refine tlm ?_; refine tv (o_ixP1 Tryz.underlying34 sz3 rfl rfl (by first | omega | (simp only [bys_length, ints_length, wds_length, bos_length, List.length_append, List.length_take, List.length_drop, List.length_singleton]; omega)) (by repeat (first | exact nn_some | with_reducible exact nn_sl (by decide) | exact nn_rs (by assumption) (fun _ => by first | omega | (simp only [bys_length, ints_length, wds_length, bos_length, List.length_append, List.length_take, List.length_drop, List.length_singleton]; omega)) | apply Nn.left))) ?_; refine tv (o_ldP p3 rfl (by repeat (first | assumption | with_reducible exact rs_sl | with_reducible exact rs_pt0 | exact rs_none | apply Rs.left)) (by first | assumption | exact bys_at (by omega) | exact ints_at (by omega) | exact wds_at (by omega) | exact bos_at (by omega) | rfl)) ?_; refine tv (o_lss rfl rfl) ?_; refine nq ?_; refine tc_cond rfl (fun h => ?_) (fun h => ?_)
      · try simp only [lv1, lv2, lv3, lv4, lv5, lv6, Bool.not_true, Bool.not_false] at h
        refine sr ?_; refine tla ?_; refine nq ?_; refine tc_ret ?_; refine q_block_r (q_then_r (q_then_r (q_block_r (q_then_r ?_)))); refine ⟨.bool true, _, res1 rfl rfl, ?_, (by rw [show lowB xs = true from List.any_eq_true.2 ⟨_, List.getElem_mem hi, decide_eq_true h⟩]), rfl⟩; exact Dr.sat (by repeat (first | with_reducible exact dr_refl | apply dr_keep | apply dr_drop))
      · try simp only [lv1, lv2, lv3, lv4, lv5, lv6, Bool.not_true, Bool.not_false] at h
        refine tc_skip ?_; refine q_block_n (q_then_n ?_); refine tc_reg ?_; refine tlm ?_; refine tv (by first | exact o_addI rfl rfl (by omega) | exact o_add rfl rfl) ?_; refine tla ?_; refine nq ?_; exact ⟨_, by omega, i + 1, by omega, fun k hk h0 => by rcases Nat.lt_succ_iff_lt_or_eq.1 h0 with h1 | rfl; exact hp1 k hk h1; (simp at h; omega), rfl, rfl, rfl, rfl⟩
    · try simp only [lv1, lv2, lv3, lv4, lv5, lv6, Bool.not_true, Bool.not_false] at h
      refine tc_exit ?_; refine q_then_e (q_then_e (q_block_x (q_then_n ?_))); refine sr ?_; refine tla ?_; refine nq ?_; refine tc_ret ?_
      obtain rfl : i = xs.length := by omega
      have e : lowB xs = false := by rw [lowB, List.any_eq_false]; intro x hx; obtain ⟨k, hk, rfl⟩ := List.mem_iff_getElem.1 hx; have := hp1 k hk hk; simp; omega
      exact ⟨.bool false, A, res1 rfl rfl, Dr.sat (by repeat (first | with_reducible exact dr_refl | apply dr_keep | apply dr_drop)), by rw [e], rfl⟩
theorem rseen_f (A : SP) {r : Nat} {lv av : Value} {rls : List RL} {s : DevS} (hR : RdevR A r lv rls av s) {i b o c : Nat} (hi : i < rls.length) (ht : (rls[i].rows.map Prod.fst)[rls[i].rows.length - 1]? = some (.slice (some ⟨b, o, none⟩) 64 c)) :
    Fn Tryz.prog 114 #[.pointer (some ⟨r, 0, none⟩), .int .i64 (i : Nat)] (A) (fun v B => v = .slice (some ⟨b, o, none⟩) 64 c ∧ A = B) := by
  refine fn_enterW (args := [.pointer (some ⟨r, 0, none⟩), .int .i64 (i : Nat)]) Tryz.func114 rfl Tryz.ntmps114 (by simp) ?_
  obtain ⟨bl, ol, cl_, rfl, hlc, hlr⟩ := hR.lv
  obtain ⟨ba, oa, ca, g1, hca, har⟩ := hR.allC hi
  have hlen := hR.len
  have hpos := hR.pos hi
  have hsm := hR.small hi
  refine sr ?_; refine tla ?_; refine nq ?_; refine sr ?_; refine tlm ?_; refine tv (o_nilCheck rfl) ?_; refine tv (o_fieldAddr (o := 1) Tryz.underlying114 rfl rfl sz112 rfl) ?_; refine tv (o_ldP (a := some ⟨r, 0, none⟩) (i := 1) p112 rfl (by repeat (first | exact hR.d | apply Rs.left)) rfl) ?_; refine tlm ?_; refine tv (o_ixP Tryz.underlying112 sz116 rfl rfl (by first | omega | (simp only [bys_length, ints_length, wds_length, bos_length, List.length_append, List.length_take, List.length_drop, List.length_singleton]; omega)) (by repeat (first | exact nn_some | with_reducible exact nn_sl (by decide) | exact nn_rs (by assumption) (fun _ => by first | omega | (simp only [bys_length, ints_length, wds_length, bos_length, List.length_append, List.length_take, List.length_drop, List.length_singleton]; omega)) | apply Nn.left))) ?_; refine tv (o_faP (m := 0) (o := 0) Tryz.underlying116 rfl rfl sz88 rfl (by repeat (first | exact nn_some | with_reducible exact nn_sl (by decide) | exact nn_rs (by assumption) (fun _ => by first | omega | (simp only [bys_length, ints_length, wds_length, bos_length, List.length_append, List.length_take, List.length_drop, List.length_singleton]; omega)) | apply Nn.left))) ?_; refine tv (o_ldP p88 rfl (by repeat (first | assumption | with_reducible exact rs_sl | with_reducible exact rs_pt0 | exact rs_none | apply Rs.left)) (by first | assumption | exact bys_at (by omega) | exact ints_at (by omega) | exact wds_at (by omega) | exact bos_at (by omega) | rfl)) ?_
  refine tl_env (d := 13) (v := .slice (some ⟨ba, oa, none⟩) rls[i].rows.length ca) (rfl) ?_; refine tla ?_; refine nq ?_; refine sr ?_; refine tlm ?_; refine tlm ?_; refine tv (o_len Tryz.underlying88 rfl) ?_; refine tv (by first | exact o_subI rfl rfl (by omega) | exact o_sub rfl rfl) ?_; refine tl_env (d := 17) (v := .int .i64 ((rls[i].rows.length - 1 : Nat) : Int)) (by show Value.int .i64 _ = _; congr 1; omega) ?_; refine tv (o_ixP1 Tryz.underlying88 sz32 rfl rfl (by omega) nn_some) ?_; refine tv (o_ldP p32 rfl har ht) ?_; refine tla ?_; refine nq ?_; refine tc_ret ?_; refine ⟨_, _, res1 rfl rfl, ?_, rfl, rfl⟩; exact Dr.sat (by repeat (first | with_reducible exact dr_refl | apply dr_keep | apply dr_drop))
end Go.Vl

set_option linter.unusedVariables false
set_option linter.unusedSimpArgs false
namespace Go.Vl
open Go Go.Proofs
attribute [local irreducible] Sl pt ro imgS
theorem rgoes_f (F : SP) {r c : Nat} {s : DevS} {a : Option Addr} {keep : List Int} (hr : Rs F a (ints keep)) (hk : ∀ k ∈ keep, 0 ≤ k ∧ k ≤ 9223372036854775807) (hkl : keep.length ≤ 17592186044416) :
    Fn Tryz.prog 111 #[.pointer (some ⟨r, 0, none⟩), .slice a keep.length c] (F * RDev r s) (fun v B => v = .tuple #[] ∧ B = F * RDev r (goesS keep s)) := by
  refine fn_enterW (args := [.pointer (some ⟨r, 0, none⟩), .slice a keep.length c]) Tryz.func111 rfl Tryz.ntmps111 (by simp) ?_; refine tc_rdev fun hw lv rls av kvs hmap hkv => ?_
  have hpos := hw.pos
  have htop := hw.top
  refine tc_have (fun _ _ h => rdevR_of hw hmap h) fun hR0 => ?_
  obtain ⟨bl, ol, cl_, rfl, hlc, _⟩ := hR0.lv
  refine tc_seq ?_; refine sr ?_; refine tla ?_; refine nq ?_; refine tc_block ?_; refine tc_loop (fun kk ρ BB => ∃ (i : Nat) (rls1 : List RL), (i ≤ s.ls.length) ∧ (rls1.map RL.l = goPart keep i s.ls) ∧ kk = s.ls.length - i ∧ ρ 4 = .int .i64 (i : Nat) ∧ ρ 0 = .pointer (some ⟨r, 0, none⟩) ∧ ρ 1 = .slice a keep.length c ∧ BB = F * RDevC r (.slice (some ⟨bl, ol, none⟩) s.ls.length cl_) rls1 av kvs { s with ls := goPart keep i s.ls }) (m := s.ls.length - (0)) ?_ ?_
  · exact ⟨0, rls, by omega, by rw [goPart_zero]; exact hmap, rfl, rfl, rfl, rfl, by rw [goPart_zero]⟩
  · intro k ρ B hI
    obtain ⟨i, rls1, hp0, hp1, hkk1, hE4, hE0, hE1, rfl⟩ := hI
    refine tc_env (d := 4) hE4 ?_; refine tc_env (d := 0) hE0 ?_; refine tc_env (d := 1) hE1 ?_
    clear hE4 hE0 hE1
    refine tc_seq ?_; refine sr ?_; refine tlm ?_; refine tlm ?_; refine tv (o_nilCheck rfl) ?_; refine tv (o_fieldAddr (o := 1) Tryz.underlying114 rfl rfl sz112 rfl) ?_; refine tv (o_load p112 rfl rdevC_r rfl) ?_; refine tv (o_len Tryz.underlying112 rfl) ?_; refine tv (o_lss rfl rfl) ?_; refine nq ?_; refine tc_cond rfl (fun h => ?_) (fun h => ?_)
    · have hi : i < s.ls.length := by simp at h; omega
      have hgl : (goPart keep i s.ls).length = s.ls.length := goPart_length _ _ _
      refine tc_have (fun _ _ h => rdevR_of (goP_wf hw) hp1 h) fun hR => ?_
      have hir : i < rls1.length := by rw [hR.len, hgl]; exact hi
      obtain ⟨ba, oa, ca, g1, hca, har⟩ := hR.allC hir
      have hll := hR.lvR
      have hsm := hR.small hir
      have hps := hR.pos hir
      have hkl2 := kOf_lt (keep := keep) (i := i) hps
      obtain ⟨br, orr, cr, hrow, hcr, hrr⟩ := hR.row i hir _ hkl2
      refine tc_skip ?_; refine q_then_n ?_; refine tc_seq ?_; refine tc_block ?_; refine sr ?_; refine tla ?_; refine nq ?_; refine tc_seq ?_; refine sr ?_; refine tlm ?_; refine tlm ?_; refine tv (o_len Tryz.underlying34 rfl) ?_; refine tv (o_lss rfl rfl) ?_; refine nq ?_; refine tc_cut (fun ρ BB => ρ 5 = .int .i64 ((kOf keep i rls1[i].rows.length : Nat) : Int) ∧ ρ 0 = .pointer (some ⟨r, 0, none⟩) ∧ ρ 1 = .slice a keep.length c ∧ ρ 4 = .int .i64 (i : Nat) ∧ BB = F * RDevC r (.slice (some ⟨bl, ol, none⟩) s.ls.length cl_) rls1 av kvs { s with ls := goPart keep i s.ls }) ?_ ?_
      · skip
        refine tc_cond rfl (fun h => ?_) (fun h => ?_)
        · try simp only [lv1, lv2, lv3, lv4, lv5, lv6, Bool.not_true, Bool.not_false] at h
          refine tc_regq mo (by kernel_rfl) ?_; refine ql_v rfl (o_move (by conv => lhs; whnf)) ?_; refine ql_v rfl (o_move (by conv => lhs; whnf)) ?_; refine ql_v rfl (o_ixP1 Tryz.underlying34 sz3 rfl rfl (by first | omega | (simp only [bys_length, ints_length, wds_length, bos_length, List.length_append, List.length_take, List.length_drop, List.length_singleton]; omega)) (by repeat (first | exact nn_some | with_reducible exact nn_sl (by decide) | exact nn_rs (by assumption) (fun _ => by first | omega | (simp only [bys_length, ints_length, wds_length, bos_length, List.length_append, List.length_take, List.length_drop, List.length_singleton]; omega)) | apply Nn.left))) ?_; refine ql_v rfl (o_ldP p3 rfl hr.left (ints_at (by omega))) ?_; refine ql_v rfl (o_move (by conv => lhs; whnf)) ?_; refine ql_v rfl (o_nilCheck rfl) ?_; refine ql_v rfl (o_fieldAddr (o := 1) Tryz.underlying114 rfl rfl sz112 rfl) ?_; refine ql_v rfl (o_ldP (a := some ⟨r, 0, none⟩) (i := 1) p112 rfl hR.d rfl) ?_; refine ql_v rfl (o_move (by conv => lhs; whnf)) ?_; refine ql_v rfl (o_ixP Tryz.underlying112 sz116 rfl rfl (by first | omega | (simp only [bys_length, ints_length, wds_length, bos_length, List.length_append, List.length_take, List.length_drop, List.length_singleton]; omega)) (by repeat (first | exact nn_some | with_reducible exact nn_sl (by decide) | exact nn_rs (by assumption) (fun _ => by first | omega | (simp only [bys_length, ints_length, wds_length, bos_length, List.length_append, List.length_take, List.length_drop, List.length_singleton]; omega)) | apply Nn.left))) ?_
          refine ql_v rfl (o_faP (m := 0) (o := 0) Tryz.underlying116 rfl rfl sz88 rfl (by repeat (first | exact nn_some | with_reducible exact nn_sl (by decide) | exact nn_rs (by assumption) (fun _ => by first | omega | (simp only [bys_length, ints_length, wds_length, bos_length, List.length_append, List.length_take, List.length_drop, List.length_singleton]; omega)) | apply Nn.left))) ?_; refine ql_v rfl (o_ldP p88 rfl (by repeat (first | assumption | with_reducible exact rs_sl | with_reducible exact rs_pt0 | exact rs_none | apply Rs.left)) (by first | assumption | exact bys_at (by omega) | exact ints_at (by omega) | exact wds_at (by omega) | exact bos_at (by omega) | rfl)) ?_; refine ql_v rfl (o_len Tryz.underlying88 rfl) ?_; refine ql_v rfl (o_remI rfl rfl (by have := hk _ (List.getElem_mem (show i < keep.length by omega)); omega)) ?_; refine ql_v rfl (o_assign (by conv => lhs; whnf)) ?_; refine ql_nil ?_; exact ⟨(by first | (show Value.int .i64 (keep[i]'(by omega) % _) = _; congr 1; unfold kOf; rw [dif_pos (by omega), Int.toNat_of_nonneg (Int.emod_nonneg _ (by omega))]) | (show Value.int .i64 0 = _; congr 1; unfold kOf; rw [dif_neg (by omega)]; rfl)), rfl, rfl, rfl, rfl⟩
        · try simp only [lv1, lv2, lv3, lv4, lv5, lv6, Bool.not_true, Bool.not_false] at h
          refine tc_skip ?_; exact ⟨(by first | (show Value.int .i64 (keep[i]'(by omega) % _) = _; congr 1; unfold kOf; rw [dif_pos (by omega), Int.toNat_of_nonneg (Int.emod_nonneg _ (by omega))]) | (show Value.int .i64 0 = _; congr 1; unfold kOf; rw [dif_neg (by omega)]; rfl)), rfl, rfl, rfl, rfl⟩
      · intro ρ B hI
        obtain ⟨hE5, hE0, hE1, hE4, rfl⟩ := hI
        refine q_then_n ?_; refine tc_env (d := 5) hE5 ?_; refine tc_env (d := 0) hE0 ?_; refine tc_env (d := 1) hE1 ?_; refine tc_env (d := 4) hE4 ?_
        clear hE5 hE0 hE1 hE4
        obtain ⟨R, hf1, hf2⟩ := rdevC_focus (r := r) (lv := (.slice (some ⟨bl, ol, none⟩) s.ls.length cl_)) (av := av) (kvs := kvs) (s := { s with ls := goPart keep i s.ls }) (n := s.ls.length) hir hgl
        refine tc_eq (hf1 F) ?_
        have hv0 : rls1[i].v = .slice (some ⟨ba, oa, none⟩) rls1[i].rows.length ca := by rw [rcl_at0 hir] at g1; exact Option.some.inj g1
        have hrow2 : (rls1[i].rows.map Prod.fst)[kOf keep i rls1[i].rows.length]? = some rls1[i].rows[kOf keep i rls1[i].rows.length].1 := by rw [List.getElem?_map, List.getElem?_eq_getElem hkl2]; rfl
        rw [hv0]
        refine tc_regh (S := F * R * pt r (cl (rdcs (.slice (some ⟨bl, ol, none⟩) s.ls.length cl_) { s with ls := goPart keep i s.ls } av) 114) * Bs rowR rls1[i].rows * Sl 1 (.slice (some ⟨ba, oa, none⟩) rls1[i].rows.length ca) rls1[i].rows.length (rls1[i].rows.map Prod.fst)) mo (by repeat (first | with_reducible exact dr_refl | apply dr_keep | apply dr_drop)) ?_
        show TH _ _ _ _ _ 20 #[ff,ff,ff,ff,ff,ff,ff,ff,ff,ff,ff,ff,ff,ff,ff,ff,ff,ff,ff,ff] _ _
        refine th_take (i := 0) (listed' := #[tt,ff,ff,ff,ff,ff,ff,ff,ff,ff,ff,ff,ff,ff,ff,ff,ff,ff,ff,ff]) rfl (by kernel_rfl) (by kernel_rfl) (by kernel_rfl) rfl rfl (o_move (by conv => lhs; whnf)) ?_; refine th_take (i := 1) (listed' := #[tt,tt,ff,ff,ff,ff,ff,ff,ff,ff,ff,ff,ff,ff,ff,ff,ff,ff,ff,ff]) rfl (by kernel_rfl) (by kernel_rfl) (by kernel_rfl) rfl rfl (o_nilCheck rfl) ?_; refine th_take (i := 2) (listed' := #[tt,tt,tt,ff,ff,ff,ff,ff,ff,ff,ff,ff,ff,ff,ff,ff,ff,ff,ff,ff]) rfl (by kernel_rfl) (by kernel_rfl) (by kernel_rfl) rfl rfl (o_fieldAddr (o := 1) Tryz.underlying114 rfl rfl sz112 rfl) ?_; refine th_take (i := 3) (listed' := #[tt,tt,tt,tt,ff,ff,ff,ff,ff,ff,ff,ff,ff,ff,ff,ff,ff,ff,ff,ff]) rfl (by kernel_rfl) (by kernel_rfl) (by kernel_rfl) rfl rfl (by first | exact o_load p112 rfl (by repeat (first | with_reducible exact has_here | with_reducible exact has_pt | apply has_left)) rfl | exact o_loadC p112 rfl (by assumption)) ?_; refine th_take (i := 4) (listed' := #[tt,tt,tt,tt,tt,ff,ff,ff,ff,ff,ff,ff,ff,ff,ff,ff,ff,ff,ff,ff]) rfl (by kernel_rfl) (by kernel_rfl) (by kernel_rfl) rfl rfl (o_move (by conv => lhs; whnf)) ?_; refine th_take (i := 5) (listed' := #[tt,tt,tt,tt,tt,tt,ff,ff,ff,ff,ff,ff,ff,ff,ff,ff,ff,ff,ff,ff]) rfl (by kernel_rfl) (by kernel_rfl) (by kernel_rfl) rfl rfl (o_move (by conv => lhs; whnf)) ?_; refine th_take (i := 6) (listed' := #[tt,tt,tt,tt,tt,tt,tt,ff,ff,ff,ff,ff,ff,ff,ff,ff,ff,ff,ff,ff]) rfl (by kernel_rfl) (by kernel_rfl) (by kernel_rfl) rfl rfl (o_nilCheck rfl) ?_
        refine th_take (i := 7) (listed' := #[tt,tt,tt,tt,tt,tt,tt,tt,ff,ff,ff,ff,ff,ff,ff,ff,ff,ff,ff,ff]) rfl (by kernel_rfl) (by kernel_rfl) (by kernel_rfl) rfl rfl (o_fieldAddr (o := 1) Tryz.underlying114 rfl rfl sz112 rfl) ?_; refine th_take (i := 8) (listed' := #[tt,tt,tt,tt,tt,tt,tt,tt,tt,ff,ff,ff,ff,ff,ff,ff,ff,ff,ff,ff]) rfl (by kernel_rfl) (by kernel_rfl) (by kernel_rfl) rfl rfl (by first | exact o_load p112 rfl (by repeat (first | with_reducible exact has_here | with_reducible exact has_pt | apply has_left)) rfl | exact o_loadC p112 rfl (by assumption)) ?_; refine th_take (i := 9) (listed' := #[tt,tt,tt,tt,tt,tt,tt,tt,tt,tt,ff,ff,ff,ff,ff,ff,ff,ff,ff,ff]) rfl (by kernel_rfl) (by kernel_rfl) (by kernel_rfl) rfl rfl (o_move (by conv => lhs; whnf)) ?_; refine th_take (i := 10) (listed' := #[tt,tt,tt,tt,tt,tt,tt,tt,tt,tt,tt,ff,ff,ff,ff,ff,ff,ff,ff,ff]) rfl (by kernel_rfl) (by kernel_rfl) (by kernel_rfl) rfl rfl (o_ixP Tryz.underlying112 sz116 rfl rfl (by first | omega | (simp only [bys_length, ints_length, wds_length, bos_length, List.length_append, List.length_take, List.length_drop, List.length_singleton]; omega)) (by repeat (first | exact nn_some | with_reducible exact nn_sl (by decide) | exact nn_rs (by assumption) (fun _ => by first | omega | (simp only [bys_length, ints_length, wds_length, bos_length, List.length_append, List.length_take, List.length_drop, List.length_singleton]; omega)) | apply Nn.left))) ?_; refine th_take (i := 11) (listed' := #[tt,tt,tt,tt,tt,tt,tt,tt,tt,tt,tt,tt,ff,ff,ff,ff,ff,ff,ff,ff]) rfl (by kernel_rfl) (by kernel_rfl) (by kernel_rfl) rfl rfl (o_faP (m := 0) (o := 0) Tryz.underlying116 rfl rfl sz88 rfl (by repeat (first | exact nn_some | with_reducible exact nn_sl (by decide) | exact nn_rs (by assumption) (fun _ => by first | omega | (simp only [bys_length, ints_length, wds_length, bos_length, List.length_append, List.length_take, List.length_drop, List.length_singleton]; omega)) | apply Nn.left))) ?_
        refine th_take (i := 13) (listed' := #[tt,tt,tt,tt,tt,tt,tt,tt,tt,tt,tt,tt,ff,tt,ff,ff,ff,ff,ff,ff]) rfl (by kernel_rfl) (by kernel_rfl) (by kernel_rfl) rfl rfl (o_move (by conv => lhs; whnf)) ?_; refine th_one (i := 12) (by kernel_rfl) ?_; refine oh_v (i := 12) (listed' := #[tt,tt,tt,tt,tt,tt,tt,tt,tt,tt,tt,tt,tt,tt,ff,ff,ff,ff,ff,ff]) rfl rfl rfl (o_ldP p88 rfl (by repeat (first | assumption | with_reducible exact rs_sl | with_reducible exact rs_pt0 | exact rs_none | apply Rs.left)) (by first | assumption | exact bys_at (by omega) | exact ints_at (by omega) | exact wds_at (by omega) | exact bos_at (by omega) | rfl)) ?_; refine th_take (i := 14) (listed' := #[tt,tt,tt,tt,tt,tt,tt,tt,tt,tt,tt,tt,tt,tt,tt,ff,ff,ff,ff,ff]) rfl (by kernel_rfl) (by kernel_rfl) (by kernel_rfl) rfl rfl (o_ixP1 Tryz.underlying88 sz32 rfl rfl (by first | omega | (simp only [bys_length, ints_length, wds_length, bos_length, List.length_append, List.length_take, List.length_drop, List.length_singleton]; omega)) (by repeat (first | exact nn_some | with_reducible exact nn_sl (by decide) | exact nn_rs (by assumption) (fun _ => by first | omega | (simp only [bys_length, ints_length, wds_length, bos_length, List.length_append, List.length_take, List.length_drop, List.length_singleton]; omega)) | apply Nn.left))) ?_; refine th_take (i := 15) (listed' := #[tt,tt,tt,tt,tt,tt,tt,tt,tt,tt,tt,tt,tt,tt,tt,tt,ff,ff,ff,ff]) rfl (by kernel_rfl) (by kernel_rfl) (by kernel_rfl) rfl rfl (o_ldP p32 rfl (by repeat (first | assumption | with_reducible exact rs_sl | with_reducible exact rs_pt0 | exact rs_none | apply Rs.left)) hrow2) ?_
        refine th_one (i := 16) (by kernel_rfl) ?_; refine oh_x (i := 16) (listed' := #[tt,tt,tt,tt,tt,tt,tt,tt,tt,tt,tt,tt,tt,tt,tt,tt,tt,ff,ff,ff]) rfl rfl rfl (o_buildSlice1 Tryz.underlying88 sz32 z32 rfl (by rw [hrow]; rfl)) ?_; rintro _ _ ⟨b49, rfl, rfl⟩; refine ⟨by repeat (first | with_reducible exact dr_refl | apply dr_keep | apply dr_drop), ?_⟩; refine th_take (i := 17) (listed' := #[tt,tt,tt,tt,tt,tt,tt,tt,tt,tt,tt,tt,tt,tt,tt,tt,tt,tt,ff,ff]) rfl (by kernel_rfl) (by kernel_rfl) (by kernel_rfl) rfl rfl (o_bS (l := [_, _]) (pv_cons (by conv => lhs; whnf) (pv_cons (by conv => lhs; whnf) pv_nil)) Tryz.underlying116 z116 (pl116 Tryz.underlying116) rfl) ?_; refine th_take (i := 18) (listed' := #[tt,tt,tt,tt,tt,tt,tt,tt,tt,tt,tt,tt,tt,tt,tt,tt,tt,tt,tt,ff]) rfl (by kernel_rfl) (by kernel_rfl) (by kernel_rfl) rfl rfl (o_ixP Tryz.underlying112 sz116 rfl rfl (by first | omega | (simp only [bys_length, ints_length, wds_length, bos_length, List.length_append, List.length_take, List.length_drop, List.length_singleton]; omega)) (by repeat (first | exact nn_some | with_reducible exact nn_sl (by decide) | exact nn_rs (by assumption) (fun _ => by first | omega | (simp only [bys_length, ints_length, wds_length, bos_length, List.length_append, List.length_take, List.length_drop, List.length_singleton]; omega)) | apply Nn.left))) ?_; refine th_one (i := 19) (by kernel_rfl) ?_; refine oh_u (i := 19) (listed' := #[tt,tt,tt,tt,tt,tt,tt,tt,tt,tt,tt,tt,tt,tt,tt,tt,tt,tt,tt,tt]) rfl rfl rfl (o_stPN (vs := [.slice (some ⟨b49, 0, none⟩) 1 1, .int .i64 (-1)]) (ys := (rls1.set i ⟨.slice (some ⟨b49, 0, none⟩) 1 1, [rls1[i].rows[kOf keep i rls1[i].rows.length]], -1⟩).flatMap rcl) sz116 rfl rfl rfl rfl (by decide) (by repeat (first | with_reducible exact ct_here | apply ct_left)) (by omega) (fm_spl (k := 2) (f := rcl) (y := ⟨.slice (some ⟨b49, 0, none⟩) 1 1, [rls1[i].rows[kOf keep i rls1[i].rows.length]], -1⟩) (rcl_len _) hir rfl)) (by repeat (first | with_reducible exact dr_refl | apply dr_keep | apply dr_drop)) ?_
        refine th_pre (fun _ _ h => rdev_line1 hkl2 h) ?_
        have hnext : (rls1.set i ⟨.slice (some ⟨b49, 0, none⟩) 1 1, [rls1[i].rows[kOf keep i rls1[i].rows.length]], -1⟩).map RL.l = goPart keep (i + 1) s.ls := by
          rw [List.map_set, hp1, ← goPart_set keep hi]
          congr 1
          unfold goL RL.l
          have e1 := hR.rows hir (by rw [hgl]; exact hi)
          have e2 := hR.snd hir (by rw [hgl]; exact hi) hkl2
          simp only [goPart_at keep hi] at e1 e2
          simp only [e1] at e2
          simp only [List.map_cons, List.map_nil, e1, e2]
          rw [getD_at (by rw [← e1]; exact hkl2)]
        refine th_eq (hf2 F ⟨.slice (some ⟨b49, 0, none⟩) 1 1, [rls1[i].rows[kOf keep i rls1[i].rows.length]], -1⟩ { s with ls := goPart keep (i + 1) s.ls } (goPart_length _ _ _) rfl rfl rfl rfl) ?_; refine th_done (by kernel_rfl) ?_; refine q_block_n (q_then_n ?_); refine tc_reg ?_; refine tlm ?_; refine tv (by first | exact o_addI rfl rfl (by omega) | exact o_add rfl rfl) ?_; refine tla ?_; refine nq ?_; exact ⟨_, by omega, i + 1, rls1.set i ⟨.slice (some ⟨b49, 0, none⟩) 1 1, [rls1[i].rows[kOf keep i rls1[i].rows.length]], -1⟩, by omega, hnext, rfl, rfl, rfl, rfl, rfl⟩
    · obtain rfl : i = s.ls.length := by simp at h; omega
      refine tc_exit ?_; refine q_then_e (q_then_e (q_block_x (q_then_n ?_))); refine tc_reg ?_; refine tlm ?_; refine tv (o_nilCheck rfl) ?_; refine tv (o_fieldAddr (o := 5) Tryz.underlying114 rfl rfl sz4 rfl) ?_; refine tl_u rfl (o_store sz4 rfl rfl rfl (by show 5 < 6; decide) rfl (rdevC_upd s.ops s.cnt true)) ?_; refine tl_nil ?_; exact ⟨_, _, res0 rfl, rdev_back (goesS_wf hw) hp1 hkv, rfl, rfl⟩
theorem rdone_f (F : SP) {r : Nat} {s : DevS} :
    Fn Tryz.prog 104 #[.pointer (some ⟨r, 0, none⟩)] (F * RDev r s) (fun v B => v = .int .i64 (doneE s) ∧ B = F * RDev r (doneS s)) := by
  refine fn_enterW (args := [.pointer (some ⟨r, 0, none⟩)]) Tryz.func104 rfl Tryz.ntmps104 (by simp) ?_; refine tc_rdev fun hw lv rls av kvs hmap hkv => ?_
  have hpos := hw.pos
  have htop := hw.top
  have har64 := hw.arms
  refine tc_have (fun _ _ h => rdevC_arms h) fun ⟨aa, ca, hav, hca, hal, _⟩ => ?_
  subst hav
  refine sr ?_; refine tla ?_; refine nq ?_; refine sr ?_; refine tlm ?_; refine tlm ?_; refine tv (o_nilCheck rfl) ?_; refine tv (o_fieldAddr (o := 2) Tryz.underlying114 rfl rfl sz3 rfl) ?_; refine tv (o_load p3 rfl rdevC_r rfl) ?_; refine tv (o_add rfl rfl) ?_; refine tv (o_nilCheck rfl) ?_; refine tv (o_fieldAddr (o := 2) Tryz.underlying114 rfl rfl sz3 rfl) ?_; refine tl_u rfl (o_store sz3 rfl rfl rfl (by show 2 < 6; decide) rfl (rdevC_upd (wr64 (s.ops + 1)) s.cnt s.off)) ?_; refine nq ?_; refine tc_seq ?_; refine sr ?_; refine tlm ?_; refine tv (o_nilCheck rfl) ?_; refine tv (o_fieldAddr (o := 3) Tryz.underlying114 rfl rfl sz48 rfl) ?_; refine tv (o_load p48 rfl rdevC_r rfl) ?_; refine tv (o_len Tryz.underlying48 rfl) ?_; refine tv (o_eqi rfl rfl) ?_; refine nq ?_; refine tc_cond rfl (fun h => ?_) (fun h => ?_)
  · try simp only [lv1, lv2, lv3, lv4, lv5, lv6, Bool.not_true, Bool.not_false] at h
    refine sr ?_; refine tla ?_; refine nq ?_; refine tc_ret ?_; refine q_then_r ?_
    have e : s.arms = [] := List.eq_nil_of_length_eq_zero (by omega)
    have e1 : doneS s = { s with ops := wr64 (s.ops + 1) } := by unfold doneS; rw [e]
    exact ⟨.int .i64 0, _, res1 rfl rfl, rdev_back (s := { s with ops := wr64 (s.ops + 1) }) (by rw [← e1]; exact doneS_wf hw) hmap hkv, by unfold doneE; rw [e], by rw [e1]⟩
  · simp only [decide_eq_false_iff_not] at h
    obtain ⟨arm, ar, har⟩ : ∃ arm ar, s.arms = arm :: ar := by
      cases e : s.arms with
      | nil => rw [e] at h; simp at h
      | cons x y => exact ⟨x, y, rfl⟩
    obtain ⟨kv, kvs, rfl⟩ : ∃ kv kvs', kvs = kv :: kvs' := by
      cases kvs with
      | nil => rw [har] at hkv; simp at hkv
      | cons x y => exact ⟨x, y, rfl⟩
    have hacs : acs (kv :: kvs) s.arms = .int .i64 arm.1 :: kv :: acs kvs ar := by rw [har]; rfl
    have hkp := hw.keeps arm (by rw [har]; simp)
    refine tc_skip ?_; refine q_then_n ?_; refine sr ?_; refine tlm ?_; refine tlm ?_; refine tv (o_nilCheck rfl) ?_; refine tv (o_fieldAddr (o := 4) Tryz.underlying114 rfl rfl sz3 rfl) ?_; refine tv (o_load p3 rfl rdevC_r rfl) ?_; refine tv (o_add rfl rfl) ?_; refine tv (o_nilCheck rfl) ?_; refine tv (o_fieldAddr (o := 4) Tryz.underlying114 rfl rfl sz3 rfl) ?_; refine tl_u rfl (o_store sz3 rfl rfl rfl (by show 4 < 6; decide) rfl (rdevC_upd (wr64 (s.ops + 1)) (wr64 (s.cnt + 1)) s.off)) ?_; refine tl_have (fun _ _ h => rdevC_arms' h) fun hrd => ?_
    obtain ⟨b, o, rfl, hcs⟩ := hrd.some (by show 0 < (acs _ s.arms).length; rw [hacs]; simp)
    have g0 := hcs 0 (.int .i64 arm.1) (by show (acs _ s.arms)[0]? = _; rw [hacs]; rfl)
    have g1 := hcs 1 kv (by show (acs _ s.arms)[1]? = _; rw [hacs]; rfl)
    have hlen1 : 1 ≤ s.arms.length := by rw [har]; simp
    refine nq ?_; refine tc_seq ?_; refine tc_seq ?_; refine tc_regq mo (by kernel_rfl) ?_; refine ql_v rfl (o_move (by conv => lhs; whnf)) ?_; refine ql_v rfl (o_nilCheck rfl) ?_; refine ql_v rfl (o_fieldAddr (o := 4) Tryz.underlying114 rfl rfl sz3 rfl) ?_; refine ql_v rfl (o_load p3 rfl rdevC_r rfl) ?_; refine ql_v rfl (o_move (by conv => lhs; whnf)) ?_; refine ql_v rfl (o_nilCheck rfl) ?_; refine ql_v rfl (o_fieldAddr (o := 3) Tryz.underlying114 rfl rfl sz48 rfl) ?_; refine ql_v rfl (o_load p48 rfl rdevC_r rfl) ?_; refine ql_v rfl (o_indexAddr Tryz.underlying48 sz79 rfl rfl (by omega) (by omega)) ?_; refine ql_v rfl (o_fieldAddr (o := 0) Tryz.underlying79 rfl rfl sz3 rfl) ?_; refine ql_v rfl (o_loadC p3 rfl g0) ?_; refine ql_v rfl (o_lss rfl rfl) ?_; refine ql_nil ?_; refine q_then_n ?_; refine tc_cond rfl (fun h => ?_) (fun h => ?_)
    · try simp only [lv1, lv2, lv3, lv4, lv5, lv6, Bool.not_true, Bool.not_false] at h
      refine sr ?_; refine tla ?_; refine nq ?_; refine tc_ret ?_; refine q_then_r ?_
      have e1 : doneS s = { s with ops := wr64 (s.ops + 1), cnt := wr64 (s.cnt + 1) } := by unfold doneS; rw [har]; simp only []; rw [if_pos h]
      exact ⟨.int .i64 0, _, res1 rfl rfl, rdev_back (s := { s with ops := wr64 (s.ops + 1), cnt := wr64 (s.cnt + 1) }) (by rw [← e1]; exact doneS_wf hw) hmap hkv, by unfold doneE; rw [har]; simp only []; rw [if_pos h], by rw [e1]⟩
    · try simp only [lv1, lv2, lv3, lv4, lv5, lv6, Bool.not_true, Bool.not_false] at h
      refine tc_skip ?_; refine q_then_n ?_; refine sr ?_; refine tlm ?_; refine tv (o_nilCheck rfl) ?_; refine tv (o_fieldAddr (o := 3) Tryz.underlying114 rfl rfl sz48 rfl) ?_; refine tv (o_load p48 rfl rdevC_r rfl) ?_; refine tv (o_indexAddr Tryz.underlying48 sz79 rfl rfl (by omega) (by omega)) ?_; refine tv (o_fieldAddr (o := 1) Tryz.underlying79 rfl rfl sz34 rfl) ?_; refine tv (o_loadC p34 rfl g1) ?_; refine tla ?_; refine nq ?_; refine sr ?_; refine tlm ?_; refine tlm ?_; refine tv (o_nilCheck rfl) ?_; refine tv (o_fieldAddr (o := 3) Tryz.underlying114 rfl rfl sz48 rfl) ?_; refine tv (o_load p48 rfl rdevC_r rfl) ?_; refine tv (o_slice (l := 1) (h := s.arms.length) Tryz.underlying48 sz79 rfl (bnd_nat (r := 1) rfl) bnd_none (by omega) (by omega)) ?_; refine tv (o_nilCheck rfl) ?_; refine tv (o_fieldAddr (o := 3) Tryz.underlying114 rfl rfl sz48 rfl) ?_; refine tl_eq rdevC_eq ?_; refine tl_u rfl (o_store (l' := rdcs lv { s with ops := wr64 (s.ops + 1), cnt := wr64 (s.cnt + 1), arms := ar } (.slice (cutAddr (some ⟨b, o, none⟩) ca 1 2) (s.arms.length - 1) (ca - 1))) sz48 rfl rfl rfl (by show 3 < 6; decide) rfl upd_here) ?_; refine tl_pre (fun _ _ h => rdevC_cut (s := { s with ops := wr64 (s.ops + 1), cnt := wr64 (s.cnt + 1) }) (s' := { s with ops := wr64 (s.ops + 1), cnt := wr64 (s.cnt + 1), arms := ar }) (arm := arm) (ar := ar) rfl har rfl rfl h) ?_
      refine nq ?_; refine sr ?_; refine tlm ?_; refine tv (o_nilCheck rfl) ?_; refine tv (o_fieldAddr (o := 4) Tryz.underlying114 rfl rfl sz3 rfl) ?_; refine tl_u rfl (o_store sz3 rfl rfl rfl (by show 4 < 6; decide) rfl (rdevC_upd (wr64 (s.ops + 1)) 0 s.off)) ?_; refine tl_have (fun _ _ h => slR_have rfl h.left) fun ⟨ka, kc, hkv2, _, _, hkr⟩ => ?_
      subst hkv2
      have hw2 : WfD { s with ops := wr64 (s.ops + 1), arms := ar, cnt := 0 } := ⟨hw.pos, hw.top, hw.line, by have := hw.arms; rw [har] at this; simp at this ⊢; omega, fun x hx => hw.after x (by rw [har]; simp at hx ⊢; exact .inr hx), fun x hx => hw.keeps x (by rw [har]; simp at hx ⊢; exact .inr hx)⟩
      refine tl_pre (rdev_back (s := { s with ops := wr64 (s.ops + 1), arms := ar, cnt := 0 }) hw2 hmap (by rw [har] at hkv; simpa using hkv)) ?_; refine nq ?_; refine sr ?_; refine tlm ?_; refine tlm ?_; refine tl_c rfl (o_call bd111 rfl (rgoes_f _ (c := kc) (rs_rd hkr) hkp.2 hkp.1)) ?_; rintro _ _ ⟨rfl, rfl⟩; refine nq ?_; refine sr ?_; refine tla ?_; refine nq ?_; refine tc_ret ?_
      have e1 : doneS s = goesS arm.2 { s with ops := wr64 (s.ops + 1), arms := ar, cnt := 0 } := by unfold doneS; rw [har]; simp only []; rw [if_neg h]
      exact ⟨.int .i64 5, _, res1 rfl rfl, fun _ _ h => h.drop2, by unfold doneE; rw [har]; simp only []; rw [if_neg h], by rw [e1]⟩
end Go.Vl

set_option linter.unusedVariables false
set_option linter.unusedSimpArgs false
namespace Go.Vl
open Go Go.Proofs
theorem row_stW {s : DevS} {p : Nat} {xs : List Nat} (hw : WfD s) (hi : p / 64 < s.ls.length) (hx : xs.length ≤ 8 - p % 8) (hb : ∀ x ∈ xs, x < 256) :
    spl (lb (seenL s.ls[p / 64])) (p % 64) xs = lb ((seenL s.ls[p / 64]).set (p % 64 / 8) (nm (stW p xs s))) := by
  have hwl := hw.line _ (List.getElem_mem hi)
  have h8 := hwl.eight _ (seenL_mem hwl)
  have hs8 := seen8 hwl
  have e8 : le 8 (nm (stW p xs s)) = stW p xs s := by have := le_nm _ (stW_bytes (p := p) (s := s) hb); rw [stW_len] at this; exact this
  rw [lb_set (by omega), e8]
  unfold stW
  rw [seenL_getD hi, List.take_of_length_le hx]
  have e : (seenL s.ls[p / 64]).getD (p % 64 / 8) 0 = (seenL s.ls[p / 64])[p % 64 / 8]'(by omega) := by simp [List.getD, show p % 64 / 8 < (seenL s.ls[p / 64]).length by omega]
  have hw2 := lb_word (s := seenL s.ls[p / 64]) (r := p % 64 / 8) (by omega) []
  rw [List.append_nil] at hw2
  rw [e, ← hw2, spl_in (by omega) (by omega)]
  congr 1; omega
theorem stW_take {p n : Nat} {b : List Nat} {s : DevS} (h : 8 - p % 8 ≤ n) : stW p (b.take n) s = stW p b s := by
  unfold stW; rw [List.take_take, Nat.min_eq_left h]
theorem stW_take' {p n : Nat} {b : List Nat} {s : DevS} (h : b.length ≤ n) : stW p (b.take n) s = stW p b s := by rw [List.take_of_length_le h]
theorem lay_map {rls : List RL} {s : DevS} {p v : Nat} {x : RL} (hmap : rls.map RL.l = s.ls) (hi : p / 64 < s.ls.length) (hx : x.l = layL (p % 64 / 8) v s.ls[p / 64]) : (rls.set (p / 64) x).map RL.l = (layS p v s).ls := by
  unfold layS; rw [onLine_at hi, List.map_set, hmap, hx]
attribute [local irreducible] Sl pt ro imgS
set_option maxRecDepth 20000 in
set_option maxHeartbeats 1000000 in
theorem rword_f (F : SP) {r c m p : Nat} {s : DevS} {a : Option Addr} {xs : List Nat} (hr : Rs F a (bys xs)) (hm : xs.length = m) (hx : m ≤ 8 - p % 8) (hb : ∀ x ∈ xs, x < 256) (hi : p / 64 < s.ls.length) (hroom : Room 1 s) :
    Fn Tryz.prog 102 #[.pointer (some ⟨r, 0, none⟩), .int .i64 (p : Nat), .slice a m c] (F * RDev r s) (fun v B => v = .int .i64 (doneE (layS (p - p % 8) (nm (stW p xs s)) s)) ∧ B = F * RDev r (doneS (layS (p - p % 8) (nm (stW p xs s)) s))) := by
  refine fn_enterW (args := [.pointer (some ⟨r, 0, none⟩), .int .i64 (p : Nat), .slice a m c]) Tryz.func102 rfl Tryz.ntmps102 (by simp) ?_; refine tc_rdev fun hw lv rls av kvs hmap hkv => ?_
  have hpos := hw.pos
  have htop := hw.top
  refine tc_have (fun _ _ h => rdevR_of hw hmap h) fun hR => ?_
  obtain ⟨bl, ol, cl_, rfl, hlc, hll⟩ := hR.lv
  have hlen := hR.len
  have hir : p / 64 < rls.length := by omega
  obtain ⟨ba, oa, ca, g1, hca, har⟩ := hR.allC hir
  obtain ⟨br, orr, cr, ht, hcr, hrr⟩ := hR.top hir hi
  have hwl := hw.line _ (List.getElem_mem hi)
  have hs8 := seen8 hwl
  have hsm := hR.small hir
  have hroom1 := hroom _ (List.getElem_mem hi)
  have hrl := hR.rows hir hi
  have hq1 : (p - p % 8) / 64 = p / 64 := by omega
  have hq2 : (p - p % 8) % 64 / 8 = p % 64 / 8 := by omega
  refine sr ?_; refine tla ?_; refine nq ?_; refine sr ?_; refine tlm ?_; refine tv (o_quoN (b := 64) rfl rfl (by omega)) ?_; refine tla ?_; refine nq ?_; refine sr ?_; refine tlm ?_; refine tlm ?_; refine tl_c rfl (o_call bd114 rfl (rseen_f _ hR hir ht)) ?_; rintro _ _ ⟨rfl, rfl⟩; refine tl_c rfl (o_call bd35 rfl (CopyBytes_c (xs := lb (seenL s.ls[p / 64])) (hm := hs8))) ?_; rintro _ _ ⟨a15, c15, rfl, hc15, rfl⟩; refine tla ?_; refine nq ?_; refine tc_seq ?_; refine sr ?_; refine tla ?_; refine nq ?_; refine tc_block ?_; refine tc_loop (fun kk ρ BB => ∃ (k : Nat), (k ≤ m) ∧ kk = m - k ∧ ρ 9 = .int .i64 (k : Nat) ∧ ρ 0 = .pointer (some ⟨r, 0, none⟩) ∧ ρ 1 = .int .i64 (p : Nat) ∧ ρ 2 = .slice a m c ∧ ρ 7 = .int .i64 ((p / 64 : Nat) : Int) ∧ ρ 8 = .slice a15 64 c15 ∧ BB = F * RDevC r (.slice (some ⟨bl, ol, none⟩) s.ls.length cl_) rls av kvs s * Sl 1 (.slice a15 64 c15) 64 (bys (spl (lb (seenL s.ls[p / 64])) (p % 64) (xs.take k)))) (m := m - (0)) ?_ ?_
  · exact ⟨0, by omega, rfl, rfl, rfl, rfl, rfl, rfl, rfl, by rw [List.take_zero, spl_nil]⟩
  · intro k ρ B hI
    obtain ⟨k, hp0, hkk1, hE9, hE0, hE1, hE2, hE7, hE8, rfl⟩ := hI
    refine tc_env (d := 9) hE9 ?_; refine tc_env (d := 0) hE0 ?_; refine tc_env (d := 1) hE1 ?_; refine tc_env (d := 2) hE2 ?_; refine tc_env (d := 7) hE7 ?_; refine tc_env (d := 8) hE8 ?_
    clear hE9 hE0 hE1 hE2 hE7 hE8
    refine tc_seq ?_; refine sr ?_; refine tlm ?_; refine tlm ?_; refine tv (o_len Tryz.underlying32 rfl) ?_; refine tv (o_lss rfl rfl) ?_; refine nq ?_; refine tc_cond rfl (fun h => ?_) (fun h => ?_)
    · have hk : k < xs.length := by simp at h; omega
      refine tc_skip ?_; refine q_then_n ?_; refine tc_seq ?_; refine tc_block ?_; refine tc_reg ?_; refine tlm ?_; refine tlm ?_; refine tv (o_remN (b := 64) rfl rfl (by omega)) ?_; refine tlm ?_; refine tv (by first | exact o_addI rfl rfl (by omega) | exact o_add rfl rfl) ?_; refine tl_env (d := 26) (v := .int .i64 ((p % 64 + k : Nat) : Int)) (rfl) ?_; refine tlm ?_; refine tlm ?_; refine tv (o_ixP1 Tryz.underlying32 sz5 rfl rfl (by first | omega | (simp only [bys_length, ints_length, wds_length, bos_length, List.length_append, List.length_take, List.length_drop, List.length_singleton]; omega)) (by repeat (first | exact nn_some | with_reducible exact nn_sl (by decide) | exact nn_rs (by assumption) (fun _ => by first | omega | (simp only [bys_length, ints_length, wds_length, bos_length, List.length_append, List.length_take, List.length_drop, List.length_singleton]; omega)) | apply Nn.left))) ?_; refine tv (o_ldP p5 rfl (by repeat (first | assumption | with_reducible exact rs_sl | with_reducible exact rs_pt0 | exact rs_none | apply Rs.left)) (by first | assumption | exact bys_at (by omega) | exact ints_at (by omega) | exact wds_at (by omega) | exact bos_at (by omega) | rfl)) ?_; refine tv (o_ixP1 Tryz.underlying32 sz5 rfl rfl (by first | omega | (simp only [bys_length, ints_length, wds_length, bos_length, List.length_append, List.length_take, List.length_drop, List.length_singleton]; omega)) (by repeat (first | exact nn_some | with_reducible exact nn_sl (by decide) | exact nn_rs (by assumption) (fun _ => by first | omega | (simp only [bys_length, ints_length, wds_length, bos_length, List.length_append, List.length_take, List.length_drop, List.length_singleton]; omega)) | apply Nn.left))) ?_
      refine tl_u rfl (o_stP sz5 rfl rfl rfl (by repeat (first | with_reducible exact ct_here | apply ct_left)) (by omega) (by first | exact bys_set _ _ _ | exact ints_set _ _ _ | exact wds_set' _ _ _ | exact bos_set _ _ _ | rfl)) ?_; refine tl_nil ?_; refine q_block_n (q_then_n ?_); refine tc_reg ?_; refine tlm ?_; refine tv (by first | exact o_addI rfl rfl (by omega) | exact o_add rfl rfl) ?_; refine tla ?_; refine nq ?_; exact ⟨_, by omega, k + 1, by omega, rfl, rfl, rfl, rfl, rfl, rfl, rfl, by rw [← spl_take (show k < xs.length by omega) (by omega)]⟩
    · have h : ¬ (k < m) := by simp at h; omega
      refine tc_exit ?_; refine q_then_e (q_then_e (q_block_x (q_then_n ?_))); refine tc_seq ?_
      obtain rfl : k = xs.length := by omega
      rw [List.take_length, row_stW hw hi (by omega) hb]
      refine tc_pre (A' := F * rowR (⟨.slice a15 64 c15, (seenL s.ls[p / 64]).set (p % 64 / 8) (nm (stW p xs s))⟩ : Value × List Nat) * RDevC r (.slice (some ⟨bl, ol, none⟩) s.ls.length cl_) rls av kvs s) (fun _ _ h => (sl_share h).perm (by unfold rowR; exact star_swap _ _ _)) ?_
      obtain ⟨R, hf1, hf2⟩ := rdevC_focus (r := r) (lv := (.slice (some ⟨bl, ol, none⟩) s.ls.length cl_)) (av := av) (kvs := kvs) (s := s) (n := s.ls.length) hir rfl
      refine tc_eq (hf1 _) ?_
      have hv0 : rls[p / 64].v = .slice (some ⟨ba, oa, none⟩) rls[p / 64].rows.length ca := by rw [rcl_at0 hir] at g1; exact Option.some.inj g1
      rw [hv0]
      refine tc_regh (S := F * rowR (⟨.slice a15 64 c15, (seenL s.ls[p / 64]).set (p % 64 / 8) (nm (stW p xs s))⟩ : Value × List Nat) * R * pt r (cl (rdcs (.slice (some ⟨bl, ol, none⟩) s.ls.length cl_) s av) 114) * Bs rowR rls[p / 64].rows) mo (by repeat (first | with_reducible exact dr_refl | apply dr_keep | apply dr_drop)) ?_
      show TH _ _ _ _ _ 19 #[ff,ff,ff,ff,ff,ff,ff,ff,ff,ff,ff,ff,ff,ff,ff,ff,ff,ff,ff] _ _
      refine th_take (i := 0) (listed' := #[tt,ff,ff,ff,ff,ff,ff,ff,ff,ff,ff,ff,ff,ff,ff,ff,ff,ff,ff]) rfl (by kernel_rfl) (by kernel_rfl) (by kernel_rfl) rfl rfl (o_move (by conv => lhs; whnf)) ?_; refine th_take (i := 1) (listed' := #[tt,tt,ff,ff,ff,ff,ff,ff,ff,ff,ff,ff,ff,ff,ff,ff,ff,ff,ff]) rfl (by kernel_rfl) (by kernel_rfl) (by kernel_rfl) rfl rfl (o_nilCheck rfl) ?_; refine th_take (i := 2) (listed' := #[tt,tt,tt,ff,ff,ff,ff,ff,ff,ff,ff,ff,ff,ff,ff,ff,ff,ff,ff]) rfl (by kernel_rfl) (by kernel_rfl) (by kernel_rfl) rfl rfl (o_fieldAddr (o := 1) Tryz.underlying114 rfl rfl sz112 rfl) ?_; refine th_take (i := 3) (listed' := #[tt,tt,tt,tt,ff,ff,ff,ff,ff,ff,ff,ff,ff,ff,ff,ff,ff,ff,ff]) rfl (by kernel_rfl) (by kernel_rfl) (by kernel_rfl) rfl rfl (by first | exact o_load p112 rfl (by repeat (first | with_reducible exact has_here | with_reducible exact has_pt | apply has_left)) rfl | exact o_loadC p112 rfl (by assumption)) ?_; refine th_take (i := 4) (listed' := #[tt,tt,tt,tt,tt,ff,ff,ff,ff,ff,ff,ff,ff,ff,ff,ff,ff,ff,ff]) rfl (by kernel_rfl) (by kernel_rfl) (by kernel_rfl) rfl rfl (o_move (by conv => lhs; whnf)) ?_; refine th_take (i := 5) (listed' := #[tt,tt,tt,tt,tt,tt,ff,ff,ff,ff,ff,ff,ff,ff,ff,ff,ff,ff,ff]) rfl (by kernel_rfl) (by kernel_rfl) (by kernel_rfl) rfl rfl (o_move (by conv => lhs; whnf)) ?_; refine th_take (i := 6) (listed' := #[tt,tt,tt,tt,tt,tt,tt,ff,ff,ff,ff,ff,ff,ff,ff,ff,ff,ff,ff]) rfl (by kernel_rfl) (by kernel_rfl) (by kernel_rfl) rfl rfl (o_nilCheck rfl) ?_
      refine th_take (i := 7) (listed' := #[tt,tt,tt,tt,tt,tt,tt,tt,ff,ff,ff,ff,ff,ff,ff,ff,ff,ff,ff]) rfl (by kernel_rfl) (by kernel_rfl) (by kernel_rfl) rfl rfl (o_fieldAddr (o := 1) Tryz.underlying114 rfl rfl sz112 rfl) ?_; refine th_take (i := 8) (listed' := #[tt,tt,tt,tt,tt,tt,tt,tt,tt,ff,ff,ff,ff,ff,ff,ff,ff,ff,ff]) rfl (by kernel_rfl) (by kernel_rfl) (by kernel_rfl) rfl rfl (by first | exact o_load p112 rfl (by repeat (first | with_reducible exact has_here | with_reducible exact has_pt | apply has_left)) rfl | exact o_loadC p112 rfl (by assumption)) ?_; refine th_take (i := 9) (listed' := #[tt,tt,tt,tt,tt,tt,tt,tt,tt,tt,ff,ff,ff,ff,ff,ff,ff,ff,ff]) rfl (by kernel_rfl) (by kernel_rfl) (by kernel_rfl) rfl rfl (o_move (by conv => lhs; whnf)) ?_; refine th_take (i := 10) (listed' := #[tt,tt,tt,tt,tt,tt,tt,tt,tt,tt,tt,ff,ff,ff,ff,ff,ff,ff,ff]) rfl (by kernel_rfl) (by kernel_rfl) (by kernel_rfl) rfl rfl (o_ixP Tryz.underlying112 sz116 rfl rfl (by first | omega | (simp only [bys_length, ints_length, wds_length, bos_length, List.length_append, List.length_take, List.length_drop, List.length_singleton]; omega)) (by repeat (first | exact nn_some | with_reducible exact nn_sl (by decide) | exact nn_rs (by assumption) (fun _ => by first | omega | (simp only [bys_length, ints_length, wds_length, bos_length, List.length_append, List.length_take, List.length_drop, List.length_singleton]; omega)) | apply Nn.left))) ?_; refine th_take (i := 11) (listed' := #[tt,tt,tt,tt,tt,tt,tt,tt,tt,tt,tt,tt,ff,ff,ff,ff,ff,ff,ff]) rfl (by kernel_rfl) (by kernel_rfl) (by kernel_rfl) rfl rfl (o_faP (m := 0) (o := 0) Tryz.underlying116 rfl rfl sz88 rfl (by repeat (first | exact nn_some | with_reducible exact nn_sl (by decide) | exact nn_rs (by assumption) (fun _ => by first | omega | (simp only [bys_length, ints_length, wds_length, bos_length, List.length_append, List.length_take, List.length_drop, List.length_singleton]; omega)) | apply Nn.left))) ?_
      refine th_take (i := 13) (listed' := #[tt,tt,tt,tt,tt,tt,tt,tt,tt,tt,tt,tt,ff,tt,ff,ff,ff,ff,ff]) rfl (by kernel_rfl) (by kernel_rfl) (by kernel_rfl) rfl rfl (o_move (by conv => lhs; whnf)) ?_; refine th_two (i := 12) (j := 14) (by kernel_rfl) ?_ ?_
      · skip
        refine oh_v (i := 12) (listed' := #[tt,tt,tt,tt,tt,tt,tt,tt,tt,tt,tt,tt,tt,tt,ff,ff,ff,ff,ff]) rfl rfl rfl (o_ldP p88 rfl (by repeat (first | assumption | with_reducible exact rs_sl | with_reducible exact rs_pt0 | exact rs_none | apply Rs.left)) g1) ?_; refine th_one (i := 14) (by kernel_rfl) ?_; refine oh_x (i := 14) (listed' := #[tt,tt,tt,tt,tt,tt,tt,tt,tt,tt,tt,tt,tt,tt,tt,ff,ff,ff,ff]) rfl rfl rfl (o_buildSlice1 Tryz.underlying88 sz32 z32 (by conv => lhs; whnf) rfl) ?_; rintro _ _ ⟨b46, rfl, rfl⟩; refine ⟨by repeat (first | with_reducible exact dr_refl | apply dr_keep | apply dr_drop), ?_⟩; refine th_one (i := 15) (by kernel_rfl) ?_; refine oh_x (i := 15) (listed' := #[tt,tt,tt,tt,tt,tt,tt,tt,tt,tt,tt,tt,tt,tt,tt,tt,ff,ff,ff]) rfl rfl rfl (o_apB Tryz.underlying88 Tryz.underlying88 sz32 by32 z32 rfl (by decide) (by decide) rfl rfl rfl (by repeat (first | with_reducible exact ct_here | apply ct_left)) rfl (by first | exact bys_all _ | exact ints_all _ | exact wds_all _ | exact bos_all _ | rfl) (by first | omega | (simp only [bys_length, ints_length, wds_length, bos_length, List.length_append, List.length_take, List.length_drop, List.length_singleton]; omega)) (by first | exact bys_sn _ _ | exact ints_sn _ _ | exact wds_sn _ _ | exact bos_sn _ _ | exact (bys_append _ _).symm | rfl)) ?_; rintro _ _ ⟨a47, c47, rfl, hc47, rfl⟩; refine ⟨by repeat (first | with_reducible exact dr_refl | apply dr_keep | apply dr_drop), ?_⟩; refine th_take (i := 16) (listed' := #[tt,tt,tt,tt,tt,tt,tt,tt,tt,tt,tt,tt,tt,tt,tt,tt,tt,ff,ff]) rfl (by kernel_rfl) (by kernel_rfl) (by kernel_rfl) rfl rfl (o_ixP Tryz.underlying112 sz116 rfl rfl (by first | omega | (simp only [bys_length, ints_length, wds_length, bos_length, List.length_append, List.length_take, List.length_drop, List.length_singleton]; omega)) (by repeat (first | exact nn_some | with_reducible exact nn_sl (by decide) | exact nn_rs (by assumption) (fun _ => by first | omega | (simp only [bys_length, ints_length, wds_length, bos_length, List.length_append, List.length_take, List.length_drop, List.length_singleton]; omega)) | apply Nn.left))) ?_
        refine th_take (i := 17) (listed' := #[tt,tt,tt,tt,tt,tt,tt,tt,tt,tt,tt,tt,tt,tt,tt,tt,tt,tt,ff]) rfl (by kernel_rfl) (by kernel_rfl) (by kernel_rfl) rfl rfl (o_faP (m := 0) (o := 0) Tryz.underlying116 rfl rfl sz88 rfl (by repeat (first | exact nn_some | with_reducible exact nn_sl (by decide) | exact nn_rs (by assumption) (fun _ => by first | omega | (simp only [bys_length, ints_length, wds_length, bos_length, List.length_append, List.length_take, List.length_drop, List.length_singleton]; omega)) | apply Nn.left))) ?_; refine th_one (i := 18) (by kernel_rfl) ?_; refine oh_u (i := 18) (listed' := #[tt,tt,tt,tt,tt,tt,tt,tt,tt,tt,tt,tt,tt,tt,tt,tt,tt,tt,tt]) rfl rfl rfl (o_stP (ys := (rls.set (p / 64) ⟨.slice a47 (rls[p / 64].rows.length + 1) c47, rls[p / 64].rows ++ [(⟨.slice a15 64 c15, (seenL s.ls[p / 64]).set (p % 64 / 8) (nm (stW p xs s))⟩ : Value × List Nat)], rls[p / 64].mark⟩).flatMap rcl) sz88 rfl rfl rfl (by repeat (first | with_reducible exact ct_here | apply ct_left)) (by omega) (fm_set (f := rcl) (k := 2) (j := 0) (y := ⟨.slice a47 (rls[p / 64].rows.length + 1) c47, rls[p / 64].rows ++ [(⟨.slice a15 64 c15, (seenL s.ls[p / 64]).set (p % 64 / 8) (nm (stW p xs s))⟩ : Value × List Nat)], rls[p / 64].mark⟩) (rcl_len _) hir (by decide) rfl rfl)) (by repeat (first | with_reducible exact dr_refl | apply dr_keep | apply dr_drop)) ?_; refine th_done (by kernel_rfl) ?_; refine q_then_n ?_; refine tc_seq ?_
        have hnm := stW_nm (p := p) (s := s) hb
        have hxl : RL.l ⟨.slice a47 (rls[p / 64].rows.length + 1) c47, rls[p / 64].rows ++ [(⟨.slice a15 64 c15, (seenL s.ls[p / 64]).set (p % 64 / 8) (nm (stW p xs s))⟩ : Value × List Nat)], rls[p / 64].mark⟩ = layL (p % 64 / 8) (nm (stW p xs s)) s.ls[p / 64] := by
          have e := hR.at_ _ hir hi
          unfold RL.l layL at *
          simp only [List.map_append, List.map_cons, List.map_nil]
          rw [← e]
        have hmap2 : (rls.set (p / 64) ⟨.slice a47 (rls[p / 64].rows.length + 1) c47, rls[p / 64].rows ++ [(⟨.slice a15 64 c15, (seenL s.ls[p / 64]).set (p % 64 / 8) (nm (stW p xs s))⟩ : Value × List Nat)], rls[p / 64].mark⟩).map RL.l = (layS (p - p % 8) (nm (stW p xs s)) s).ls := by
          have := lay_map (p := p - p % 8) (v := nm (stW p xs s)) (x := ⟨.slice a47 (rls[p / 64].rows.length + 1) c47, rls[p / 64].rows ++ [(⟨.slice a15 64 c15, (seenL s.ls[p / 64]).set (p % 64 / 8) (nm (stW p xs s))⟩ : Value × List Nat)], rls[p / 64].mark⟩) hmap (by rw [hq1]; exact hi) (by rw [hq2]; simp only [hq1]; exact hxl)
          rwa [hq1] at this
        have hlf := onLine_fields (layL ((p - p % 8) % 64 / 8) (nm (stW p xs s))) ((p - p % 8) / 64) s
        refine tc_eq (A' := F * RDevC r (.slice (some ⟨bl, ol, none⟩) s.ls.length cl_) (rls.set (p / 64) ⟨.slice a47 (rls[p / 64].rows.length + 1) c47, rls[p / 64].rows ++ [(⟨.slice a15 64 c15, (seenL s.ls[p / 64]).set (p % 64 / 8) (nm (stW p xs s))⟩ : Value × List Nat)], rls[p / 64].mark⟩) av kvs (layS (p - p % 8) (nm (stW p xs s)) s)) ?_ ?_
        · rw [← hf2 F ⟨.slice a47 (rls[p / 64].rows.length + 1) c47, rls[p / 64].rows ++ [(⟨.slice a15 64 c15, (seenL s.ls[p / 64]).set (p % 64 / 8) (nm (stW p xs s))⟩ : Value × List Nat)], rls[p / 64].mark⟩ (layS (p - p % 8) (nm (stW p xs s)) s) (layS_len _ _ _) hlf.2.1 hlf.1 hlf.2.2.1 hlf.2.2.2.1]
          simp only [List.length_append, List.length_singleton, List.map_append, List.map_cons, List.map_nil, bs_snoc]
          ac_rfl
        refine tc_pre (rdev_back (layS_wf hw hroom hnm) hmap2 (by rw [show (layS (p - p % 8) (nm (stW p xs s)) s).arms = s.arms from hlf.2.1]; exact hkv)) ?_; refine tc_reg ?_; refine tlm ?_; refine tl_c rfl (o_call bd104 rfl (rdone_f F)) ?_; rintro _ _ ⟨rfl, rfl⟩; refine tla ?_; refine nq ?_; refine tc_ret ?_; exact ⟨.int .i64 (doneE (layS (p - p % 8) (nm (stW p xs s)) s)), F * RDev r (doneS (layS (p - p % 8) (nm (stW p xs s)) s)), res1 rfl rfl, Dr.sat (by repeat (first | with_reducible exact dr_refl | apply dr_keep | apply dr_drop)), rfl, rfl⟩
      · skip
        refine oh_x (i := 14) (listed' := #[tt,tt,tt,tt,tt,tt,tt,tt,tt,tt,tt,tt,ff,tt,tt,ff,ff,ff,ff]) rfl rfl rfl (o_buildSlice1 Tryz.underlying88 sz32 z32 (by conv => lhs; whnf) rfl) ?_; rintro _ _ ⟨b46, rfl, rfl⟩; refine ⟨by repeat (first | with_reducible exact dr_refl | apply dr_keep | apply dr_drop), ?_⟩; refine th_one (i := 12) (by kernel_rfl) ?_; refine oh_v (i := 12) (listed' := #[tt,tt,tt,tt,tt,tt,tt,tt,tt,tt,tt,tt,tt,tt,tt,ff,ff,ff,ff]) rfl rfl rfl (o_ldP p88 rfl (by repeat (first | assumption | with_reducible exact rs_sl | with_reducible exact rs_pt0 | exact rs_none | apply Rs.left)) g1) ?_; refine th_one (i := 15) (by kernel_rfl) ?_; refine oh_x (i := 15) (listed' := #[tt,tt,tt,tt,tt,tt,tt,tt,tt,tt,tt,tt,tt,tt,tt,tt,ff,ff,ff]) rfl rfl rfl (o_apB Tryz.underlying88 Tryz.underlying88 sz32 by32 z32 rfl (by decide) (by decide) rfl rfl rfl (by repeat (first | with_reducible exact ct_here | apply ct_left)) rfl (by first | exact bys_all _ | exact ints_all _ | exact wds_all _ | exact bos_all _ | rfl) (by first | omega | (simp only [bys_length, ints_length, wds_length, bos_length, List.length_append, List.length_take, List.length_drop, List.length_singleton]; omega)) (by first | exact bys_sn _ _ | exact ints_sn _ _ | exact wds_sn _ _ | exact bos_sn _ _ | exact (bys_append _ _).symm | rfl)) ?_; rintro _ _ ⟨a47, c47, rfl, hc47, rfl⟩; refine ⟨by repeat (first | with_reducible exact dr_refl | apply dr_keep | apply dr_drop), ?_⟩; refine th_take (i := 16) (listed' := #[tt,tt,tt,tt,tt,tt,tt,tt,tt,tt,tt,tt,tt,tt,tt,tt,tt,ff,ff]) rfl (by kernel_rfl) (by kernel_rfl) (by kernel_rfl) rfl rfl (o_ixP Tryz.underlying112 sz116 rfl rfl (by first | omega | (simp only [bys_length, ints_length, wds_length, bos_length, List.length_append, List.length_take, List.length_drop, List.length_singleton]; omega)) (by repeat (first | exact nn_some | with_reducible exact nn_sl (by decide) | exact nn_rs (by assumption) (fun _ => by first | omega | (simp only [bys_length, ints_length, wds_length, bos_length, List.length_append, List.length_take, List.length_drop, List.length_singleton]; omega)) | apply Nn.left))) ?_
        refine th_take (i := 17) (listed' := #[tt,tt,tt,tt,tt,tt,tt,tt,tt,tt,tt,tt,tt,tt,tt,tt,tt,tt,ff]) rfl (by kernel_rfl) (by kernel_rfl) (by kernel_rfl) rfl rfl (o_faP (m := 0) (o := 0) Tryz.underlying116 rfl rfl sz88 rfl (by repeat (first | exact nn_some | with_reducible exact nn_sl (by decide) | exact nn_rs (by assumption) (fun _ => by first | omega | (simp only [bys_length, ints_length, wds_length, bos_length, List.length_append, List.length_take, List.length_drop, List.length_singleton]; omega)) | apply Nn.left))) ?_; refine th_one (i := 18) (by kernel_rfl) ?_; refine oh_u (i := 18) (listed' := #[tt,tt,tt,tt,tt,tt,tt,tt,tt,tt,tt,tt,tt,tt,tt,tt,tt,tt,tt]) rfl rfl rfl (o_stP (ys := (rls.set (p / 64) ⟨.slice a47 (rls[p / 64].rows.length + 1) c47, rls[p / 64].rows ++ [(⟨.slice a15 64 c15, (seenL s.ls[p / 64]).set (p % 64 / 8) (nm (stW p xs s))⟩ : Value × List Nat)], rls[p / 64].mark⟩).flatMap rcl) sz88 rfl rfl rfl (by repeat (first | with_reducible exact ct_here | apply ct_left)) (by omega) (fm_set (f := rcl) (k := 2) (j := 0) (y := ⟨.slice a47 (rls[p / 64].rows.length + 1) c47, rls[p / 64].rows ++ [(⟨.slice a15 64 c15, (seenL s.ls[p / 64]).set (p % 64 / 8) (nm (stW p xs s))⟩ : Value × List Nat)], rls[p / 64].mark⟩) (rcl_len _) hir (by decide) rfl rfl)) (by repeat (first | with_reducible exact dr_refl | apply dr_keep | apply dr_drop)) ?_; refine th_done (by kernel_rfl) ?_; refine q_then_n ?_; refine tc_seq ?_
        have hnm := stW_nm (p := p) (s := s) hb
        have hxl : RL.l ⟨.slice a47 (rls[p / 64].rows.length + 1) c47, rls[p / 64].rows ++ [(⟨.slice a15 64 c15, (seenL s.ls[p / 64]).set (p % 64 / 8) (nm (stW p xs s))⟩ : Value × List Nat)], rls[p / 64].mark⟩ = layL (p % 64 / 8) (nm (stW p xs s)) s.ls[p / 64] := by
          have e := hR.at_ _ hir hi
          unfold RL.l layL at *
          simp only [List.map_append, List.map_cons, List.map_nil]
          rw [← e]
        have hmap2 : (rls.set (p / 64) ⟨.slice a47 (rls[p / 64].rows.length + 1) c47, rls[p / 64].rows ++ [(⟨.slice a15 64 c15, (seenL s.ls[p / 64]).set (p % 64 / 8) (nm (stW p xs s))⟩ : Value × List Nat)], rls[p / 64].mark⟩).map RL.l = (layS (p - p % 8) (nm (stW p xs s)) s).ls := by
          have := lay_map (p := p - p % 8) (v := nm (stW p xs s)) (x := ⟨.slice a47 (rls[p / 64].rows.length + 1) c47, rls[p / 64].rows ++ [(⟨.slice a15 64 c15, (seenL s.ls[p / 64]).set (p % 64 / 8) (nm (stW p xs s))⟩ : Value × List Nat)], rls[p / 64].mark⟩) hmap (by rw [hq1]; exact hi) (by rw [hq2]; simp only [hq1]; exact hxl)
          rwa [hq1] at this
        have hlf := onLine_fields (layL ((p - p % 8) % 64 / 8) (nm (stW p xs s))) ((p - p % 8) / 64) s
        refine tc_eq (A' := F * RDevC r (.slice (some ⟨bl, ol, none⟩) s.ls.length cl_) (rls.set (p / 64) ⟨.slice a47 (rls[p / 64].rows.length + 1) c47, rls[p / 64].rows ++ [(⟨.slice a15 64 c15, (seenL s.ls[p / 64]).set (p % 64 / 8) (nm (stW p xs s))⟩ : Value × List Nat)], rls[p / 64].mark⟩) av kvs (layS (p - p % 8) (nm (stW p xs s)) s)) ?_ ?_
        · rw [← hf2 F ⟨.slice a47 (rls[p / 64].rows.length + 1) c47, rls[p / 64].rows ++ [(⟨.slice a15 64 c15, (seenL s.ls[p / 64]).set (p % 64 / 8) (nm (stW p xs s))⟩ : Value × List Nat)], rls[p / 64].mark⟩ (layS (p - p % 8) (nm (stW p xs s)) s) (layS_len _ _ _) hlf.2.1 hlf.1 hlf.2.2.1 hlf.2.2.2.1]
          simp only [List.length_append, List.length_singleton, List.map_append, List.map_cons, List.map_nil, bs_snoc]
          ac_rfl
        refine tc_pre (rdev_back (layS_wf hw hroom hnm) hmap2 (by rw [show (layS (p - p % 8) (nm (stW p xs s)) s).arms = s.arms from hlf.2.1]; exact hkv)) ?_; refine tc_reg ?_; refine tlm ?_; refine tl_c rfl (o_call bd104 rfl (rdone_f F)) ?_; rintro _ _ ⟨rfl, rfl⟩; refine tla ?_; refine nq ?_; refine tc_ret ?_; exact ⟨.int .i64 (doneE (layS (p - p % 8) (nm (stW p xs s)) s)), F * RDev r (doneS (layS (p - p % 8) (nm (stW p xs s)) s)), res1 rfl rfl, Dr.sat (by repeat (first | with_reducible exact dr_refl | apply dr_keep | apply dr_drop)), rfl, rfl⟩
theorem rword_c {A R : SP} {C : SP → SP} {r : Nat} {s : DevS} (hc : Ct A (RDev r s) R C := by repeat (first | with_reducible exact ct_here | apply ct_left)) {c m p : Nat} {a : Option Addr} {xs : List Nat} (hr : Rs R a (bys xs) := by repeat (first | assumption | with_reducible exact rs_sl | with_reducible exact rs_pt0 | exact rs_none | apply Rs.left)) (hm : xs.length = m := by first | assumption | rfl) (hx : m ≤ 8 - p % 8 := by omega) (hb : ∀ x ∈ xs, x < 256 := by assumption) (hi : p / 64 < s.ls.length := by omega) (hroom : Room 1 s := by assumption) :
    Fn Tryz.prog 102 #[.pointer (some ⟨r, 0, none⟩), .int .i64 (p : Nat), .slice a m c] A (fun v B => v = .int .i64 (doneE (layS (p - p % 8) (nm (stW p xs s)) s)) ∧ B = C (RDev r (doneS (layS (p - p % 8) (nm (stW p xs s)) s)))) := by
  obtain ⟨rfl, hC⟩ := hc
  exact (rword_f R hr hm hx hb hi hroom).mono fun _ _ h => ⟨h.1, by rw [hC]; exact h.2⟩
theorem tmod8 {p : Int} : p.tmod 8 = 0 ↔ p % 8 = 0 := ⟨fun h => Int.emod_eq_zero_of_dvd (Int.dvd_of_tmod_eq_zero h), fun h => Int.tmod_eq_zero_of_dvd (Int.dvd_of_emod_eq_zero h)⟩
theorem fl1_no {p : Int} {s : DevS} (hoff : s.off = false) (h : p < 0 ∨ (s.ls.length : Int) * 64 ≤ p) : fl1 p s = (6, s) := by
  have e : rdy s.ls.length s.off p 1 = 6 := by unfold rdy; rw [hoff, if_neg (by decide), if_pos (by omega)]
  unfold fl1; rw [e, if_pos (by decide)]
theorem rFlush_f (F : SP) {r : Nat} {p : Int} {s : DevS} (hp : -9223372036854775808 ≤ p ∧ p ≤ 9223372036854775807) :
    Fn Tryz.prog 38 #[.pointer (some ⟨r, 0, none⟩), .int .i64 p] (F * RDev r s) (fun v_ B => v_ = .int .i64 (fl1 p s).1 ∧ B = F * RDev r (fl1 p s).2) := by
  refine fn_enterW (args := [.pointer (some ⟨r, 0, none⟩), .int .i64 p]) Tryz.func38 rfl Tryz.ntmps38 (by simp) ?_; refine tc_rdev fun hw lv rls av kvs hmap hkv => ?_
  have hpos := hw.pos
  have htop := hw.top
  refine tc_have (fun _ _ h => rdevR_of hw hmap h) fun hR => ?_
  obtain ⟨bl, ol, cl_, rfl, hlc, hll⟩ := hR.lv
  have hlen := hR.len
  
  refine sr ?_; refine tla ?_; refine nq ?_; refine tc_seq ?_; refine sr ?_; refine tlm ?_; refine tv (o_nilCheck rfl) ?_; refine tv (o_fieldAddr (o := 5) Tryz.underlying114 rfl rfl sz4 rfl) ?_; refine tv (o_load p4 rfl (by repeat (first | exact rdevC_r | apply has_left)) rfl) ?_; refine nq ?_; refine tc_cond rfl (fun h => ?_) (fun h => ?_)
  · try simp only [lv1, lv2, lv3, lv4, lv5, lv6, Bool.not_true, Bool.not_false] at h
    refine sr ?_; refine tla ?_; refine nq ?_; refine tc_ret ?_; refine q_then_r ?_
    have e : fl1 p s = (5, s) := by unfold fl1 rdy; rw [h]; rfl
    rw [e]
    exact ⟨.int .i64 5, F * RDev r s, res1 rfl rfl, rdev_back hw hmap hkv, rfl, rfl⟩
  · have hoff : s.off = false := by simpa using h
    refine tc_skip ?_; refine q_then_n ?_; refine tc_seq ?_; refine sr ?_; refine tlm ?_; refine tv (o_lss rfl rfl) ?_; refine tlm ?_; refine tl_bool (d := 11) rfl (fun h => ?_) (fun h => ?_)
    · have h : p < 0 := by simpa using h
      have e : fl1 p s = (6, s) := fl1_no hoff (by omega)
      refine tk ?_; refine tk ?_; refine tk ?_; refine tk ?_; refine tk ?_; refine tk ?_; refine tv (o_pick_t rfl (by conv => lhs; whnf)) ?_; refine nq ?_; refine tc_cond_t rfl ?_; refine sr ?_; refine tla ?_; refine nq ?_; refine tc_ret ?_; refine q_then_r ?_
      rw [e]
      exact ⟨.int .i64 6, F * RDev r s, res1 rfl rfl, rdev_back hw hmap hkv, rfl, rfl⟩
    · have hp0 : 0 ≤ p := by simpa using h
      refine tlm ?_; refine tlm ?_; refine tv (o_nilCheck rfl) ?_; refine tv (o_fieldAddr (o := 0) Tryz.underlying114 rfl rfl sz3 rfl) ?_; refine tv (o_load p3 rfl (by repeat (first | exact rdevC_r | apply has_left)) rfl) ?_; refine tv (o_geq rfl rfl) ?_; refine tv (o_pick_f rfl (by conv => lhs; whnf)) ?_; refine nq ?_; refine tc_cond rfl (fun h => ?_) (fun h => ?_)
      · have h : ((s.ls.length * 64 : Nat) : Int) ≤ p := by simpa using h
        have e : fl1 p s = (6, s) := fl1_no hoff (by omega)
        refine sr ?_; refine tla ?_; refine nq ?_; refine tc_ret ?_; refine q_then_r ?_
        rw [e]
        exact ⟨.int .i64 6, F * RDev r s, res1 rfl rfl, rdev_back hw hmap hkv, rfl, rfl⟩
      · have h : p < ((s.ls.length * 64 : Nat) : Int) := by simpa using h
        obtain ⟨q, rfl⟩ := Int.eq_ofNat_of_zero_le hp0
        have hz : rdy s.ls.length s.off (q : Int) 1 = 0 := by unfold rdy; rw [hoff, if_neg (by decide), if_neg (by omega)]
        have e : fl1 (q : Int) s = (doneE (flushS q s), doneS (flushS q s)) := by unfold fl1; rw [if_neg (by omega), Int.toNat_natCast]
        have hi : q / 64 < s.ls.length := by omega
        have hir : q / 64 < rls.length := by omega
        obtain ⟨ba, oa, ca, g1, hca, har⟩ := hR.allC hir
        have hrl := hR.rows hir hi
        have hps := hR.pos hir
        have hsm := hR.small hir
        have hwl := hw.line _ (List.getElem_mem hi)
        refine tc_skip ?_; refine q_then_n ?_; refine tc_seq ?_
        obtain ⟨R, hf1, hf2⟩ := rdevC_focus (r := r) (lv := (.slice (some ⟨bl, ol, none⟩) s.ls.length cl_)) (av := av) (kvs := kvs) (s := s) (n := s.ls.length) hir rfl
        refine tc_eq (hf1 F) ?_; refine tc_regh (S := F * R * pt r (cl (rdcs (.slice (some ⟨bl, ol, none⟩) s.ls.length cl_) s av) 114)) mo (by repeat (first | with_reducible exact dr_refl | apply dr_keep | apply dr_drop)) ?_
        show TH _ _ _ _ _ 20 #[ff,ff,ff,ff,ff,ff,ff,ff,ff,ff,ff,ff,ff,ff,ff,ff,ff,ff,ff,ff] _ _
        refine th_take (i := 0) (listed' := #[tt,ff,ff,ff,ff,ff,ff,ff,ff,ff,ff,ff,ff,ff,ff,ff,ff,ff,ff,ff]) rfl (by kernel_rfl) (by kernel_rfl) (by kernel_rfl) rfl rfl (o_move (by conv => lhs; whnf)) ?_; refine th_take (i := 1) (listed' := #[tt,tt,ff,ff,ff,ff,ff,ff,ff,ff,ff,ff,ff,ff,ff,ff,ff,ff,ff,ff]) rfl (by kernel_rfl) (by kernel_rfl) (by kernel_rfl) rfl rfl (o_nilCheck rfl) ?_; refine th_take (i := 2) (listed' := #[tt,tt,tt,ff,ff,ff,ff,ff,ff,ff,ff,ff,ff,ff,ff,ff,ff,ff,ff,ff]) rfl (by kernel_rfl) (by kernel_rfl) (by kernel_rfl) rfl rfl (o_fieldAddr (o := 1) Tryz.underlying114 rfl rfl sz112 rfl) ?_; refine th_take (i := 3) (listed' := #[tt,tt,tt,tt,ff,ff,ff,ff,ff,ff,ff,ff,ff,ff,ff,ff,ff,ff,ff,ff]) rfl (by kernel_rfl) (by kernel_rfl) (by kernel_rfl) rfl rfl (by first | exact o_load p112 rfl (by repeat (first | with_reducible exact has_here | with_reducible exact has_pt | apply has_left)) rfl | exact o_loadC p112 rfl (by assumption)) ?_; refine th_take (i := 4) (listed' := #[tt,tt,tt,tt,tt,ff,ff,ff,ff,ff,ff,ff,ff,ff,ff,ff,ff,ff,ff,ff]) rfl (by kernel_rfl) (by kernel_rfl) (by kernel_rfl) rfl rfl (o_move (by conv => lhs; whnf)) ?_; refine th_take (i := 5) (listed' := #[tt,tt,tt,tt,tt,tt,ff,ff,ff,ff,ff,ff,ff,ff,ff,ff,ff,ff,ff,ff]) rfl (by kernel_rfl) (by kernel_rfl) (by kernel_rfl) rfl rfl (o_quoN (b := 64) rfl rfl (by omega)) ?_; refine th_take (i := 6) (listed' := #[tt,tt,tt,tt,tt,tt,tt,ff,ff,ff,ff,ff,ff,ff,ff,ff,ff,ff,ff,ff]) rfl (by kernel_rfl) (by kernel_rfl) (by kernel_rfl) rfl rfl (o_move (by conv => lhs; whnf)) ?_
        refine th_take (i := 7) (listed' := #[tt,tt,tt,tt,tt,tt,tt,tt,ff,ff,ff,ff,ff,ff,ff,ff,ff,ff,ff,ff]) rfl (by kernel_rfl) (by kernel_rfl) (by kernel_rfl) rfl rfl (o_nilCheck rfl) ?_; refine th_take (i := 8) (listed' := #[tt,tt,tt,tt,tt,tt,tt,tt,tt,ff,ff,ff,ff,ff,ff,ff,ff,ff,ff,ff]) rfl (by kernel_rfl) (by kernel_rfl) (by kernel_rfl) rfl rfl (o_fieldAddr (o := 1) Tryz.underlying114 rfl rfl sz112 rfl) ?_; refine th_take (i := 9) (listed' := #[tt,tt,tt,tt,tt,tt,tt,tt,tt,tt,ff,ff,ff,ff,ff,ff,ff,ff,ff,ff]) rfl (by kernel_rfl) (by kernel_rfl) (by kernel_rfl) rfl rfl (by first | exact o_load p112 rfl (by repeat (first | with_reducible exact has_here | with_reducible exact has_pt | apply has_left)) rfl | exact o_loadC p112 rfl (by assumption)) ?_; refine th_take (i := 10) (listed' := #[tt,tt,tt,tt,tt,tt,tt,tt,tt,tt,tt,ff,ff,ff,ff,ff,ff,ff,ff,ff]) rfl (by kernel_rfl) (by kernel_rfl) (by kernel_rfl) rfl rfl (o_move (by conv => lhs; whnf)) ?_; refine th_take (i := 11) (listed' := #[tt,tt,tt,tt,tt,tt,tt,tt,tt,tt,tt,tt,ff,ff,ff,ff,ff,ff,ff,ff]) rfl (by kernel_rfl) (by kernel_rfl) (by kernel_rfl) rfl rfl (o_quoN (b := 64) rfl rfl (by omega)) ?_; refine th_take (i := 12) (listed' := #[tt,tt,tt,tt,tt,tt,tt,tt,tt,tt,tt,tt,tt,ff,ff,ff,ff,ff,ff,ff]) rfl (by kernel_rfl) (by kernel_rfl) (by kernel_rfl) rfl rfl (o_ixP Tryz.underlying112 sz116 rfl rfl (by first | omega | (simp only [bys_length, ints_length, wds_length, bos_length, List.length_append, List.length_take, List.length_drop, List.length_singleton]; omega)) (by repeat (first | exact nn_some | with_reducible exact nn_sl (by decide) | exact nn_rs (by assumption) (fun _ => by first | omega | (simp only [bys_length, ints_length, wds_length, bos_length, List.length_append, List.length_take, List.length_drop, List.length_singleton]; omega)) | apply Nn.left))) ?_
        refine th_take (i := 13) (listed' := #[tt,tt,tt,tt,tt,tt,tt,tt,tt,tt,tt,tt,tt,tt,ff,ff,ff,ff,ff,ff]) rfl (by kernel_rfl) (by kernel_rfl) (by kernel_rfl) rfl rfl (o_faP (m := 0) (o := 0) Tryz.underlying116 rfl rfl sz88 rfl (by repeat (first | exact nn_some | with_reducible exact nn_sl (by decide) | exact nn_rs (by assumption) (fun _ => by first | omega | (simp only [bys_length, ints_length, wds_length, bos_length, List.length_append, List.length_take, List.length_drop, List.length_singleton]; omega)) | apply Nn.left))) ?_; refine th_one (i := 14) (by kernel_rfl) ?_; refine oh_v (i := 14) (listed' := #[tt,tt,tt,tt,tt,tt,tt,tt,tt,tt,tt,tt,tt,tt,tt,ff,ff,ff,ff,ff]) rfl rfl rfl (o_ldP p88 rfl (by repeat (first | assumption | with_reducible exact rs_sl | with_reducible exact rs_pt0 | exact rs_none | apply Rs.left)) g1) ?_; refine th_take (i := 15) (listed' := #[tt,tt,tt,tt,tt,tt,tt,tt,tt,tt,tt,tt,tt,tt,tt,tt,ff,ff,ff,ff]) rfl (by kernel_rfl) (by kernel_rfl) (by kernel_rfl) rfl rfl (o_len Tryz.underlying88 rfl) ?_; refine th_take (i := 16) (listed' := #[tt,tt,tt,tt,tt,tt,tt,tt,tt,tt,tt,tt,tt,tt,tt,tt,tt,ff,ff,ff]) rfl (by kernel_rfl) (by kernel_rfl) (by kernel_rfl) rfl rfl (by first | exact o_subI rfl rfl (by omega) | exact o_sub rfl rfl) ?_; refine th_take (i := 17) (listed' := #[tt,tt,tt,tt,tt,tt,tt,tt,tt,tt,tt,tt,tt,tt,tt,tt,tt,tt,ff,ff]) rfl (by kernel_rfl) (by kernel_rfl) (by kernel_rfl) rfl rfl (o_ixP Tryz.underlying112 sz116 rfl rfl (by first | omega | (simp only [bys_length, ints_length, wds_length, bos_length, List.length_append, List.length_take, List.length_drop, List.length_singleton]; omega)) (by repeat (first | exact nn_some | with_reducible exact nn_sl (by decide) | exact nn_rs (by assumption) (fun _ => by first | omega | (simp only [bys_length, ints_length, wds_length, bos_length, List.length_append, List.length_take, List.length_drop, List.length_singleton]; omega)) | apply Nn.left))) ?_
        refine th_take (i := 18) (listed' := #[tt,tt,tt,tt,tt,tt,tt,tt,tt,tt,tt,tt,tt,tt,tt,tt,tt,tt,tt,ff]) rfl (by kernel_rfl) (by kernel_rfl) (by kernel_rfl) rfl rfl (o_faP (m := 0) (o := 1) Tryz.underlying116 rfl rfl sz3 rfl (by repeat (first | exact nn_some | with_reducible exact nn_sl (by decide) | exact nn_rs (by assumption) (fun _ => by first | omega | (simp only [bys_length, ints_length, wds_length, bos_length, List.length_append, List.length_take, List.length_drop, List.length_singleton]; omega)) | apply Nn.left))) ?_; refine th_one (i := 19) (by kernel_rfl) ?_; refine oh_u (i := 19) (listed' := #[tt,tt,tt,tt,tt,tt,tt,tt,tt,tt,tt,tt,tt,tt,tt,tt,tt,tt,tt,tt]) rfl rfl rfl (o_stP (ys := (rls.set (q / 64) ⟨rls[q / 64].v, rls[q / 64].rows, (rls[q / 64].rows.length : Int) - 1⟩).flatMap rcl) sz3 rfl rfl rfl (by repeat (first | with_reducible exact ct_here | apply ct_left)) (by omega) (fm_set (f := rcl) (k := 2) (j := 1) (y := ⟨rls[q / 64].v, rls[q / 64].rows, (rls[q / 64].rows.length : Int) - 1⟩) (rcl_len _) hir (by decide) rfl rfl)) (by repeat (first | with_reducible exact dr_refl | apply dr_keep | apply dr_drop)) ?_; refine th_done (by kernel_rfl) ?_; refine q_then_n ?_; refine tc_seq ?_
        have hlf := onLine_fields flushL (q / 64) s
        refine tc_eq (hf2 F ⟨rls[q / 64].v, rls[q / 64].rows, (rls[q / 64].rows.length : Int) - 1⟩ (flushS q s) hlf.2.2.2.2 hlf.2.1 hlf.1 hlf.2.2.1 hlf.2.2.2.1) ?_
        refine tc_pre (rdev_back (flushS_wf hw) (by
          unfold flushS; rw [onLine_at hi, List.map_set, hmap]; congr 1
          have e := hR.at_ _ hir hi
          unfold flushL; rw [← e]; simp [RL.l]) (by rw [show (flushS q s).arms = s.arms from hlf.2.1]; exact hkv)) ?_
        refine tc_reg ?_; refine tlm ?_; refine tl_c rfl (o_call bd104 rfl (rdone_f F)) ?_; rintro _ _ ⟨rfl, rfl⟩; refine tla ?_; refine nq ?_; refine tc_ret ?_
        rw [e]
        exact ⟨.int .i64 (doneE (flushS q s)), F * RDev r (doneS (flushS q s)), res1 rfl rfl, Dr.sat (by repeat (first | with_reducible exact dr_refl | apply dr_keep | apply dr_drop)), rfl, rfl⟩
end Go.Vl
