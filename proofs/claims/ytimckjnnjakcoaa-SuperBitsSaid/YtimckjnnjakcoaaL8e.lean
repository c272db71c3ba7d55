/- vellumlaw08: a script without losses of power, told. Conditions: none. -/
import Derived.Test.YtimckjnnjakcoaaL8c
set_option linter.unusedVariables false
set_option linter.unusedSimpArgs false
namespace Go.Vl
open Go Go.Proofs


/-- No loss of power is planned, and none was. -/
structure Live (s : DevS) : Prop where
  off : s.off = false
  arms : s.arms = []
theorem doneS_live {s : DevS} (h : s.arms = []) : doneS s = { s with ops := wr64 (s.ops + 1) } ∧ doneE s = 0 := by
  unfold doneS doneE; rw [h]; exact ⟨rfl, rfl⟩
theorem onLine_fields (f : LineS → LineS) (i : Nat) (s : DevS) : (onLine f i s).ops = s.ops ∧ (onLine f i s).arms = s.arms ∧ (onLine f i s).cnt = s.cnt ∧ (onLine f i s).off = s.off ∧ (onLine f i s).ls.length = s.ls.length := by
  unfold onLine; split <;> simp
theorem rdy_ok {n : Nat} {p m : Int} (hp : 0 ≤ p) (hm : 0 ≤ m) (h : p + m ≤ n * 64) : rdy n false p m = 0 := by
  unfold rdy; rw [if_neg (by simp), if_neg (by omega)]
theorem st8_live {s : DevS} (h : Live s) {w v : Nat} (hw : 8 * w + 8 ≤ s.ls.length * 64) :
    st8 ((8 * w : Nat) : Int) v s = (0, { layS (8 * w) v s with ops := wr64 (s.ops + 1) }) := by
  have hf := onLine_fields (layL (8 * w % 64 / 8) v) (8 * w / 64) s
  unfold st8
  rw [h.off, rdy_ok (by omega) (by omega) (by omega), if_neg (by simp), if_neg (by omega)]
  have ha : (layS ((8 * w : Nat) : Int).toNat v s).arms = [] := by unfold layS; rw [Int.toNat_natCast, hf.2.1, h.arms]
  obtain ⟨h1, h2⟩ := doneS_live ha
  rw [h1, h2, Int.toNat_natCast]
  unfold layS at *
  rw [hf.1]
theorem fl1_live {s : DevS} (h : Live s) {w : Nat} (hw : 8 * w + 1 ≤ s.ls.length * 64) :
    fl1 ((8 * w : Nat) : Int) s = (0, { flushS (8 * w) s with ops := wr64 (s.ops + 1) }) := by
  have hf := onLine_fields flushL (8 * w / 64) s
  unfold fl1
  rw [h.off, rdy_ok (by omega) (by omega) (by omega), if_neg (by simp)]
  have ha : (flushS ((8 * w : Nat) : Int).toNat s).arms = [] := by unfold flushS; rw [Int.toNat_natCast, hf.2.1, h.arms]
  obtain ⟨h1, h2⟩ := doneS_live ha
  rw [h1, h2, Int.toNat_natCast]
  unfold flushS at *
  rw [hf.1]
theorem fe_live {s : DevS} (h : Live s) : fe s = (0, { fenceS s with ops := wr64 (s.ops + 1) }) := by
  unfold fe
  rw [h.off, if_neg (by simp)]
  obtain ⟨h1, h2⟩ := doneS_live (s := fenceS s) h.arms
  rw [h1, h2]; rfl
theorem onLine_room {f : LineS → LineS} {i r : Nat} {s : DevS} (h : Room (r + 1) s) (hf : ∀ l, (f l).st.length ≤ l.st.length + 1) : Room r (onLine f i s) := by
  unfold onLine
  cases e : s.ls[i]? with
  | none => exact fun l hl => by have := h l hl; omega
  | some l =>
    intro x hx
    rcases List.mem_or_eq_of_mem_set hx with h1 | rfl
    · have := h x h1; omega
    · have := h l (List.mem_of_getElem? e); have := hf l; omega
theorem room_fence {r : Nat} {s : DevS} (h : Room (r + 1) s) : Room r (fenceS s) := fun l hl => by
  simp only [fenceS, List.mem_map] at hl
  obtain ⟨m, hm, rfl⟩ := hl
  have := h m hm
  unfold fenceL; split <;> simp <;> omega

theorem step_ok {r : Nat} {P : PlS} (hP : WfP (r + 1) P) (hL : Live P.s) (k q : Int) (v : Nat) : (stepP k q v P).1 = true ∧ WfP r (stepP k q v P).2 ∧ Live (stepP k q v P).2.s := by
  have hseen := hP.seen
  have hls := hP.ls
  have hpos := hP.pos
  have hw := wi_lt (p := q) (show 0 < P.seen.length by omega)
  have hh : ∀ l ∈ P.held, l.length + r ≤ 2199023255552 := fun l hl => by have := hP.hroom l hl; omega
  have hr0 : Room r P.s := fun l hl => by have := hP.room l hl; omega
  unfold stepP
  split
  · rw [st8_live hL (by omega)]
    have hf := onLine_fields (layL (8 * wi q P.seen.length % 64 / 8) v) (8 * wi q P.seen.length / 64) P.s
    refine ⟨rfl, ⟨?_, ?_, ?_, ?_, ?_, ?_, ?_, ?_, ?_⟩, ⟨?_, ?_⟩⟩
    · show 0 < (if _ then _ else _ : List Int).length; split <;> first | exact hpos | (simp; exact hpos)
    · show (if _ then _ else _ : List Int).length ≤ 4; have := hP.top; split <;> first | exact this | (simp; exact this)
    · show (layS _ _ _).ls.length = (if _ then _ else _ : List Int).length; unfold layS; rw [hf.2.2.2.2]; split <;> first | exact hls | (simp; exact hls)
    · show (P.seen.set _ _).length = 8 * (if _ then _ else _ : List Int).length; split <;> first | exact hseen | (simp; exact hseen)
    · show (P.held.set _ _).length = 8 * (if _ then _ else _ : List Int).length; have := hP.held; split <;> first | exact this | (simp; exact this)
    · show P.last.length = 8 * (if _ then _ else _ : List Int).length; have := hP.last; split <;> first | exact this | (simp; exact this)
    · show (P.sure.set _ _).length = 8 * (if _ then _ else _ : List Int).length; have := hP.sure; split <;> first | exact this | (simp; exact this)
    · intro l hl
      exact onLine_room (s := P.s) hP.room (fun l => by simp [layL]) l hl
    · intro l hl
      rcases List.mem_or_eq_of_mem_set hl with h1 | rfl
      · exact hh l h1
      · have hwh : wi q P.seen.length < P.held.length := by have := hP.held; omega
        have := hP.hroom _ (List.getElem_mem hwh)
        rw [getD_at hwh]; simp; omega
    · show (layS _ _ _).off = false; unfold layS; rw [hf.2.2.2.1]; exact hL.off
    · show (layS _ _ _).arms = []; unfold layS; rw [hf.2.1]; exact hL.arms
  · split
    · rw [fl1_live hL (by omega)]
      have hf := onLine_fields flushL (8 * wi q P.seen.length / 64) P.s
      refine ⟨rfl, ⟨by simp; exact hpos, by simp; exact hP.top, by simp; unfold flushS; rw [hf.2.2.2.2]; exact hls, by simp; exact hseen, by simp; exact hP.held, by simp; exact hP.last, by simp; exact hP.sure, ?_, hh⟩, ⟨?_, ?_⟩⟩
      · intro l hl
        exact onLine_room (s := P.s) hP.room (fun l => by simp [flushL]) l hl
      · show (flushS _ _).off = false; unfold flushS; rw [hf.2.2.2.1]; exact hL.off
      · show (flushS _ _).arms = []; unfold flushS; rw [hf.2.1]; exact hL.arms
    · split
      · rw [fe_live hL]
        exact ⟨rfl, ⟨by simp [pm_length]; exact hpos, by simp [pm_length]; exact hP.top, by simp [pm_length, fenceS]; exact hls, by simp [pm_length]; exact hseen, by simp [pm_length]; exact hP.held, by simp [pm_length]; exact hP.last, by simp [pm_length]; exact hP.sure,
          fun l hl => room_fence hP.room l hl, hh⟩, ⟨hL.off, hL.arms⟩⟩
      · exact ⟨rfl, ⟨hpos, hP.top, hls, hseen, hP.held, hP.last, hP.sure, hr0, hh⟩, hL⟩

/-- A step's cells. -/
structure StepC where
  k : Int
  q : Int
  nv : Value
  v : Nat
  dv : Value
  kv : Value
  av : Value
def StepC.cells (t : StepC) : List Value := [.int .i64 t.k, .int .i64 t.q, t.nv, .int .u64 (t.v : Nat), t.dv, t.kv, t.av]
def scs (l : List StepC) : List Value := l.flatMap StepC.cells
theorem scs_length (l : List StepC) : (scs l).length = l.length * 7 := by
  induction l with
  | nil => rfl
  | cons t l ih => simp only [scs, List.flatMap_cons, List.length_append, List.length_cons] at *; rw [ih]; simp [StepC.cells]; omega
theorem scs_at : ∀ {l : List StepC} {j : Nat} (h : j < l.length), ((scs l).drop (j * 7)).take 7 = l[j].cells
  | t :: l, 0, _ => by simp [scs, StepC.cells]
  | t :: l, j + 1, h => by
    have e : (j + 1) * 7 = t.cells.length + j * 7 := by simp [StepC.cells]; omega
    rw [e]
    show ((t.cells ++ scs l).drop _).take 7 = _
    rw [← List.drop_drop, List.drop_left]
    exact scs_at (by simpa using h)
def playL (l : List StepC) (P : PlS) : PlS := l.foldl (fun P t => (stepP t.k t.q t.v P).2) P
theorem playL_succ {l : List StepC} {j : Nat} (h : j < l.length) (P : PlS) : playL (l.take (j + 1)) P = (stepP l[j].k l[j].q l[j].v (playL (l.take j) P)).2 := by
  unfold playL; rw [List.take_succ_eq_append_getElem h, List.foldl_append]; rfl
theorem playL_ok : ∀ (l : List StepC) {r : Nat} {P : PlS}, WfP (r + l.length) P → Live P.s → WfP r (playL l P) ∧ Live (playL l P).s
  | [], _, _, h, hl => ⟨h, hl⟩
  | t :: l, r, P, h, hl => by
    obtain ⟨_, h2, h3⟩ := step_ok (r := r + l.length) h hl t.k t.q t.v
    exact playL_ok l h2 h3
def begS (n : Nat) : PlS := ⟨newS n, List.replicate (8 * n) 0, List.replicate (8 * n) [0], List.replicate (8 * n) 0, List.replicate (8 * n) true, List.replicate n 0⟩
theorem begS_wf {n r : Nat} (h : 0 < n) (h4 : n ≤ 4) (hr : r + 1 ≤ 2199023255552) : WfP r (begS n) := ⟨by simp [begS]; omega, by simp [begS]; omega, by simp [begS, newS], by simp [begS], by simp [begS], by simp [begS], by simp [begS],
  fun l hl => by simp only [begS, newS, List.mem_replicate] at hl; rw [hl.2]; simp [zline]; omega, fun l hl => by simp only [begS, List.mem_replicate] at hl; rw [hl.2]; simp; omega⟩
theorem begS_live (n : Nat) : Live (begS n).s := ⟨rfl, rfl⟩

end Go.Vl
