/- A device of package pmem, as it lies in memory: lines with their contents, operations, arms. Conditions: none. -/
import Derived.Test.YtimckjnnjakcoaaTypes
import Derived.Test.YtimckjnnjakcoaaNat
import Derived.Test.YtimckjnnjakcoaaBits
import Derived.Test.YtimckjnnjakcoaaProg
set_option linter.unusedVariables false
set_option linter.unusedSimpArgs false
namespace Go.Vl
open Go Go.Proofs


/-- A line: its contents (words), the durable one first; which was seen at its last Flush (-1: none). -/
structure LineS where
  st : List (List Nat)
  mark : Int
/-- A device. -/
structure DevS where
  ls : List LineS
  ops : Int
  arms : List (Int × List Int)
  cnt : Int
  off : Bool

def stc (st : List (List Nat)) : List Value := st.flatMap wds

/-- Every content has eight words. -/
def Eight (st : List (List Nat)) : Prop := ∀ s ∈ st, s.length = 8
theorem stc_length {st : List (List Nat)} (h : Eight st) : (stc st).length = st.length * 8 := by
  induction st with
  | nil => rfl
  | cons s st ih =>
    simp only [stc, List.flatMap_cons, List.length_append, wds_length, List.length_cons] at *
    rw [h s (by simp), ih fun x hx => h x (by simp [hx])]; omega
theorem stc_append (a b : List (List Nat)) : stc (a ++ b) = stc a ++ stc b := by simp [stc]
theorem stc_one (s : List Nat) : stc [s] = wds s := by simp [stc]
theorem stc_drop {st : List (List Nat)} (h : Eight st) : ∀ k, k ≤ st.length → (stc st).drop (k * 8) = stc (st.drop k) := by
  induction st with
  | nil => intro k hk; simp at hk; subst hk; rfl
  | cons s st ih =>
    intro k hk
    match k with
    | 0 => simp
    | k + 1 =>
      simp only [List.drop_succ_cons]
      rw [← ih (fun x hx => h x (by simp [hx])) k (by simpa using hk)]
      have e : (k + 1) * 8 = (wds s).length + k * 8 := by rw [wds_length, h s (by simp)]; omega
      rw [e]
      show ((wds s) ++ stc st).drop _ = _
      rw [List.drop_append]
      simp
theorem stc_at {st : List (List Nat)} (h : Eight st) {k : Nat} (hk : k < st.length) : ((stc st).drop (k * 8)).take 8 = wds st[k] := by
  rw [stc_drop h k (by omega), List.drop_eq_getElem_cons hk]
  show ((wds st[k]) ++ stc _).take 8 = _
  have : (wds st[k]).length = 8 := by rw [wds_length]; exact h _ (List.getElem_mem hk)
  rw [← this, List.take_left]

/-- The cells of lines. -/
def lcs : List Value → List LineS → List Value
  | v :: vs, l :: ls => v :: .int .i64 l.mark :: lcs vs ls
  | _, _ => []
theorem lcs_length : ∀ {vs : List Value} {ls : List LineS}, vs.length = ls.length → (lcs vs ls).length = ls.length * 2
  | [], [], _ => rfl
  | v :: vs, l :: ls, h => by simp only [lcs, List.length_cons] at *; rw [lcs_length (by omega)]; omega
theorem lcs_sv : ∀ {vs : List Value} {ls : List LineS} {i : Nat} (h : vs.length = ls.length) (hi : i < vs.length), (lcs vs ls)[i * 2]? = some vs[i]
  | [], _, _, _, hi => by simp at hi
  | v :: vs, l :: ls, 0, h, _ => rfl
  | v :: vs, l :: ls, i + 1, h, hi => by
    have : (i + 1) * 2 = i * 2 + 1 + 1 := by omega
    rw [this, lcs, List.getElem?_cons_succ, List.getElem?_cons_succ, lcs_sv (by simpa using h) (by simpa using hi)]; rfl
theorem lcs_mark : ∀ {vs : List Value} {ls : List LineS} {i : Nat} (h : vs.length = ls.length) (hi : i < ls.length), (lcs vs ls)[i * 2 + 1]? = some (.int .i64 ls[i].mark)
  | [], [], _, _, hi => by simp at hi
  | v :: vs, l :: ls, 0, h, _ => rfl
  | v :: vs, l :: ls, i + 1, h, hi => by
    have : (i + 1) * 2 + 1 = (i * 2 + 1) + 1 + 1 := by omega
    rw [this, lcs, List.getElem?_cons_succ, List.getElem?_cons_succ, lcs_mark (by simpa using h) (by simpa using hi)]; rfl
theorem lcs_set : ∀ {vs : List Value} {ls : List LineS} {i : Nat} {v : Value} {l : LineS} (h : vs.length = ls.length) (hi : i < ls.length),
    ((lcs vs ls).set (i * 2) v).set (i * 2 + 1) (.int .i64 l.mark) = lcs (vs.set i v) (ls.set i l)
  | [], [], _, _, _, _, hi => by simp at hi
  | v :: vs, l :: ls, 0, _, _, h, _ => rfl
  | v :: vs, l :: ls, i + 1, u, m, h, hi => by
    have e1 : (i + 1) * 2 = i * 2 + 1 + 1 := by omega
    have e2 : (i + 1) * 2 + 1 = (i * 2 + 1) + 1 + 1 := by omega
    rw [e1, lcs, List.set_cons_succ, List.set_cons_succ, List.set_cons_succ, List.set_cons_succ, lcs_set (by simpa using h) (by simpa using hi)]; rfl
theorem lcs_set_sv {vs : List Value} {ls : List LineS} {i : Nat} {v : Value} (l : LineS) (h : vs.length = ls.length) (hi : i < ls.length) (hm : l.mark = ls[i].mark) : (lcs vs ls).set (i * 2) v = lcs (vs.set i v) (ls.set i l) := by
  rw [← lcs_set h hi, hm]
  have h1 : ((lcs vs ls).set (i * 2) v)[i * 2 + 1]? = some (.int .i64 ls[i].mark) := by rw [List.getElem?_set_ne (by omega), lcs_mark h hi]
  have h2 : i * 2 + 1 < ((lcs vs ls).set (i * 2) v).length := by rw [List.length_set, lcs_length h]; omega
  have h3 : ((lcs vs ls).set (i * 2) v)[i * 2 + 1] = .int .i64 ls[i].mark := by rw [List.getElem?_eq_getElem h2] at h1; exact Option.some.inj h1
  rw [← h3, set_getElem h2]
theorem lcs_set_mark {vs : List Value} {ls : List LineS} {i : Nat} (l : LineS) (h : vs.length = ls.length) (hi : i < ls.length) : (lcs vs ls).set (i * 2 + 1) (.int .i64 l.mark) = lcs vs (ls.set i l) := by
  have hv : i < vs.length := by omega
  have := lcs_set (v := vs[i]) (l := l) h hi
  rw [set_getElem hv] at this
  rw [← this]
  have h1 := lcs_sv h hv
  have h2 : i * 2 < (lcs vs ls).length := by rw [lcs_length h]; omega
  have h3 : (lcs vs ls)[i * 2] = vs[i] := by rw [List.getElem?_eq_getElem h2] at h1; exact Option.some.inj h1
  rw [← h3, set_getElem h2]

/-- Each line's contents, owned. -/
def LinesR : List Value → List LineS → SP
  | v :: vs, l :: ls => LinesR vs ls * Sl 8 v l.st.length (stc l.st)
  | [], [] => emp
  | _, _ => pure_ False
theorem linesR_get : ∀ {vs : List Value} {ls : List LineS} {i : Nat} (h : vs.length = ls.length) (hi : i < ls.length),
    ∃ R, LinesR vs ls = R * Sl 8 (vs[i]'(by omega)) ls[i].st.length (stc ls[i].st) ∧ ∀ v l, LinesR (vs.set i v) (ls.set i l) = R * Sl 8 v l.st.length (stc l.st)
  | [], [], _, _, hi => by simp at hi
  | v :: vs, l :: ls, 0, h, _ => ⟨LinesR vs ls, rfl, fun _ _ => rfl⟩
  | v :: vs, l :: ls, i + 1, h, hi => by
    obtain ⟨R, h1, h2⟩ := linesR_get (vs := vs) (ls := ls) (i := i) (by simpa using h) (by simpa using hi)
    refine ⟨R * Sl 8 v l.st.length (stc l.st), ?_, fun u m => ?_⟩
    · simp only [LinesR, List.getElem_cons_succ]; rw [h1, star_swap]
    · simp only [List.set_cons_succ, LinesR]; rw [h2, star_swap]

/-- A slice that is shared: nobody writes it. -/
def SlR (k : Nat) (v : Value) (n : Nat) (xs : List Value) : SP := fun h => xs.length = n * k ∧
  ((v = .slice none 0 0 ∧ n = 0 ∧ h = fun _ => none) ∨
   ∃ b off cap l E, v = .slice (some ⟨b, off, none⟩) n cap ∧ n ≤ cap ∧ off + cap * k ≤ l.length ∧ (l.drop off).take (n * k) = xs ∧ ro b (cl l E) h)

def acs : List Value → List (Int × List Int) → List Value
  | v :: vs, a :: ar => .int .i64 a.1 :: v :: acs vs ar
  | _, _ => []
def KeepsR : List Value → List (Int × List Int) → SP
  | v :: vs, a :: ar => KeepsR vs ar * SlR 1 v a.2.length (ints a.2)
  | [], [] => emp
  | _, _ => pure_ False
def ArmsR (av : Value) (kvs : List Value) (ar : List (Int × List Int)) : SP := Sl 2 av ar.length (acs kvs ar) * KeepsR kvs ar

/-- The device's own cells. -/
def dcs (bl n : Nat) (s : DevS) (av : Value) : List Value := [.slice (some ⟨bl, 0, none⟩) n n, .int .i64 s.ops, av, .int .i64 s.cnt, .bool s.off]

/-- A device, its parts told. -/
def DevC (d bl : Nat) (svs : List Value) (av : Value) (kvs : List Value) (s : DevS) : SP :=
  pt d (cl (dcs bl s.ls.length s av) 97) * pt bl (cl (lcs svs s.ls) 150) * LinesR svs s.ls * ArmsR av kvs s.arms

structure WfL (l : LineS) : Prop where
  ne : l.st ≠ []
  eight : Eight l.st
  lo : -1 ≤ l.mark
  hi : l.mark < l.st.length
  small : l.st.length ≤ 2199023255552
  words : ∀ s ∈ l.st, ∀ x ∈ s, x < 18446744073709551616
structure WfD (s : DevS) : Prop where
  pos : 0 < s.ls.length
  top : s.ls.length ≤ 65536
  line : ∀ l ∈ s.ls, WfL l
  arms : s.arms.length ≤ 64
  after : ∀ a ∈ s.arms, 1 ≤ a.1 ∧ a.1 ≤ 9223372036854775807
  keeps : ∀ a ∈ s.arms, a.2.length ≤ 17592186044416 ∧ ∀ k ∈ a.2, 0 ≤ k ∧ k ≤ 9223372036854775807

/-- A device. -/
def Dev (d : Nat) (s : DevS) : SP := fun h => WfD s ∧ ∃ bl svs av kvs, svs.length = s.ls.length ∧ kvs.length = s.arms.length ∧ DevC d bl svs av kvs s h

theorem dev_iff {d : Nat} {s : DevS} {R : SP} {g : Gh} {w : World} : sat g w (R * Dev d s) ↔ WfD s ∧ ∃ bl svs av kvs, svs.length = s.ls.length ∧ kvs.length = s.arms.length ∧ sat g w (R * DevC d bl svs av kvs s) := by
  constructor
  · intro hs
    obtain ⟨_, ⟨x, y, hd, rfl, ha, hw, bl, svs, av, kvs, h1, h2, h3⟩, hx⟩ := hs.hp
    exact ⟨hw, bl, svs, av, kvs, h1, h2, hs.os, hs.tape, hs.out, _, ⟨x, y, hd, rfl, ha, h3⟩, hx⟩
  · rintro ⟨hw, bl, svs, av, kvs, h1, h2, hs⟩
    exact hs.mono fun h ⟨x, y, hd, e, ha, hb⟩ => ⟨x, y, hd, e, ha, hw, bl, svs, av, kvs, h1, h2, hb⟩

section
variable {P : Program} {n : Nat} {Q : Post} {ρ : Env} {d : Nat} {s : DevS} {R : SP}
theorem tc_dev {c : Code} (h : WfD s → ∀ bl svs av kvs, svs.length = s.ls.length → kvs.length = s.arms.length → TC P n c Q ρ (R * DevC d bl svs av kvs s)) : TC P n c Q ρ (R * Dev d s) := fun g a w ha hs => by
  obtain ⟨hw, bl, svs, av, kvs, h1, h2, hs'⟩ := dev_iff.1 hs
  exact h hw bl svs av kvs h1 h2 g a w ha hs'
theorem tl_dev {ops : Array Oper} {l : List Oper} (h : WfD s → ∀ bl svs av kvs, svs.length = s.ls.length → kvs.length = s.arms.length → TL P n ops Q l ρ (R * DevC d bl svs av kvs s)) : TL P n ops Q l ρ (R * Dev d s) := fun g a w ha hs => by
  obtain ⟨hw, bl, svs, av, kvs, h1, h2, hs'⟩ := dev_iff.1 hs
  exact h hw bl svs av kvs h1 h2 g a w ha hs'
end
theorem dev_back {d bl : Nat} {s : DevS} {R : SP} {svs kvs : List Value} {av : Value} (hw : WfD s) (h1 : svs.length = s.ls.length) (h2 : kvs.length = s.arms.length) : ∀ g w, sat g w (R * DevC d bl svs av kvs s) → sat g w (R * Dev d s) :=
  fun g w hs => dev_iff.2 ⟨hw, bl, svs, av, kvs, h1, h2, hs⟩

theorem devC_eq {d bl : Nat} {svs av kvs} {s : DevS} {R : SP} : R * DevC d bl svs av kvs s = R * ArmsR av kvs s.arms * LinesR svs s.ls * pt bl (cl (lcs svs s.ls) 150) * pt d (cl (dcs bl s.ls.length s av) 97) := by
  unfold DevC; ac_rfl


/-- One line of a device, told by itself. -/
theorem devC_focus {d bl : Nat} {svs kvs : List Value} {av : Value} {s : DevS} (h : svs.length = s.ls.length) {i : Nat} (hi : i < s.ls.length) :
    ∃ R, (∀ F, F * DevC d bl svs av kvs s = F * R * pt bl (cl (lcs svs s.ls) 150) * pt d (cl (dcs bl s.ls.length s av) 97) * Sl 8 (svs[i]'(by omega)) s.ls[i].st.length (stc s.ls[i].st)) ∧
      ∀ F v l, F * R * pt bl (cl (lcs (svs.set i v) (s.ls.set i l)) 150) * pt d (cl (dcs bl s.ls.length s av) 97) * Sl 8 v l.st.length (stc l.st) = F * DevC d bl (svs.set i v) av kvs { s with ls := s.ls.set i l } := by
  obtain ⟨R, h1, h2⟩ := linesR_get h hi
  refine ⟨R * ArmsR av kvs s.arms, fun F => ?_, fun F v l => ?_⟩
  · unfold DevC; rw [h1]; ac_rfl
  · unfold DevC; simp only [h2, List.length_set]; unfold dcs; ac_rfl

theorem sl_have' {k : Nat} {v : Value} {n : Nat} {xs : List Value} {A R : SP} (hA : A = R * Sl k v n xs) {g : Gh} {w : World} (hs : sat g w A) :
    ∃ a cap, v = .slice a n cap ∧ n ≤ cap ∧ xs.length = n * k ∧ Rd A a xs := by subst hA; exact sl_have hs

theorem slR_have {k : Nat} {v : Value} {n : Nat} {xs : List Value} {A : SP} {R : SP} (hA : A = R * SlR k v n xs) {g : Gh} {w : World} (hs : sat g w A) :
    ∃ a cap, v = .slice a n cap ∧ n ≤ cap ∧ xs.length = n * k ∧ Rd A a xs := by
  have key : ∀ {g : Gh} {w : World}, sat g w A → xs.length = n * k ∧ ((v = .slice none 0 0 ∧ n = 0) ∨ ∃ b off cap l E, v = .slice (some ⟨b, off, none⟩) n cap ∧ n ≤ cap ∧ off + cap * k ≤ l.length ∧ (l.drop off).take (n * k) = xs ∧ sat g w (R * ro b (cl l E))) := by
    intro g w hs
    rw [hA] at hs
    obtain ⟨_, ⟨x, y, hd, rfl, ha, hl, hb⟩, hx⟩ := hs.hp
    refine ⟨hl, ?_⟩
    rcases hb with ⟨e1, e2, e3⟩ | ⟨b, off, cap, l, E, e1, e2, e3, e4, e5⟩
    · exact .inl ⟨e1, e2⟩
    · exact .inr ⟨b, off, cap, l, E, e1, e2, e3, e4, hs.os, hs.tape, hs.out, _, ⟨x, y, hd, rfl, ha, e5⟩, hx⟩
  obtain ⟨hl, ⟨e1, e2⟩ | ⟨b, off, cap, l, E, e1, e2, _⟩⟩ := key hs
  · refine ⟨none, 0, by rw [e1, e2], by omega, hl, .inl ?_⟩
    rw [e2] at hl; simpa using hl
  · refine ⟨_, _, e1, e2, hl, rd_cells fun i u hu g' w' hs' => ?_⟩
    obtain ⟨hl', ⟨e1', _⟩ | ⟨b', off', cap', l', E', e1', _, _, e4', hs''⟩⟩ := key hs'
    · rw [e1] at e1'; cases e1'
    · rw [e1] at e1'
      simp only [Value.slice.injEq, Option.some.injEq, Addr.mk.injEq] at e1'
      obtain ⟨⟨rfl, rfl, _⟩, _, rfl⟩ := e1'
      exact cells_of_has has_hereR e4' i u hu g' w' hs''

/-- Which content of a line with so many is kept. -/
def kOf (keep : List Int) (i n : Nat) : Nat := if h : i < keep.length then (keep[i] % (n : Int)).toNat else 0
def goL (keep : List Int) (i : Nat) (l : LineS) : LineS := ⟨[l.st.getD (kOf keep i l.st.length) []], -1⟩
def goPart (keep : List Int) (i : Nat) (ls : List LineS) : List LineS := ls.mapIdx fun j l => if j < i then goL keep j l else l
/-- The power goes. -/
def goesS (keep : List Int) (s : DevS) : DevS := { s with ls := goPart keep s.ls.length s.ls, off := true }

theorem goPart_length (keep : List Int) (i : Nat) (ls : List LineS) : (goPart keep i ls).length = ls.length := by simp [goPart]
theorem goPart_zero (keep : List Int) (ls : List LineS) : goPart keep 0 ls = ls := by
  apply List.ext_getElem?
  intro j; simp [goPart, List.getElem?_mapIdx]
theorem goPart_at (keep : List Int) {i : Nat} {ls : List LineS} (hi : i < ls.length) : (goPart keep i ls)[i]'(by rw [goPart_length]; exact hi) = ls[i] := by simp [goPart]
theorem goPart_set (keep : List Int) {i : Nat} {ls : List LineS} (hi : i < ls.length) : (goPart keep i ls).set i (goL keep i ls[i]) = goPart keep (i + 1) ls := by
  apply List.ext_getElem?
  intro j
  by_cases hj : j = i
  · subst hj
    rw [List.getElem?_set_self (by rw [goPart_length]; exact hi)]
    simp [goPart, List.getElem?_mapIdx, hi]
  · rw [List.getElem?_set_ne (Ne.symm hj)]
    simp only [goPart, List.getElem?_mapIdx]
    by_cases hlt : j < i
    · simp [hlt, show j < i + 1 by omega]
    · simp [hlt, show ¬ j < i + 1 by omega]
theorem kOf_lt {keep : List Int} {i n : Nat} (hn : 0 < n) : kOf keep i n < n := by
  unfold kOf
  split
  · have h1 := Int.emod_lt_of_pos keep[i] (show (0 : Int) < n by omega)
    have h2 := Int.emod_nonneg keep[i] (show (n : Int) ≠ 0 by omega)
    omega
  · exact hn
theorem goL_wf {keep : List Int} {i : Nat} {l : LineS} (h : WfL l) : WfL (goL keep i l) := by
  have hp : 0 < l.st.length := List.length_pos_iff.2 h.ne
  have hk := kOf_lt (keep := keep) (i := i) hp
  have e : l.st.getD (kOf keep i l.st.length) [] = l.st[kOf keep i l.st.length] := by simp [List.getD, hk]
  refine ⟨by simp [goL], ?_, by simp [goL], by simp [goL], by simp [goL], ?_⟩
  · intro x hx; simp only [goL, List.mem_singleton] at hx; rw [hx, e]; exact h.eight _ (List.getElem_mem _)
  · intro x hx; simp only [goL, List.mem_singleton] at hx; rw [hx, e]; exact h.words _ (List.getElem_mem _)
theorem goPart_wf {keep : List Int} {i : Nat} {ls : List LineS} (h : ∀ l ∈ ls, WfL l) : ∀ l ∈ goPart keep i ls, WfL l := by
  intro l hl
  obtain ⟨j, hj, rfl⟩ := List.mem_iff_getElem.1 hl
  simp only [goPart, List.getElem_mapIdx]
  rw [goPart_length] at hj
  split
  · exact goL_wf (h _ (List.getElem_mem _))
  · exact h _ (List.getElem_mem _)
theorem goesS_wf {keep : List Int} {s : DevS} (h : WfD s) : WfD (goesS keep s) :=
  ⟨by simp [goesS, goPart_length]; exact h.pos, by simp [goesS, goPart_length]; exact h.top, goPart_wf h.line, h.arms, h.after, h.keeps⟩


theorem devC_d {F : SP} {d bl : Nat} {svs kvs : List Value} {av : Value} {s : DevS} : Has (F * DevC d bl svs av kvs s) d (cl (dcs bl s.ls.length s av) 97) := by
  rw [devC_eq]; exact has_here
theorem devC_bl {F : SP} {d bl : Nat} {svs kvs : List Value} {av : Value} {s : DevS} : Has (F * DevC d bl svs av kvs s) bl (cl (lcs svs s.ls) 150) := by
  rw [devC_eq]; exact has_left has_here
/-- The device's own numbers turn. -/
theorem devC_upd {F : SP} {d bl : Nat} {svs kvs : List Value} {av : Value} {s : DevS} (o c : Int) (f : Bool) :
    Upd (F * DevC d bl svs av kvs s) d (cl (dcs bl s.ls.length s av) 97) (cl (dcs bl s.ls.length { s with ops := o, cnt := c, off := f } av) 97) (F * DevC d bl svs av kvs { s with ops := o, cnt := c, off := f }) := by
  rw [devC_eq, devC_eq]; exact upd_here
theorem dev_cells {F : SP} {d bl : Nat} {svs kvs : List Value} {av : Value} {s : DevS} : Cells (F * DevC d bl svs av kvs s) d 0 (dcs bl s.ls.length s av) := cells_of_has (k := 5) devC_d rfl

end Go.Vl
